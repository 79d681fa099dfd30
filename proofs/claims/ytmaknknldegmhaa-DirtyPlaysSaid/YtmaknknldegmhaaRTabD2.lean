/- The reference's table of dirty pages: Drop, Add, Least. -/
import Derived.Test.YtmaknknldegmhaaRTabD
import Derived.Test.YtmaknknldegmhaaParts
namespace Go.Proofs.Ytmaknknldegmhaa
open Go.RowKit

theorem pos_place {β : Type} {l : List (Int × β)} (hr : Rising l) {i : Nat} {x : Int × β} (h : l[i]? = some x) : pos l x.1 = i := by
  obtain ⟨y, hy, hk⟩ := (has_at hr x.1).1 (has_place h)
  rcases Nat.lt_trichotomy (pos l x.1) i with h1 | h1 | h1
  · have := hr.lt h1 hy h; omega
  · exact h1
  · have := hr.lt h1 h hy; omega

set_option maxHeartbeats 1000000 in
theorem rDrop_any (w : World) (tb : Nat) (row : Option Nat) (l : List (Int × Int)) (p : Int) (h : RTabD w tb row l) (hlen : l.length ≤ 1000000) :
    Calls Try.prog 29 #[.pointer (some ⟨tb, 0, none⟩), .int .i64 p] w fun e w' => e = .returned (.bool (has l p)) ∧ RLeftD tb row (drop' l p) w w' := by
  have HTab := Sc.mk h
  obtain ⟨i0, hi, hz0, hz1, hz2⟩ := info_parts infoCloD
  obtain ⟨⟨v, hv, hc, hown⟩, hap, hr⟩ := h
  obtain ⟨A, cap, rfl, hnc, hcm⟩ := hown.slice
  obtain ⟨n, hn⟩ : ∃ n, l.length = n := ⟨_, rfl⟩
  rw [hn] at hown hlen hc
  have hc1 := cell_one hc
  have hfz := unfrozen_at hc 0
  have htlt := heap_lt hc
  have HTL := Sc.mk htlt
  have HC := Sc.mk hc
  have HN := Sc.mk hn
  have HO := Sc.mk hown
  have HR := Sc.mk hr
  have HCM := Sc.mk (And.intro (hn ▸ hnc) hcm)
  clear hown hr hc hv hap hn hnc hcm htlt
  go_enter Try.func29, Try.ntmps29
  go_wp2
  go_loop [5] (fun s5 => ∃ i : Nat, s5 = .int .i64 i ∧ i ≤ n ∧ Sc (∀ j x, j < i → l[j]? = some x → x.1 ≠ p)) (fun s5 => n - (intOf s5).toNat)
  case atStart => exact ⟨0, rfl, by omega, ⟨fun j x hj => absurd hj (Nat.not_lt_zero _)⟩⟩
  case round =>
    obtain ⟨i, rfl, hi', HI⟩ := hrel
    by_cases hlt : i < n
    · obtain ⟨x, hx⟩ : ∃ x, l[i]? = some x := ⟨_, List.getElem?_eq_getElem (by rw [HN.out]; exact hlt)⟩
      obtain ⟨g, cq, he, _, hgw, _, _⟩ := HO.out.form (by rw [HN.out]; omega)
      injection he with hA hn2 hC
      subst hA
      obtain ⟨d0, d1⟩ := HO.out.cells2 hx
      have HX := Sc.mk hx
      have hil : (i : Int) < n := by omega
      clear hx hC hn2
      by_cases hp : x.1 = p
      · have hb : (x.1 == p) = true := by simp [hp]
        have HL : Sc (has l p = true) := ⟨by rw [← hp]; exact has_place HX.out⟩
        have HD : Sc (drop' l p = l.take i ++ l.drop (i + 1)) := ⟨by rw [drop'_yes HL.out, ← hp, pos_place HR.out HX.out]⟩
        have HTk := Sc.mk (HO.out.take kind2 (k := i) (by omega))
        have HTl : Sc (∀ j u, (flat enc2 (l.drop (i + 1)))[j]? = some u → w.cell? ((⟨g, (i + 1) * 2, none⟩ : Addr).add j) = some u) := ⟨HO.out.tail kind2 (i + 1)⟩
        have HT : Sc ((l.take i).length = i) := ⟨by rw [List.length_take, HN.out]; omega⟩
        have HE : Sc ((l.drop (i + 1)).length = n - (i + 1)) := ⟨by rw [List.length_drop, HN.out]⟩
        have n0 : i ≤ cap := by have := HCM.out.1; omega
        have n1 : n ≤ cap := HCM.out.1
        have n2 : (i : Int) ≤ cap := by omega
        have n3 : (i : Int) + 1 ≤ n := by omega
        have n4 : ((i : Int) + 1).toNat = i + 1 := by omega
        have n5 : (0 : Int) ≤ (i : Int) + 1 := by omega
        have n6 : (n : Int) ≤ cap := by omega
        clear hp
        by_cases hcap : cap = i + 1
        · subst hcap
          have HTl2 := HTl
          have HTl : Sc (∀ j u, (flat enc2 (l.drop (i + 1)))[j]? = some u → w.cell? ((⟨g, 0, none⟩ : Addr).add j) = some u) := ⟨fun j u hj => by
            have hz : l.drop (i + 1) = [] := List.eq_nil_of_length_eq_zero (by rw [HE.out]; omega)
            rw [hz] at hj; cases hj⟩
          clear HTl2
          go_wp2_with (first | (go_at_call 16; refine (dirtyCopy_any w 0 _ (l.take i) HTk.out (by rw [HT.out]; omega)).mono ?_; rintro e w2 ⟨v2, rfl, ho, hb2⟩; obtain ⟨A2, c2, rfl, _, _⟩ := ho.slice; have hcw2 := (hb2.block _ HTL.out).trans HC.out; have hc2 := cell_one hcw2; have HO2 := Sc.mk ho; have HB2 := Sc.mk hb2; rw [HT.out] at HO2 ⊢; clear ho hb2 hcw2) | (at_builtin; go_loud (refine wpList_append_own_at _ rfl (.tmp 34) (.tmp 41) 24 rfl w.heap.size 32 i0 (.agg #[.int .i64 0, .int .i64 0]) 2 16 Try.underlying24 hi hz0 hz1 hz2 rfl (by decide) _ i (flat enc2 (l.take i)) rfl (HO2.out.rows HT.out) ⟨g, 0, none⟩ 0 0 (flat enc2 (l.drop (i + 1))) rfl ?c1 (cells_below HB2.out HTl.out) (kind2.flat_one _) ?c3 ?c4 ?c5 ?_)))
          case c1 => rw [kind2.flat_length, HE.out]; omega
          case c3 => unfold maxLen; omega
          case c4 => omega
          case c5 => exact HB2.out.size
          intro v3 w3 h1 h2 h3 h4
          have H1 : Sc (Own enc2 2 32 w.heap.size w3 v3 (drop' l p)) := ⟨Own.of_rows h1 (by rw [HD.out, List.length_append, HT.out, HE.out]; omega) (by rw [HD.out, flat_append])⟩
          have H2 : Sc (Below w.heap.size w w3) := ⟨HB2.out.grown h2 HB2.out.size (fun k hk => (HO2.out.lt k hk).1)⟩
          have hcw3 := (H2.out.block _ HTL.out).trans HC.out
          have hc3 := cell_one hcw3
          have hf3 := unfrozen_at hcw3 0
          have HC3 := Sc.mk hcw3
          obtain ⟨A3, n3', c3, rfl⟩ := H1.out.slice3
          clear h1 h2 h3 h4 hcw3
          go_wp2
          go_ret
          refine ⟨by rw [HL.out]; rfl, ?_⟩
          exact RLeftD.stored HC3.out (H1.out.mono (Nat.zero_le _)) (drop'_rising HR.out p) HTL.out (Kp.of_below H2.out _) (fun q hq => (H1.out.lt q hq).1)
        · go_wp2_with (first | (go_at_call 16; refine (dirtyCopy_any w 0 _ (l.take i) HTk.out (by rw [HT.out]; omega)).mono ?_; rintro e w2 ⟨v2, rfl, ho, hb2⟩; obtain ⟨A2, c2, rfl, _, _⟩ := ho.slice; have hcw2 := (hb2.block _ HTL.out).trans HC.out; have hc2 := cell_one hcw2; have HO2 := Sc.mk ho; have HB2 := Sc.mk hb2; rw [HT.out] at HO2 ⊢; clear ho hb2 hcw2) | (at_builtin; go_loud (refine wpList_append_own_at _ rfl (.tmp 34) (.tmp 41) 24 rfl w.heap.size 32 i0 (.agg #[.int .i64 0, .int .i64 0]) 2 16 Try.underlying24 hi hz0 hz1 hz2 rfl (by decide) _ i (flat enc2 (l.take i)) rfl (HO2.out.rows HT.out) ⟨g, (i + 1) * 2, none⟩ (n - (i + 1)) (cap - (i + 1)) (flat enc2 (l.drop (i + 1))) rfl ?c1 (cells_below HB2.out HTl.out) (kind2.flat_one _) ?c3 ?c4 ?c5 ?_)))
          case c1 => rw [kind2.flat_length, HE.out]
          case c3 => unfold maxLen; omega
          case c4 => omega
          case c5 => exact HB2.out.size
          intro v3 w3 h1 h2 h3 h4
          have H1 : Sc (Own enc2 2 32 w.heap.size w3 v3 (drop' l p)) := ⟨Own.of_rows h1 (by rw [HD.out, List.length_append, HT.out, HE.out]) (by rw [HD.out, flat_append])⟩
          have H2 : Sc (Below w.heap.size w w3) := ⟨HB2.out.grown h2 HB2.out.size (fun k hk => (HO2.out.lt k hk).1)⟩
          have hcw3 := (H2.out.block _ HTL.out).trans HC.out
          have hc3 := cell_one hcw3
          have hf3 := unfrozen_at hcw3 0
          have HC3 := Sc.mk hcw3
          obtain ⟨A3, n3', c3, rfl⟩ := H1.out.slice3
          clear h1 h2 h3 h4 hcw3
          go_wp2
          go_ret
          refine ⟨by rw [HL.out]; rfl, ?_⟩
          exact RLeftD.stored HC3.out (H1.out.mono (Nat.zero_le _)) (drop'_rising HR.out p) HTL.out (Kp.of_below H2.out _) (fun q hq => (H1.out.lt q hq).1)
      · have hb : (x.1 == p) = false := by simp [hp]
        have HJ : Sc (∀ j y, j < i + 1 → l[j]? = some y → y.1 ≠ p) := ⟨fun j y hj hy => by
          rcases Nat.lt_succ_iff_lt_or_eq.1 hj with h | h
          · exact HI.out j y h hy
          · subst h; have h1 := HX.out; rw [hy] at h1; injection h1 with h1; subst h1; exact hp⟩
        clear hp
        go_wp2
        go_round
        case rel => exact ⟨i + 1, by go_num, by omega, HJ⟩
        case measure => simp [intOf]; omega
    · obtain rfl : i = n := by omega
      have HL : Sc (has l p = false) := ⟨by
        cases hh : has l p with
        | false => rfl
        | true =>
          obtain ⟨x, hx, hk⟩ := has_iff.1 hh
          obtain ⟨j, hj⟩ := List.mem_iff_getElem?.1 hx
          exact absurd hk (HI.out j x (by rw [← HN.out]; exact (List.getElem?_eq_some_iff.1 hj).1) hj)⟩
      go_wp2
      go_ret
      exact ⟨by rw [HL.out]; rfl, by rw [drop'_no HL.out]; exact RLeftD.same HTab.out (Below.refl _ _)⟩

theorem least_snoc (l : List (Int × Int)) (x : Int × Int) : least (l ++ [x]) = if l = [] then x.2 else if x.2 < least l then x.2 else least l := by
  cases l with
  | nil => rfl
  | cons a r =>
    rw [if_neg (by simp)]
    show (minD a (r ++ [x])).2 = if x.2 < (minD a r).2 then x.2 else (minD a r).2
    unfold minD
    rw [List.foldl_append]
    show (if x.2 < _ then x else _).2 = _
    split
    · rfl
    · rfl

set_option maxHeartbeats 1000000 in
theorem rLeast_any (w : World) (tb : Nat) (row : Option Nat) (l : List (Int × Int)) (h : RTabD w tb row l) (hlen : l.length ≤ 1000000) :
    Calls Try.prog 34 #[.pointer (some ⟨tb, 0, none⟩)] w fun e w' => e = .returned (.int .i64 (least l)) ∧ w = w' := by
  obtain ⟨⟨v, hv, hc, hown⟩, hap, hr⟩ := h
  obtain ⟨A, cap, rfl, hnc, hcm⟩ := hown.slice
  obtain ⟨n, hn⟩ : ∃ n, l.length = n := ⟨_, rfl⟩
  rw [hn] at hown hlen hc
  have hc1 := cell_one hc
  have HN := Sc.mk hn
  have HO := Sc.mk hown
  clear hown hr hc hv hap hn hnc
  go_enter Try.func34, Try.ntmps34
  go_wp2
  go_loop [3, 4] (fun s3 s4 => ∃ (i : Nat) (m : Int), s3 = .int .i64 m ∧ s4 = .int .i64 i ∧ i ≤ n ∧ Sc (m = least (l.take i))) (fun _ s4 => n - (intOf s4).toNat)
  case atStart => exact ⟨0, 0, rfl, rfl, by omega, ⟨by rw [List.take_zero]; rfl⟩⟩
  case round =>
    obtain ⟨i, m, rfl, rfl, hi, HM⟩ := hrel
    by_cases hlt : i < n
    · obtain ⟨x, hx⟩ : ∃ x, l[i]? = some x := ⟨_, List.getElem?_eq_getElem (by rw [HN.out]; exact hlt)⟩
      obtain ⟨g, cq, he, _, _, _, _⟩ := HO.out.form (by rw [HN.out]; omega)
      injection he with hA hn2 hC
      subst hA
      obtain ⟨d0, d1⟩ := HO.out.cells2 hx
      have hil : (i : Int) < n := by omega
      have HS : Sc (least (l.take (i + 1)) = if i = 0 then x.2 else if x.2 < m then x.2 else m) := ⟨by
        rw [List.take_add_one, hx]
        show least (l.take i ++ [x]) = _
        rw [least_snoc, ← HM.out]
        by_cases h0 : i = 0
        · subst h0; rw [if_pos rfl, List.take_zero, if_pos rfl]
        · rw [if_neg h0, if_neg (fun h => h0 (by have := congrArg List.length h; rw [List.length_take, HN.out] at this; simp at this; omega))]⟩
      clear hx hC hn2
      rcases Nat.eq_zero_or_pos i with rfl | h0
      · have HS2 : Sc (x.2 = least (l.take (0 + 1))) := ⟨by rw [HS.out, if_pos rfl]⟩
        go_wp2
        go_round
        case rel => exact ⟨1, x.2, rfl, by go_num, by omega, HS2⟩
        case measure => simp [intOf]; omega
      · have h0b : ((i : Int) == 0) = false := by rw [beq_eq_false_iff_ne]; omega
        by_cases hp : x.2 < m
        · have HS2 : Sc (x.2 = least (l.take (i + 1))) := ⟨by rw [HS.out, if_neg (by omega), if_pos hp]⟩
          go_wp2
          go_round
          case rel => exact ⟨i + 1, x.2, rfl, by go_num, by omega, HS2⟩
          case measure => simp [intOf]; omega
        · have HS2 : Sc (m = least (l.take (i + 1))) := ⟨by rw [HS.out, if_neg (by omega), if_neg hp]⟩
          go_wp2
          go_round
          case rel => exact ⟨i + 1, m, rfl, by go_num, by omega, HS2⟩
          case measure => simp [intOf]; omega
    · obtain rfl : i = n := by omega
      have HL : Sc (m = least l) := ⟨by rw [HM.out, ← HN.out, List.take_length]⟩
      go_wp2
      go_ret
      exact ⟨by rw [← HL.out]; rfl, rfl⟩

set_option maxRecDepth 4000 in
set_option maxHeartbeats 4000000 in
theorem rAdd_any (w : World) (tb : Nat) (row : Option Nat) (l : List (Int × Int)) (p f : Int) (h : RTabD w tb row l) (hlen : l.length ≤ 1000000) :
    Calls Try.prog 30 #[.pointer (some ⟨tb, 0, none⟩), .int .i64 p, .int .i64 f] w fun e w' => e = .returned (.tuple #[]) ∧ RLeftD tb row (add l (p, f)) w w' := by
  have HTab := Sc.mk h
  have HLen := Sc.mk hlen
  cases hh : has l p with
  | true =>
    have HH := Sc.mk hh
    have HE : Sc (add l (p, f) = l) := ⟨add_there hh⟩
    clear h hh hlen
    go_enter Try.func30, Try.ntmps30
    go_wp2_with (go_at_call 32; refine (rFrom_any w tb row l p HTab.out HLen.out).mono ?_; rintro e w1 ⟨rfl, rfl⟩; rw [HH.out])
    (try simp only [Exit.inBlock, Exit.then])
    refine bodyPost_ret (results_none rfl _ _ _) rfl ?_
    exact ⟨rfl, by rw [HE.out]; exact RLeftD.same HTab.out (Below.refl _ _)⟩
  | false =>
    obtain ⟨i0, hi, hz0, hz1, hz2⟩ := info_parts infoCloD
    obtain ⟨⟨v, hv, hc, hown⟩, hap, hr⟩ := h
    have hfz := unfrozen_at hc 0
    have HTL := Sc.mk (heap_lt hc)
    have HR := Sc.mk hr
    have HH := Sc.mk hh
    have HAR := Sc.mk (add_rising hr (p, f))
    obtain ⟨K, hK⟩ : ∃ K, pos l p = K := ⟨_, rfl⟩
    have hKn : K ≤ l.length := by rw [← hK]; exact pos_le l p
    have HK := Sc.mk hK
    have HD : Sc (add l (p, f) = (l.take K ++ [(p, f)]) ++ l.drop K) := ⟨by
      unfold add put
      rw [if_neg (by rw [hh]; exact Bool.false_ne_true)]
      show l.take (pos l p) ++ (p, f) :: l.drop (pos l p) = _
      rw [hK, List.append_assoc]; rfl⟩
    clear hr hh hap hK
    rcases hown.2 with ⟨rfl, h0⟩ | ⟨g, cap, cur, rfl, hb, hg, hn1, hcm1, hs, ht⟩
    · obtain rfl : l = [] := List.eq_nil_of_length_eq_zero h0
      obtain rfl : K = 0 := by simpa using hKn
      have hc1 := cell_one hc
      have HC := Sc.mk hc
      have HTk : Sc (Own enc2 2 32 0 w (.slice none 0 0) ((([] : List (Int × Int))).take 0)) := ⟨Own.nil⟩
      have HT : Sc ((([] : List (Int × Int)).take 0).length = 0) := ⟨rfl⟩
      have HE : Sc ((([] : List (Int × Int)).drop 0).length = 0) := ⟨rfl⟩
      clear hc hown h0 hv hKn hlen
      go_enter Try.func30, Try.ntmps30
      go_wp2_with (go_at_call 32; refine (rFrom_any w tb row [] p HTab.out HLen.out).mono ?_; rintro e w1 ⟨rfl, rfl⟩; rw [HH.out])
      go_loop [8] (fun s8 => s8 = .int .i64 0) (fun s8 => (0 : Nat))
      case atStart => rfl
      case round =>
        obtain rfl := hrel
        go_wp2_with (first | (go_at_call 16; refine (dirtyCopy_any w 0 _ (([] : List (Int × Int)).take 0) HTk.out (by rw [HT.out]; omega)).mono ?_; rintro e w2 ⟨v2, rfl, ho, hb2⟩; obtain ⟨A2, c2, rfl, _, _⟩ := ho.slice; have HO2 := Sc.mk ho; have HB2 := Sc.mk hb2; rw [HT.out] at HO2 ⊢; clear ho hb2) | (at_builtin; refine wpList_append_own_at _ rfl (.tmp 44) (.tmp 48) 24 rfl w.heap.size 32 i0 (.agg #[.int .i64 0, .int .i64 0]) 2 16 Try.underlying24 hi hz0 hz1 hz2 rfl (by decide) _ 0 (flat enc2 (([] : List (Int × Int)).take 0)) rfl ((HO2.out.rows HT.out).alloc _) _ 1 1 (enc2 (p, f)) rfl rfl ?c1 ?c2 ?c3 ?c4 ?c5 ?_))
        case c1 => exact World.news_of_block (heap_alloc_new _ _)
        case c2 => exact kind2.one (p, f)
        case c3 => unfold maxLen; omega
        case c4 => omega
        case c5 => have := HB2.out.size; simp; omega
        intro v3 w3 h1 h2 h3 h4
        have HO3 : Sc (Own enc2 2 32 w.heap.size w3 v3 (([] : List (Int × Int)).take 0 ++ [(p, f)])) := ⟨Own.of_rows h1 (by rw [List.length_append, HT.out]; rfl) (by rw [flat_append, flat_single]; try rfl)⟩
        have HB3 : Sc (Below w.heap.size w w3) := ⟨(HB2.out.alloc HB2.out.size _).grown h2 (by have := HB2.out.size; simp; omega) (fun k hk => (HO2.out.lt k hk).1)⟩
        have hcw3 := (HB3.out.block _ HTL.out).trans HC.out
        have hc3 := cell_one hcw3
        obtain ⟨A3, c3, rfl, hle3, _⟩ := HO3.out.slice
        have HT3 : Sc ((([] : List (Int × Int)).take 0 ++ [(p, f)]).length = 0 + 1) := ⟨by rw [List.length_append, HT.out]; rfl⟩
        rw [HT3.out] at HO3 hle3 ⊢
        clear h1 h2 h3 h4 hcw3
        have hf3 := unfrozen_at ((HB3.out.block _ HTL.out).trans HC.out) 0
        go_wp2_with (at_builtin; go_loud (refine Lib.wpList_append_run _ rfl (.tmp 51) (.tmp 57) 24 24 rfl _ _ rfl rfl _ _ (run_append_none _ _ _ _ _ Try.underlying24 hi _ _ _ hle3) ?_))
        have H1 : Sc (Own enc2 2 32 w.heap.size w3 (.slice A3 (0 + 1) c3) (add [] (p, f))) := ⟨by rw [HD.out]; exact HO3.out⟩
        have H2 := HB3
        go_wp2
        go_end0
        refine ⟨rfl, ?_⟩
        exact RLeftD.stored ((H2.out.block _ HTL.out).trans HC.out) (H1.out.mono (Nat.zero_le _)) HAR.out HTL.out (Kp.of_below H2.out _) (fun q hq => (H1.out.lt q hq).1)
    · obtain ⟨n, hn⟩ : ∃ n, l.length = n := ⟨_, rfl⟩
      rw [hn] at hown hlen hc hKn hn1
      have hc1 := cell_one hc
      have HC := Sc.mk hc
      have HN := Sc.mk hn
      have HO := Sc.mk hown
      have HTk := Sc.mk (hown.take kind2 hKn)
      have HT : Sc ((l.take K).length = K) := ⟨by rw [List.length_take, hn]; omega⟩
      have HE : Sc ((l.drop K).length = n - K) := ⟨by rw [List.length_drop, hn]⟩
      have HTl0 : Sc (∀ j u, (flat enc2 (l.drop K))[j]? = some u → w.cell? ((⟨g, K * 2, none⟩ : Addr).add j) = some u) := ⟨hown.tail kind2 K⟩
      have n6 : (n : Int) ≤ cap := by omega
      have n7 : (K : Int) ≤ cap := by omega
      have n8 : (K : Int) ≤ n := by omega
      have n9 : K ≤ cap := by omega
      clear hown hc hv hn hs ht hb hg hcm1
      go_enter Try.func30, Try.ntmps30
      go_wp2_with (go_at_call 32; refine (rFrom_any w tb row l p HTab.out HLen.out).mono ?_; rintro e w1 ⟨rfl, rfl⟩; rw [HH.out])
      go_loop [8] (fun s8 => ∃ j : Nat, s8 = .int .i64 j ∧ j ≤ K) (fun s8 => K - (intOf s8).toNat)
      case atStart => exact ⟨0, rfl, by omega⟩
      case round =>
        obtain ⟨j, rfl, hj⟩ := hrel
        by_cases hlt : j < K
        · obtain ⟨x, hx⟩ : ∃ x, l[j]? = some x := ⟨_, List.getElem?_eq_getElem (by rw [HN.out]; omega)⟩
          obtain ⟨d0, d1⟩ := HO.out.cells2 hx
          have hp : x.1 < p := (pos_below HR.out p hx).1 (by rw [HK.out]; exact hlt)
          have hjn : (j : Int) < n := by omega
          clear hx
          go_wp2
          go_round
          case rel => exact ⟨j + 1, by go_num, by omega⟩
          case measure => simp [intOf]; omega
        · obtain rfl : j = K := by omega
          by_cases hlt2 : j < n
          · obtain ⟨x, hx⟩ : ∃ x, l[j]? = some x := ⟨_, List.getElem?_eq_getElem (by rw [HN.out]; omega)⟩
            obtain ⟨d0, d1⟩ := HO.out.cells2 hx
            have hp : ¬ x.1 < p := fun h => by have := (pos_below HR.out p hx).2 h; have := HK.out; omega
            have hjn : (j : Int) < n := by omega
            have hcap : ¬ cap = j := by omega
            clear hx
            go_wp2_with (first | (go_at_call 16; refine (dirtyCopy_any w 0 _ (l.take j) HTk.out (by rw [HT.out]; omega)).mono ?_; rintro e w2 ⟨v2, rfl, ho, hb2⟩; obtain ⟨A2, c2, rfl, _, _⟩ := ho.slice; have HO2 := Sc.mk ho; have HB2 := Sc.mk hb2; rw [HT.out] at HO2 ⊢; clear ho hb2) | (at_builtin; refine wpList_append_own_at _ rfl (.tmp 44) (.tmp 48) 24 rfl w.heap.size 32 i0 (.agg #[.int .i64 0, .int .i64 0]) 2 16 Try.underlying24 hi hz0 hz1 hz2 rfl (by decide) _ j (flat enc2 (l.take j)) rfl ((HO2.out.rows HT.out).alloc _) _ 1 1 (enc2 (p, f)) rfl rfl ?c1 ?c2 ?c3 ?c4 ?c5 ?_))
            case c1 => exact World.news_of_block (heap_alloc_new _ _)
            case c2 => exact kind2.one (p, f)
            case c3 => unfold maxLen; omega
            case c4 => omega
            case c5 => have := HB2.out.size; simp; omega
            intro v3 w3 h1 h2 h3 h4
            have HO3 : Sc (Own enc2 2 32 w.heap.size w3 v3 (l.take j ++ [(p, f)])) := ⟨Own.of_rows h1 (by rw [List.length_append, HT.out]; rfl) (by rw [flat_append, flat_single]; try rfl)⟩
            have HB3 : Sc (Below w.heap.size w w3) := ⟨(HB2.out.alloc HB2.out.size _).grown h2 (by have := HB2.out.size; simp; omega) (fun k hk => (HO2.out.lt k hk).1)⟩
            have hcw3 := (HB3.out.block _ HTL.out).trans HC.out
            have hc3 := cell_one hcw3
            obtain ⟨A3, c3, rfl, hle3, _⟩ := HO3.out.slice
            have HT3 : Sc ((l.take j ++ [(p, f)]).length = j + 1) := ⟨by rw [List.length_append, HT.out]; rfl⟩
            rw [HT3.out] at HO3 hle3 ⊢
            clear h1 h2 h3 h4 hcw3
            go_wp2_with (at_builtin; go_loud (refine wpList_append_own_at _ rfl (.tmp 51) (.tmp 57) 24 rfl w.heap.size 32 i0 (.agg #[.int .i64 0, .int .i64 0]) 2 16 Try.underlying24 hi hz0 hz1 hz2 rfl (by decide) _ (j + 1) (flat enc2 (l.take j ++ [(p, f)])) rfl (HO3.out.rows HT3.out) ⟨g, j * 2, none⟩ (n - j) (cap - j) (flat enc2 (l.drop j)) rfl ?c1 (cells_below HB3.out HTl0.out) (kind2.flat_one _) ?c3 ?c4 ?c5 ?_))
            case c1 => rw [kind2.flat_length, HE.out] <;> omega
            case c3 => unfold maxLen; omega
            case c4 => omega
            case c5 => exact HB3.out.size
            intro v4 w4 h1 h2 h3 h4
            have H1 : Sc (Own enc2 2 32 w.heap.size w4 v4 (add l (p, f))) := ⟨Own.of_rows h1 (by rw [HD.out, List.length_append, HT3.out, HE.out] <;> omega) (by rw [HD.out]; simp only [flat_append])⟩
            have H2 : Sc (Below w.heap.size w w4) := ⟨HB3.out.grown h2 HB3.out.size (fun k hk => (HO3.out.lt k hk).1)⟩
            have hcw4 := (H2.out.block _ HTL.out).trans HC.out
            have hc4 := cell_one hcw4
            have hf4 := unfrozen_at hcw4 0
            have HC4 := Sc.mk hcw4
            obtain ⟨A4, n4, c4, rfl⟩ := H1.out.slice3
            clear h1 h2 h3 h4 hcw4
            go_wp2
            go_end0
            refine ⟨rfl, ?_⟩
            exact RLeftD.stored HC4.out (H1.out.mono (Nat.zero_le _)) HAR.out HTL.out (Kp.of_below H2.out _) (fun q hq => (H1.out.lt q hq).1)
          · obtain rfl : j = n := by omega
            have hz : l.drop j = [] := List.drop_eq_nil_of_le (by rw [HN.out]; exact Nat.le_refl _)
            by_cases hcap : cap = j
            · subst hcap
              have HTl : Sc (∀ t u, (flat enc2 (l.drop cap))[t]? = some u → w.cell? ((⟨g, 0, none⟩ : Addr).add t) = some u) := ⟨fun t u ht => by rw [hz] at ht; cases ht⟩
              clear hz HTl0
              go_wp2_with (first | (go_at_call 16; refine (dirtyCopy_any w 0 _ (l.take cap) HTk.out (by rw [HT.out]; omega)).mono ?_; rintro e w2 ⟨v2, rfl, ho, hb2⟩; obtain ⟨A2, c2, rfl, _, _⟩ := ho.slice; have HO2 := Sc.mk ho; have HB2 := Sc.mk hb2; rw [HT.out] at HO2 ⊢; clear ho hb2) | (at_builtin; refine wpList_append_own_at _ rfl (.tmp 44) (.tmp 48) 24 rfl w.heap.size 32 i0 (.agg #[.int .i64 0, .int .i64 0]) 2 16 Try.underlying24 hi hz0 hz1 hz2 rfl (by decide) _ cap (flat enc2 (l.take cap)) rfl ((HO2.out.rows HT.out).alloc _) _ 1 1 (enc2 (p, f)) rfl rfl ?c1 ?c2 ?c3 ?c4 ?c5 ?_))
              case c1 => exact World.news_of_block (heap_alloc_new _ _)
              case c2 => exact kind2.one (p, f)
              case c3 => unfold maxLen; omega
              case c4 => omega
              case c5 => have := HB2.out.size; simp; omega
              intro v3 w3 h1 h2 h3 h4
              have HO3 : Sc (Own enc2 2 32 w.heap.size w3 v3 (l.take cap ++ [(p, f)])) := ⟨Own.of_rows h1 (by rw [List.length_append, HT.out]; rfl) (by rw [flat_append, flat_single]; try rfl)⟩
              have HB3 : Sc (Below w.heap.size w w3) := ⟨(HB2.out.alloc HB2.out.size _).grown h2 (by have := HB2.out.size; simp; omega) (fun k hk => (HO2.out.lt k hk).1)⟩
              have hcw3 := (HB3.out.block _ HTL.out).trans HC.out
              have hc3 := cell_one hcw3
              obtain ⟨A3, c3, rfl, hle3, _⟩ := HO3.out.slice
              have HT3 : Sc ((l.take cap ++ [(p, f)]).length = cap + 1) := ⟨by rw [List.length_append, HT.out]; rfl⟩
              rw [HT3.out] at HO3 hle3 ⊢
              clear h1 h2 h3 h4 hcw3
              go_wp2_with (at_builtin; go_loud (refine wpList_append_own_at _ rfl (.tmp 51) (.tmp 57) 24 rfl w.heap.size 32 i0 (.agg #[.int .i64 0, .int .i64 0]) 2 16 Try.underlying24 hi hz0 hz1 hz2 rfl (by decide) _ (cap + 1) (flat enc2 (l.take cap ++ [(p, f)])) rfl (HO3.out.rows HT3.out) ⟨g, 0, none⟩ 0 0 (flat enc2 (l.drop cap)) rfl ?c1 (cells_below HB3.out HTl.out) (kind2.flat_one _) ?c3 ?c4 ?c5 ?_))
              case c1 => rw [kind2.flat_length, HE.out] <;> omega
              case c3 => unfold maxLen; omega
              case c4 => omega
              case c5 => exact HB3.out.size
              intro v4 w4 h1 h2 h3 h4
              have H1 : Sc (Own enc2 2 32 w.heap.size w4 v4 (add l (p, f))) := ⟨Own.of_rows h1 (by rw [HD.out, List.length_append, HT3.out, HE.out] <;> omega) (by rw [HD.out]; simp only [flat_append])⟩
              have H2 : Sc (Below w.heap.size w w4) := ⟨HB3.out.grown h2 HB3.out.size (fun k hk => (HO3.out.lt k hk).1)⟩
              have hcw4 := (H2.out.block _ HTL.out).trans HC.out
              have hc4 := cell_one hcw4
              have hf4 := unfrozen_at hcw4 0
              have HC4 := Sc.mk hcw4
              obtain ⟨A4, n4, c4, rfl⟩ := H1.out.slice3
              clear h1 h2 h3 h4 hcw4
              go_wp2
              go_end0
              refine ⟨rfl, ?_⟩
              exact RLeftD.stored HC4.out (H1.out.mono (Nat.zero_le _)) HAR.out HTL.out (Kp.of_below H2.out _) (fun q hq => (H1.out.lt q hq).1)
            · have HTl : Sc (∀ t u, (flat enc2 (l.drop j))[t]? = some u → w.cell? ((⟨g, j * 2, none⟩ : Addr).add t) = some u) := ⟨fun t u ht => by rw [hz] at ht; cases ht⟩
              clear hz
              go_wp2_with (first | (go_at_call 16; refine (dirtyCopy_any w 0 _ (l.take j) HTk.out (by rw [HT.out]; omega)).mono ?_; rintro e w2 ⟨v2, rfl, ho, hb2⟩; obtain ⟨A2, c2, rfl, _, _⟩ := ho.slice; have HO2 := Sc.mk ho; have HB2 := Sc.mk hb2; rw [HT.out] at HO2 ⊢; clear ho hb2) | (at_builtin; refine wpList_append_own_at _ rfl (.tmp 44) (.tmp 48) 24 rfl w.heap.size 32 i0 (.agg #[.int .i64 0, .int .i64 0]) 2 16 Try.underlying24 hi hz0 hz1 hz2 rfl (by decide) _ j (flat enc2 (l.take j)) rfl ((HO2.out.rows HT.out).alloc _) _ 1 1 (enc2 (p, f)) rfl rfl ?c1 ?c2 ?c3 ?c4 ?c5 ?_))
              case c1 => exact World.news_of_block (heap_alloc_new _ _)
              case c2 => exact kind2.one (p, f)
              case c3 => unfold maxLen; omega
              case c4 => omega
              case c5 => have := HB2.out.size; simp; omega
              intro v3 w3 h1 h2 h3 h4
              have HO3 : Sc (Own enc2 2 32 w.heap.size w3 v3 (l.take j ++ [(p, f)])) := ⟨Own.of_rows h1 (by rw [List.length_append, HT.out]; rfl) (by rw [flat_append, flat_single]; try rfl)⟩
              have HB3 : Sc (Below w.heap.size w w3) := ⟨(HB2.out.alloc HB2.out.size _).grown h2 (by have := HB2.out.size; simp; omega) (fun k hk => (HO2.out.lt k hk).1)⟩
              have hcw3 := (HB3.out.block _ HTL.out).trans HC.out
              have hc3 := cell_one hcw3
              obtain ⟨A3, c3, rfl, hle3, _⟩ := HO3.out.slice
              have HT3 : Sc ((l.take j ++ [(p, f)]).length = j + 1) := ⟨by rw [List.length_append, HT.out]; rfl⟩
              rw [HT3.out] at HO3 hle3 ⊢
              clear h1 h2 h3 h4 hcw3
              go_wp2_with (at_builtin; go_loud (refine wpList_append_own_at _ rfl (.tmp 51) (.tmp 57) 24 rfl w.heap.size 32 i0 (.agg #[.int .i64 0, .int .i64 0]) 2 16 Try.underlying24 hi hz0 hz1 hz2 rfl (by decide) _ (j + 1) (flat enc2 (l.take j ++ [(p, f)])) rfl (HO3.out.rows HT3.out) ⟨g, j * 2, none⟩ 0 (cap - j) (flat enc2 (l.drop j)) rfl ?c1 (cells_below HB3.out HTl.out) (kind2.flat_one _) ?c3 ?c4 ?c5 ?_))
              case c1 => rw [kind2.flat_length, HE.out] <;> omega
              case c3 => unfold maxLen; omega
              case c4 => omega
              case c5 => exact HB3.out.size
              intro v4 w4 h1 h2 h3 h4
              have H1 : Sc (Own enc2 2 32 w.heap.size w4 v4 (add l (p, f))) := ⟨Own.of_rows h1 (by rw [HD.out, List.length_append, HT3.out, HE.out] <;> omega) (by rw [HD.out]; simp only [flat_append])⟩
              have H2 : Sc (Below w.heap.size w w4) := ⟨HB3.out.grown h2 HB3.out.size (fun k hk => (HO3.out.lt k hk).1)⟩
              have hcw4 := (H2.out.block _ HTL.out).trans HC.out
              have hc4 := cell_one hcw4
              have hf4 := unfrozen_at hcw4 0
              have HC4 := Sc.mk hcw4
              obtain ⟨A4, n4, c4, rfl⟩ := H1.out.slice3
              clear h1 h2 h3 h4 hcw4
              go_wp2
              go_end0
              refine ⟨rfl, ?_⟩
              exact RLeftD.stored HC4.out (H1.out.mono (Nat.zero_le _)) HAR.out HTL.out (Kp.of_below H2.out _) (fun q hq => (H1.out.lt q hq).1)
end Go.Proofs.Ytmaknknldegmhaa
