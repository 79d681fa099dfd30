/- The reference's table of dirty pages: what each of its calls comes to. -/
import Derived.Test.YtoapihepdallbaaDoorRefD
import Derived.Test.YtoapihepdallbaaDoorFTabD
import Derived.Test.YtoapihepdallbaaDoorParts
namespace Go.Proofs.YtoapihepdallbaaDoor
open Go.RowKit

/-- The other fields of the document's finder. -/
structure RestRD where
  lp : Value
  vt : Value
  m : Int
variable {Rd : RestRD}
theorem cell_four4 {w : World} {b : Nat} {a v u x : Value} {t : TypeId} (h : w.heap[b]? = some (.cells #[a, v, u, x] t (0, 0))) : w.cell? ⟨b, 3, none⟩ = some x := by simp [World.cell?, h]
structure RTabD (Rd : RestRD) (w : World) (tb : Nat) (row : Option Nat) (l : List (Int × Int)) : Prop where
  val : ∃ v : Value, v.ownBlock = row ∧ w.heap[tb]? = some (.cells #[Rd.lp, Rd.vt, .int .i64 Rd.m, v] 93 (0, 0)) ∧ Own enc2 2 58 0 w v l
  apart : row ≠ some tb
  rising : Rising l
theorem RTabD.kp {w w' : World} {tb : Nat} {row : Option Nat} {l : List (Int × Int)} {S : Nat → Prop} (h : RTabD Rd w tb row l) (k : Kp S w w') (h1 : ¬ S tb) (h2 : ∀ q, row = some q → ¬ S q) : RTabD Rd w' tb row l := by
  obtain ⟨⟨v, hv, hc, hown⟩, hap, hr⟩ := h
  exact ⟨⟨v, hv, k.at hc h1, hown.kp k (fun q hq => h2 q (by rw [← hv]; exact hq))⟩, hap, hr⟩
theorem RTabD.bel {w w' : World} {tb : Nat} {row : Option Nat} {l : List (Int × Int)} (h : RTabD Rd w tb row l) (hb : Below w.heap.size w w') : RTabD Rd w' tb row l := h.kp (Kp.of_below hb (fun _ => False)) id (fun _ _ => id)
def RLeftD (Rd : RestRD) (tb : Nat) (row : Option Nat) (l : List (Int × Int)) (w w' : World) : Prop :=
  ∃ row', RTabD Rd w' tb row' l ∧ Kp (fun q => q = tb ∨ some q = row) w w' ∧ (row' = row ∨ ∀ q, row' = some q → w.heap.size ≤ q)
theorem RLeftD.same {tb : Nat} {row : Option Nat} {l : List (Int × Int)} {w w' : World} (h : RTabD Rd w tb row l) (hb : Below w.heap.size w w') : RLeftD Rd tb row l w w' := ⟨row, h.bel hb, Kp.of_below hb _, .inl rfl⟩
theorem RLeftD.stored {tb : Nat} {row : Option Nat} {l : List (Int × Int)} {w w2 : World} {v u : Value} (hc : w2.heap[tb]? = some (.cells #[Rd.lp, Rd.vt, .int .i64 Rd.m, u] 93 (0, 0))) (hown : Own enc2 2 58 0 w2 v l) (hr : Rising l)
    (hlt : tb < w.heap.size) (hk : Kp (fun q => q = tb ∨ some q = row) w w2) (hat : ∀ q, v.ownBlock = some q → w.heap.size ≤ q) : RLeftD Rd tb row l w (w2.setCell ⟨tb, 3, none⟩ v) := by
  have hne : v.ownBlock ≠ some tb := by
    intro he
    have := hat _ he; omega
  refine ⟨v.ownBlock, ⟨⟨v, rfl, ?_, hown.kp (Kp.setCell w2 _ v) (fun q hq he => hne (by rw [hq, he]))⟩, hne, hr⟩, ?_, .inr hat⟩
  · rw [set_one hc 3 v]; rfl
  · exact hk.trans (Kp.setCell w2 ⟨tb, 3, none⟩ v) (fun q hq => .inl (.inl hq))

set_option maxRecDepth 4000 in
set_option maxHeartbeats 1000000 in
theorem rFrom_any (w : World) (tb : Nat) (row : Option Nat) (l : List (Int × Int)) (p : Int) (h : RTabD Rd w tb row l) (hlen : l.length ≤ 1000000) :
    Calls Tryd.prog 74 #[.pointer (some ⟨tb, 3, none⟩), .int .i64 p] w fun e w' => e = .returned (.tuple #[.int .i64 ((look l p).getD 0), .bool (has l p)]) ∧ w = w' := by
  obtain ⟨⟨v, hv, hc, hown⟩, hap, hr⟩ := h
  obtain ⟨A, cap, rfl, hnc, hcm⟩ := hown.slice
  obtain ⟨n, hn⟩ : ∃ n, l.length = n := ⟨_, rfl⟩
  rw [hn] at hown hlen hc
  have hc1 := cell_four4 hc
  have HN := Sc.mk hn
  have HO := Sc.mk hown
  have HR := Sc.mk hr
  clear hown hr hc hv hap hn hnc
  go_enter Tryd.func74, Tryd.ntmps74
  go_wp2
  go_loop [6] (fun s6 => ∃ i : Nat, s6 = .int .i64 i ∧ i ≤ n ∧ Sc (∀ j x, j < i → l[j]? = some x → x.1 ≠ p)) (fun s6 => n - (intOf s6).toNat)
  case atStart => exact ⟨0, rfl, by omega, ⟨fun j x hj => absurd hj (Nat.not_lt_zero _)⟩⟩
  case round =>
    obtain ⟨i, rfl, hi, HI⟩ := hrel
    by_cases hlt : i < n
    · obtain ⟨x, hx⟩ : ∃ x, l[i]? = some x := ⟨_, List.getElem?_eq_getElem (by rw [HN.out]; exact hlt)⟩
      obtain ⟨g, cq, he, _, _, _, _⟩ := HO.out.form (by rw [HN.out]; omega)
      injection he with hA _ hC
      subst hA
      obtain ⟨d0, d1⟩ := HO.out.cells2 hx
      have HX := Sc.mk hx
      have hil : (i : Int) < n := by omega
      clear hx hC
      by_cases hp : x.1 = p
      · have hb : (x.1 == p) = true := by simp [hp]
        have HL : Sc (look l p = some x.2 ∧ has l p = true) := ⟨by rw [← hp]; exact ⟨look_of_mem HR.out (List.mem_of_getElem? HX.out), has_place HX.out⟩⟩
        clear hp
        go_wp2
        go_ret2
        exact ⟨by rw [HL.out.1, HL.out.2]; rfl, rfl⟩
      · have hb : (x.1 == p) = false := by simp [hp]
        have HJ : Sc (∀ j y, j < i + 1 → l[j]? = some y → y.1 ≠ p) := ⟨fun j y hj hy => by
          rcases Nat.lt_succ_iff_lt_or_eq.1 hj with h | h
          · exact HI.out j y h hy
          · subst h; have h1 := HX.out; rw [hy] at h1; injection h1 with h1; subst h1; exact hp⟩
        clear hp
        go_wp2
        go_round
        case rel => exact ⟨i + 1, by go_num, by omega, HJ⟩
        case measure => simp [intOf]; omega
    · obtain rfl : i = n := by omega
      have HL : Sc (has l p = false) := ⟨by
        cases hh : has l p with
        | false => rfl
        | true =>
          obtain ⟨x, hx, hk⟩ := has_iff.1 hh
          obtain ⟨j, hj⟩ := List.mem_iff_getElem?.1 hx
          exact absurd hk (HI.out j x (by rw [← HN.out]; exact (List.getElem?_eq_some_iff.1 hj).1) hj)⟩
      have HL2 : Sc (look l p = none) := ⟨by unfold look; rw [if_neg (by rw [HL.out]; exact Bool.false_ne_true)]⟩
      go_wp2
      go_ret2
      exact ⟨by rw [HL.out, HL2.out]; rfl, rfl⟩


theorem pos_place {β : Type} {l : List (Int × β)} (hr : Rising l) {i : Nat} {x : Int × β} (h : l[i]? = some x) : pos l x.1 = i := by
  obtain ⟨y, hy, hk⟩ := (has_at hr x.1).1 (has_place h)
  rcases Nat.lt_trichotomy (pos l x.1) i with h1 | h1 | h1
  · have := hr.lt h1 hy h; omega
  · exact h1
  · have := hr.lt h1 h hy; omega

set_option maxRecDepth 4000 in
set_option maxHeartbeats 4000000 in
theorem rAdd_any (w : World) (tb : Nat) (row : Option Nat) (l : List (Int × Int)) (p f : Int) (h : RTabD Rd w tb row l) (hlen : l.length ≤ 1000000) :
    Calls Tryd.prog 54 #[.pointer (some ⟨tb, 3, none⟩), .int .i64 p, .int .i64 f] w fun e w' => e = .returned (.tuple #[]) ∧ RLeftD Rd tb row (add l (p, f)) w w' := by
  have HTab := Sc.mk h
  have HLen := Sc.mk hlen
  cases hh : has l p with
  | true =>
    have HH := Sc.mk hh
    have HE : Sc (add l (p, f) = l) := ⟨add_there hh⟩
    clear h hh hlen
    go_enter Tryd.func54, Tryd.ntmps54
    go_wp2_with (go_at_call 74; refine (rFrom_any w tb row l p HTab.out HLen.out).mono ?_; rintro e w1 ⟨rfl, rfl⟩; rw [HH.out])
    (try simp only [Exit.inBlock, Exit.then])
    refine bodyPost_ret (results_none rfl _ _ _) rfl ?_
    exact ⟨rfl, by rw [HE.out]; exact RLeftD.same HTab.out (Below.refl _ _)⟩
  | false =>
    obtain ⟨i0, hi, hz0, hz1, hz2⟩ := info_parts infoCloD
    obtain ⟨⟨v, hv, hc, hown⟩, hap, hr⟩ := h
    have hfz := unfrozen_at hc 3
    have HTL := Sc.mk (heap_lt hc)
    have HR := Sc.mk hr
    have HH := Sc.mk hh
    have HAR := Sc.mk (add_rising hr (p, f))
    obtain ⟨K, hK⟩ : ∃ K, pos l p = K := ⟨_, rfl⟩
    have hKn : K ≤ l.length := by rw [← hK]; exact pos_le l p
    have HK := Sc.mk hK
    have HD : Sc (add l (p, f) = (l.take K ++ [(p, f)]) ++ l.drop K) := ⟨by
      unfold add put
      rw [if_neg (by rw [hh]; exact Bool.false_ne_true)]
      show l.take (pos l p) ++ (p, f) :: l.drop (pos l p) = _
      rw [hK, List.append_assoc]; rfl⟩
    clear hr hh hap hK
    rcases hown.2 with ⟨rfl, h0⟩ | ⟨g, cap, cur, rfl, hb, hg, hn1, hcm1, hs, ht⟩
    · obtain rfl : l = [] := List.eq_nil_of_length_eq_zero h0
      obtain rfl : K = 0 := by simpa using hKn
      have hc1 := cell_four4 hc
      have HC := Sc.mk hc
      have HTk : Sc (Own enc2 2 58 0 w (.slice none 0 0) ((([] : List (Int × Int))).take 0)) := ⟨Own.nil⟩
      have HT : Sc ((([] : List (Int × Int)).take 0).length = 0) := ⟨rfl⟩
      have HE : Sc ((([] : List (Int × Int)).drop 0).length = 0) := ⟨rfl⟩
      clear hc hown h0 hv hKn hlen
      go_enter Tryd.func54, Tryd.ntmps54
      go_wp2_with (go_at_call 74; refine (rFrom_any w tb row [] p HTab.out HLen.out).mono ?_; rintro e w1 ⟨rfl, rfl⟩; rw [HH.out])
      go_loop [8] (fun s8 => s8 = .int .i64 0) (fun s8 => (0 : Nat))
      case atStart => rfl
      case round =>
        obtain rfl := hrel
        go_wp2_with (first | (go_at_call 75; refine (dirtyCopy_any w 0 _ (([] : List (Int × Int)).take 0) HTk.out (by rw [HT.out]; omega)).mono ?_; rintro e w2 ⟨v2, rfl, ho, hb2⟩; obtain ⟨A2, c2, rfl, _, _⟩ := ho.slice; have HO2 := Sc.mk ho; have HB2 := Sc.mk hb2; rw [HT.out] at HO2 ⊢; clear ho hb2) | (at_builtin; refine wpList_append_own_at _ rfl (.tmp 44) (.tmp 48) 35 rfl w.heap.size 58 i0 (.agg #[.int .i64 0, .int .i64 0]) 2 16 Tryd.underlying35 hi hz0 hz1 hz2 rfl (by decide) _ 0 (flat enc2 (([] : List (Int × Int)).take 0)) rfl ((HO2.out.rows HT.out).alloc _) _ 1 1 (enc2 (p, f)) rfl rfl ?c1 ?c2 ?c3 ?c4 ?c5 ?_))
        case c1 => exact World.news_of_block (heap_alloc_new _ _)
        case c2 => exact kind2.one (p, f)
        case c3 => unfold maxLen; omega
        case c4 => omega
        case c5 => have := HB2.out.size; simp; omega
        intro v3 w3 h1 h2 h3 h4
        have HO3 : Sc (Own enc2 2 58 w.heap.size w3 v3 (([] : List (Int × Int)).take 0 ++ [(p, f)])) := ⟨Own.of_rows h1 (by rw [List.length_append, HT.out]; rfl) (by rw [flat_append, flat_single]; try rfl)⟩
        have HB3 : Sc (Below w.heap.size w w3) := ⟨(HB2.out.alloc HB2.out.size _).grown h2 (by have := HB2.out.size; simp; omega) (fun k hk => (HO2.out.lt k hk).1)⟩
        have hcw3 := (HB3.out.block _ HTL.out).trans HC.out
        have hc3 := cell_four4 hcw3
        obtain ⟨A3, c3, rfl, hle3, _⟩ := HO3.out.slice
        have HT3 : Sc ((([] : List (Int × Int)).take 0 ++ [(p, f)]).length = 0 + 1) := ⟨by rw [List.length_append, HT.out]; rfl⟩
        rw [HT3.out] at HO3 hle3 ⊢
        clear h1 h2 h3 h4 hcw3
        have hf3 := unfrozen_at ((HB3.out.block _ HTL.out).trans HC.out) 3
        go_wp2_with (at_builtin; go_loud (refine Lib.wpList_append_run _ rfl (.tmp 51) (.tmp 57) 35 35 rfl _ _ rfl rfl _ _ (run_append_none _ _ _ _ _ Tryd.underlying35 hi _ _ _ hle3) ?_))
        have H1 : Sc (Own enc2 2 58 w.heap.size w3 (.slice A3 (0 + 1) c3) (add [] (p, f))) := ⟨by rw [HD.out]; exact HO3.out⟩
        have H2 := HB3
        go_wp2
        go_end0
        refine ⟨rfl, ?_⟩
        exact RLeftD.stored ((H2.out.block _ HTL.out).trans HC.out) (H1.out.mono (Nat.zero_le _)) HAR.out HTL.out (Kp.of_below H2.out _) (fun q hq => (H1.out.lt q hq).1)
    · obtain ⟨n, hn⟩ : ∃ n, l.length = n := ⟨_, rfl⟩
      rw [hn] at hown hlen hc hKn hn1
      have hc1 := cell_four4 hc
      have HC := Sc.mk hc
      have HN := Sc.mk hn
      have HO := Sc.mk hown
      have HTk := Sc.mk (hown.take kind2 hKn)
      have HT : Sc ((l.take K).length = K) := ⟨by rw [List.length_take, hn]; omega⟩
      have HE : Sc ((l.drop K).length = n - K) := ⟨by rw [List.length_drop, hn]⟩
      have HTl0 : Sc (∀ j u, (flat enc2 (l.drop K))[j]? = some u → w.cell? ((⟨g, K * 2, none⟩ : Addr).add j) = some u) := ⟨hown.tail kind2 K⟩
      have n6 : (n : Int) ≤ cap := by omega
      have n7 : (K : Int) ≤ cap := by omega
      have n8 : (K : Int) ≤ n := by omega
      have n9 : K ≤ cap := by omega
      clear hown hc hv hn hs ht hb hg hcm1
      go_enter Tryd.func54, Tryd.ntmps54
      go_wp2_with (go_at_call 74; refine (rFrom_any w tb row l p HTab.out HLen.out).mono ?_; rintro e w1 ⟨rfl, rfl⟩; rw [HH.out])
      go_loop [8] (fun s8 => ∃ j : Nat, s8 = .int .i64 j ∧ j ≤ K) (fun s8 => K - (intOf s8).toNat)
      case atStart => exact ⟨0, rfl, by omega⟩
      case round =>
        obtain ⟨j, rfl, hj⟩ := hrel
        by_cases hlt : j < K
        · obtain ⟨x, hx⟩ : ∃ x, l[j]? = some x := ⟨_, List.getElem?_eq_getElem (by rw [HN.out]; omega)⟩
          obtain ⟨d0, d1⟩ := HO.out.cells2 hx
          have hp : x.1 < p := (pos_below HR.out p hx).1 (by rw [HK.out]; exact hlt)
          have hjn : (j : Int) < n := by omega
          clear hx
          go_wp2
          go_round
          case rel => exact ⟨j + 1, by go_num, by omega⟩
          case measure => simp [intOf]; omega
        · obtain rfl : j = K := by omega
          by_cases hlt2 : j < n
          · obtain ⟨x, hx⟩ : ∃ x, l[j]? = some x := ⟨_, List.getElem?_eq_getElem (by rw [HN.out]; omega)⟩
            obtain ⟨d0, d1⟩ := HO.out.cells2 hx
            have hp : ¬ x.1 < p := fun h => by have := (pos_below HR.out p hx).2 h; have := HK.out; omega
            have hjn : (j : Int) < n := by omega
            have hcap : ¬ cap = j := by omega
            clear hx
            go_wp2_with (first | (go_at_call 75; refine (dirtyCopy_any w 0 _ (l.take j) HTk.out (by rw [HT.out]; omega)).mono ?_; rintro e w2 ⟨v2, rfl, ho, hb2⟩; obtain ⟨A2, c2, rfl, _, _⟩ := ho.slice; have HO2 := Sc.mk ho; have HB2 := Sc.mk hb2; rw [HT.out] at HO2 ⊢; clear ho hb2) | (at_builtin; refine wpList_append_own_at _ rfl (.tmp 44) (.tmp 48) 35 rfl w.heap.size 58 i0 (.agg #[.int .i64 0, .int .i64 0]) 2 16 Tryd.underlying35 hi hz0 hz1 hz2 rfl (by decide) _ j (flat enc2 (l.take j)) rfl ((HO2.out.rows HT.out).alloc _) _ 1 1 (enc2 (p, f)) rfl rfl ?c1 ?c2 ?c3 ?c4 ?c5 ?_))
            case c1 => exact World.news_of_block (heap_alloc_new _ _)
            case c2 => exact kind2.one (p, f)
            case c3 => unfold maxLen; omega
            case c4 => omega
            case c5 => have := HB2.out.size; simp; omega
            intro v3 w3 h1 h2 h3 h4
            have HO3 : Sc (Own enc2 2 58 w.heap.size w3 v3 (l.take j ++ [(p, f)])) := ⟨Own.of_rows h1 (by rw [List.length_append, HT.out]; rfl) (by rw [flat_append, flat_single]; try rfl)⟩
            have HB3 : Sc (Below w.heap.size w w3) := ⟨(HB2.out.alloc HB2.out.size _).grown h2 (by have := HB2.out.size; simp; omega) (fun k hk => (HO2.out.lt k hk).1)⟩
            have hcw3 := (HB3.out.block _ HTL.out).trans HC.out
            have hc3 := cell_four4 hcw3
            obtain ⟨A3, c3, rfl, hle3, _⟩ := HO3.out.slice
            have HT3 : Sc ((l.take j ++ [(p, f)]).length = j + 1) := ⟨by rw [List.length_append, HT.out]; rfl⟩
            rw [HT3.out] at HO3 hle3 ⊢
            clear h1 h2 h3 h4 hcw3
            go_wp2_with (at_builtin; go_loud (refine wpList_append_own_at _ rfl (.tmp 51) (.tmp 57) 35 rfl w.heap.size 58 i0 (.agg #[.int .i64 0, .int .i64 0]) 2 16 Tryd.underlying35 hi hz0 hz1 hz2 rfl (by decide) _ (j + 1) (flat enc2 (l.take j ++ [(p, f)])) rfl (HO3.out.rows HT3.out) ⟨g, j * 2, none⟩ (n - j) (cap - j) (flat enc2 (l.drop j)) rfl ?c1 (cells_below HB3.out HTl0.out) (kind2.flat_one _) ?c3 ?c4 ?c5 ?_))
            case c1 => rw [kind2.flat_length, HE.out] <;> omega
            case c3 => unfold maxLen; omega
            case c4 => omega
            case c5 => exact HB3.out.size
            intro v4 w4 h1 h2 h3 h4
            have H1 : Sc (Own enc2 2 58 w.heap.size w4 v4 (add l (p, f))) := ⟨Own.of_rows h1 (by rw [HD.out, List.length_append, HT3.out, HE.out] <;> omega) (by rw [HD.out]; simp only [flat_append])⟩
            have H2 : Sc (Below w.heap.size w w4) := ⟨HB3.out.grown h2 HB3.out.size (fun k hk => (HO3.out.lt k hk).1)⟩
            have hcw4 := (H2.out.block _ HTL.out).trans HC.out
            have hc4 := cell_four4 hcw4
            have hf4 := unfrozen_at hcw4 3
            have HC4 := Sc.mk hcw4
            obtain ⟨A4, n4, c4, rfl⟩ := H1.out.slice3
            clear h1 h2 h3 h4 hcw4
            go_wp2
            go_end0
            refine ⟨rfl, ?_⟩
            exact RLeftD.stored HC4.out (H1.out.mono (Nat.zero_le _)) HAR.out HTL.out (Kp.of_below H2.out _) (fun q hq => (H1.out.lt q hq).1)
          · obtain rfl : j = n := by omega
            have hz : l.drop j = [] := List.drop_eq_nil_of_le (by rw [HN.out]; exact Nat.le_refl _)
            by_cases hcap : cap = j
            · subst hcap
              have HTl : Sc (∀ t u, (flat enc2 (l.drop cap))[t]? = some u → w.cell? ((⟨g, 0, none⟩ : Addr).add t) = some u) := ⟨fun t u ht => by rw [hz] at ht; cases ht⟩
              clear hz HTl0
              go_wp2_with (first | (go_at_call 75; refine (dirtyCopy_any w 0 _ (l.take cap) HTk.out (by rw [HT.out]; omega)).mono ?_; rintro e w2 ⟨v2, rfl, ho, hb2⟩; obtain ⟨A2, c2, rfl, _, _⟩ := ho.slice; have HO2 := Sc.mk ho; have HB2 := Sc.mk hb2; rw [HT.out] at HO2 ⊢; clear ho hb2) | (at_builtin; refine wpList_append_own_at _ rfl (.tmp 44) (.tmp 48) 35 rfl w.heap.size 58 i0 (.agg #[.int .i64 0, .int .i64 0]) 2 16 Tryd.underlying35 hi hz0 hz1 hz2 rfl (by decide) _ cap (flat enc2 (l.take cap)) rfl ((HO2.out.rows HT.out).alloc _) _ 1 1 (enc2 (p, f)) rfl rfl ?c1 ?c2 ?c3 ?c4 ?c5 ?_))
              case c1 => exact World.news_of_block (heap_alloc_new _ _)
              case c2 => exact kind2.one (p, f)
              case c3 => unfold maxLen; omega
              case c4 => omega
              case c5 => have := HB2.out.size; simp; omega
              intro v3 w3 h1 h2 h3 h4
              have HO3 : Sc (Own enc2 2 58 w.heap.size w3 v3 (l.take cap ++ [(p, f)])) := ⟨Own.of_rows h1 (by rw [List.length_append, HT.out]; rfl) (by rw [flat_append, flat_single]; try rfl)⟩
              have HB3 : Sc (Below w.heap.size w w3) := ⟨(HB2.out.alloc HB2.out.size _).grown h2 (by have := HB2.out.size; simp; omega) (fun k hk => (HO2.out.lt k hk).1)⟩
              have hcw3 := (HB3.out.block _ HTL.out).trans HC.out
              have hc3 := cell_four4 hcw3
              obtain ⟨A3, c3, rfl, hle3, _⟩ := HO3.out.slice
              have HT3 : Sc ((l.take cap ++ [(p, f)]).length = cap + 1) := ⟨by rw [List.length_append, HT.out]; rfl⟩
              rw [HT3.out] at HO3 hle3 ⊢
              clear h1 h2 h3 h4 hcw3
              go_wp2_with (at_builtin; go_loud (refine wpList_append_own_at _ rfl (.tmp 51) (.tmp 57) 35 rfl w.heap.size 58 i0 (.agg #[.int .i64 0, .int .i64 0]) 2 16 Tryd.underlying35 hi hz0 hz1 hz2 rfl (by decide) _ (cap + 1) (flat enc2 (l.take cap ++ [(p, f)])) rfl (HO3.out.rows HT3.out) ⟨g, 0, none⟩ 0 0 (flat enc2 (l.drop cap)) rfl ?c1 (cells_below HB3.out HTl.out) (kind2.flat_one _) ?c3 ?c4 ?c5 ?_))
              case c1 => rw [kind2.flat_length, HE.out] <;> omega
              case c3 => unfold maxLen; omega
              case c4 => omega
              case c5 => exact HB3.out.size
              intro v4 w4 h1 h2 h3 h4
              have H1 : Sc (Own enc2 2 58 w.heap.size w4 v4 (add l (p, f))) := ⟨Own.of_rows h1 (by rw [HD.out, List.length_append, HT3.out, HE.out] <;> omega) (by rw [HD.out]; simp only [flat_append])⟩
              have H2 : Sc (Below w.heap.size w w4) := ⟨HB3.out.grown h2 HB3.out.size (fun k hk => (HO3.out.lt k hk).1)⟩
              have hcw4 := (H2.out.block _ HTL.out).trans HC.out
              have hc4 := cell_four4 hcw4
              have hf4 := unfrozen_at hcw4 3
              have HC4 := Sc.mk hcw4
              obtain ⟨A4, n4, c4, rfl⟩ := H1.out.slice3
              clear h1 h2 h3 h4 hcw4
              go_wp2
              go_end0
              refine ⟨rfl, ?_⟩
              exact RLeftD.stored HC4.out (H1.out.mono (Nat.zero_le _)) HAR.out HTL.out (Kp.of_below H2.out _) (fun q hq => (H1.out.lt q hq).1)
            · have HTl : Sc (∀ t u, (flat enc2 (l.drop j))[t]? = some u → w.cell? ((⟨g, j * 2, none⟩ : Addr).add t) = some u) := ⟨fun t u ht => by rw [hz] at ht; cases ht⟩
              clear hz
              go_wp2_with (first | (go_at_call 75; refine (dirtyCopy_any w 0 _ (l.take j) HTk.out (by rw [HT.out]; omega)).mono ?_; rintro e w2 ⟨v2, rfl, ho, hb2⟩; obtain ⟨A2, c2, rfl, _, _⟩ := ho.slice; have HO2 := Sc.mk ho; have HB2 := Sc.mk hb2; rw [HT.out] at HO2 ⊢; clear ho hb2) | (at_builtin; refine wpList_append_own_at _ rfl (.tmp 44) (.tmp 48) 35 rfl w.heap.size 58 i0 (.agg #[.int .i64 0, .int .i64 0]) 2 16 Tryd.underlying35 hi hz0 hz1 hz2 rfl (by decide) _ j (flat enc2 (l.take j)) rfl ((HO2.out.rows HT.out).alloc _) _ 1 1 (enc2 (p, f)) rfl rfl ?c1 ?c2 ?c3 ?c4 ?c5 ?_))
              case c1 => exact World.news_of_block (heap_alloc_new _ _)
              case c2 => exact kind2.one (p, f)
              case c3 => unfold maxLen; omega
              case c4 => omega
              case c5 => have := HB2.out.size; simp; omega
              intro v3 w3 h1 h2 h3 h4
              have HO3 : Sc (Own enc2 2 58 w.heap.size w3 v3 (l.take j ++ [(p, f)])) := ⟨Own.of_rows h1 (by rw [List.length_append, HT.out]; rfl) (by rw [flat_append, flat_single]; try rfl)⟩
              have HB3 : Sc (Below w.heap.size w w3) := ⟨(HB2.out.alloc HB2.out.size _).grown h2 (by have := HB2.out.size; simp; omega) (fun k hk => (HO2.out.lt k hk).1)⟩
              have hcw3 := (HB3.out.block _ HTL.out).trans HC.out
              have hc3 := cell_four4 hcw3
              obtain ⟨A3, c3, rfl, hle3, _⟩ := HO3.out.slice
              have HT3 : Sc ((l.take j ++ [(p, f)]).length = j + 1) := ⟨by rw [List.length_append, HT.out]; rfl⟩
              rw [HT3.out] at HO3 hle3 ⊢
              clear h1 h2 h3 h4 hcw3
              go_wp2_with (at_builtin; go_loud (refine wpList_append_own_at _ rfl (.tmp 51) (.tmp 57) 35 rfl w.heap.size 58 i0 (.agg #[.int .i64 0, .int .i64 0]) 2 16 Tryd.underlying35 hi hz0 hz1 hz2 rfl (by decide) _ (j + 1) (flat enc2 (l.take j ++ [(p, f)])) rfl (HO3.out.rows HT3.out) ⟨g, j * 2, none⟩ 0 (cap - j) (flat enc2 (l.drop j)) rfl ?c1 (cells_below HB3.out HTl.out) (kind2.flat_one _) ?c3 ?c4 ?c5 ?_))
              case c1 => rw [kind2.flat_length, HE.out] <;> omega
              case c3 => unfold maxLen; omega
              case c4 => omega
              case c5 => exact HB3.out.size
              intro v4 w4 h1 h2 h3 h4
              have H1 : Sc (Own enc2 2 58 w.heap.size w4 v4 (add l (p, f))) := ⟨Own.of_rows h1 (by rw [HD.out, List.length_append, HT3.out, HE.out] <;> omega) (by rw [HD.out]; simp only [flat_append])⟩
              have H2 : Sc (Below w.heap.size w w4) := ⟨HB3.out.grown h2 HB3.out.size (fun k hk => (HO3.out.lt k hk).1)⟩
              have hcw4 := (H2.out.block _ HTL.out).trans HC.out
              have hc4 := cell_four4 hcw4
              have hf4 := unfrozen_at hcw4 3
              have HC4 := Sc.mk hcw4
              obtain ⟨A4, n4, c4, rfl⟩ := H1.out.slice3
              clear h1 h2 h3 h4 hcw4
              go_wp2
              go_end0
              refine ⟨rfl, ?_⟩
              exact RLeftD.stored HC4.out (H1.out.mono (Nat.zero_le _)) HAR.out HTL.out (Kp.of_below H2.out _) (fun q hq => (H1.out.lt q hq).1)
end Go.Proofs.YtoapihepdallbaaDoor
