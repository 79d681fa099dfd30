/- The reference's copies and equalities of rows of pairs (page, from). -/
import Derived.Test.YtoapihepdallbaaDoorCloD
namespace Go.Proofs.YtoapihepdallbaaDoor
open Go.RowKit

set_option maxHeartbeats 1000000 in
theorem dirtySame1_any (x y : Int × Int) (w : World) :
    Calls Tryd.prog 60 #[.agg #[.int .i64 x.1, .int .i64 x.2], .agg #[.int .i64 y.1, .int .i64 y.2]] w fun e w' => e = .returned (.bool (decide (x = y))) ∧ Below w.heap.size w w' := by
  by_cases h : x = y
  · subst h
    go_enter Tryd.func60, Tryd.ntmps60
    go_wp2
    go_ret
    exact ⟨by simp, ((Below.refl _ _).alloc (Nat.le_refl _) _).alloc (by simp) _⟩
  · have HH := Sc.mk h
    obtain ⟨a, b⟩ := x
    obtain ⟨c, d⟩ := y
    clear h
    by_cases h1 : a = c
    · subst h1
      have h2 : (b == d) = false := beq_eq_false_iff_ne.2 (fun h => HH.out (by rw [h]))
      go_enter Tryd.func60, Tryd.ntmps60
      go_wp2
      go_ret
      exact ⟨by rw [decide_eq_false HH.out]; rfl, ((Below.refl _ _).alloc (Nat.le_refl _) _).alloc (by simp) _⟩
    · have h2 : (a == c) = false := beq_eq_false_iff_ne.2 h1
      clear h1
      go_enter Tryd.func60, Tryd.ntmps60
      go_wp2
      go_ret
      exact ⟨by rw [decide_eq_false HH.out]; rfl, ((Below.refl _ _).alloc (Nat.le_refl _) _).alloc (by simp) _⟩

set_option maxHeartbeats 1000000 in
theorem dirtyCopy_any (w : World) (base : Nat) (v : Value) (l : List (Int × Int)) (hown : Own enc2 2 58 base w v l) (hlen : l.length ≤ 1000000) :
    Calls Tryd.prog 75 #[v] w (FreshD l w) := by
  obtain ⟨i0, hi, hz0, hz1, hz2⟩ := info_parts infoCloD
  obtain ⟨A, cap, rfl, hnc, hcm⟩ := hown.slice
  obtain ⟨n, hn⟩ : ∃ n, l.length = n := ⟨_, rfl⟩
  rw [hn] at hown hlen hnc ⊢
  have HN := Sc.mk hn
  have HO := Sc.mk hown
  clear hown hn
  go_enter Tryd.func75, Tryd.ntmps75
  go_wp2_with (at_make; refine wpList_make_own _ rfl _ _ 35 rfl w.heap.size 58 i0 (.agg #[.int .i64 0, .int .i64 0]) 2 Tryd.underlying35 hi hz0 hz1 .i64 .i64 _ n rfl rfl rfl ?b1 ?b2 (Nat.le_refl _) ?_)
  case b1 => rw [hz2]; omega
  case b2 => unfold maxLen; omega
  intro w1 hown1 hg1
  have HO1 : Sc (Own enc2 2 58 w.heap.size w1 (.slice (some ⟨w.heap.size, 0, none⟩) 0 n) ([] : List (Int × Int))) := ⟨hown1⟩
  have HB1 : Sc (Below w.heap.size w w1) := ⟨grown_below hg1⟩
  clear hown1 hg1
  go_wp2
  go_loopg [3, 4] n (fun kx s3 s4 wr => ∃ i : Nat, s4 = .int .i64 i ∧ i ≤ n ∧ n - i ≤ kx ∧ Sc (Below w.heap.size w wr) ∧ Sc (Own enc2 2 58 w.heap.size wr s3 (l.take i)))
  case atStart => exact ⟨0, rfl, by omega, by omega, HB1, ⟨by rw [List.take_zero]; exact HO1.out⟩⟩
  case round =>
    obtain ⟨i, rfl, hin, hg, HB, HR⟩ := hrel
    by_cases hlt : i < n
    · obtain ⟨x, hx⟩ : ∃ x, l[i]? = some x := ⟨_, List.getElem?_eq_getElem (by rw [HN.out]; exact hlt)⟩
      obtain ⟨g, c2, he, _, _, _, _⟩ := HO.out.form (by rw [HN.out]; omega)
      injection he with hA hn2 hC
      subst hA
      have HO2 := HO.out.below HB.out
      obtain ⟨c0, c1⟩ := HO2.cells2 hx
      have hnext : l.take (i + 1) = l.take i ++ [x] := by rw [List.take_add_one, hx]; rfl
      have HX := Sc.mk hnext
      have HT : Sc ((l.take i).length = i) := ⟨by rw [List.length_take, HN.out]; omega⟩
      have hil : (i : Int) < n := by omega
      clear hx HO2 hnext hn2 hC
      go_wp2_with (at_builtin; go_loud (refine wpList_append_own_at _ rfl (.tmp 14) (.tmp 19) 35 rfl w.heap.size 58 i0 (.agg #[.int .i64 0, .int .i64 0]) 2 16 Tryd.underlying35 hi hz0 hz1 hz2 rfl (by decide) _ (l.take i).length (flat enc2 (l.take i)) rfl (HR.out.alloc _) _ 1 1 (enc2 x) rfl rfl ?c1 ?c2 ?c3 ?c4 ?c5 ?_))
      case c1 => exact World.news_of_block (heap_alloc_new _ _)
      case c2 => exact kind2.one x
      case c3 => rw [HT.out]; unfold maxLen; omega
      case c4 => rw [HT.out]; omega
      case c5 => have := HB.out.size; simp; omega
      intro v1 w2 h1 h2 h3 h4
      have H1 : Sc (Own enc2 2 58 w.heap.size w2 v1 (l.take (i + 1))) := ⟨by
        rw [HX.out]
        unfold Own
        rw [flat_append, flat_single, List.length_append, List.length_take]
        exact h1⟩
      have H2 : Sc (Below w.heap.size w w2) := ⟨(HB.out.alloc HB.out.size _).grown h2 (by have := HB.out.size; simp; omega) (fun k hk => (HR.out.lt k hk).1)⟩
      clear h1 h2 h3 h4 HR HB c0 c1
      go_wp2
      go_roundg (n - (i + 1))
      case measure => omega
      case rel => exact ⟨i + 1, by go_num, by omega, Nat.le_refl _, H2, H1⟩
    · obtain rfl : i = n := by omega
      have HE : Sc (l.take i = l) := ⟨by rw [← HN.out, List.take_length]⟩
      go_wp2
      go_ret
      exact ⟨_, rfl, by have := HR.out; rwa [HE.out] at this, HB.out⟩

set_option maxHeartbeats 2000000 in
theorem dirtySame_any (w : World) (base base' : Nat) (u v : Value) (l m : List (Int × Int)) (hown : Own enc2 2 58 base w u l) (hown' : Own enc2 2 58 base' w v m) (hlen : l.length ≤ 1000000) (hlen' : m.length ≤ 1000000) :
    Calls Tryd.prog 40 #[u, v] w fun e w' => e = .returned (.bool (decide (l = m))) ∧ Below w.heap.size w w' := by
  obtain ⟨A, cap, rfl, hnc, hcm⟩ := hown.slice
  obtain ⟨A', cap', rfl, hnc', hcm'⟩ := hown'.slice
  by_cases hl : l.length = m.length
  · obtain ⟨n, hn⟩ : ∃ n, l.length = n := ⟨_, rfl⟩
    rw [hn] at hl hown hlen hnc ⊢
    rw [← hl] at hown' hlen' hnc' ⊢
    have HN := Sc.mk hn
    have HM := Sc.mk hl
    have HO := Sc.mk hown
    have HO' := Sc.mk hown'
    clear hown hown' hn hl
    go_enter Tryd.func40, Tryd.ntmps40
    go_wp2
    go_loopg [5, 6] n (fun kx s5 _ wr => ∃ i : Nat, s5 = .int .i64 i ∧ i ≤ n ∧ n - i ≤ kx ∧ Sc (Below w.heap.size w wr) ∧ Sc (l.take i = m.take i))
    case atStart => exact ⟨0, rfl, by omega, by omega, ⟨Below.refl _ _⟩, ⟨rfl⟩⟩
    case round =>
      obtain ⟨i, rfl, hin, hg, HB, HE⟩ := hrel
      by_cases hlt : i < n
      · obtain ⟨x, hx⟩ : ∃ x, l[i]? = some x := ⟨_, List.getElem?_eq_getElem (by rw [HN.out]; exact hlt)⟩
        obtain ⟨y, hy⟩ : ∃ y, m[i]? = some y := ⟨_, List.getElem?_eq_getElem (by rw [← HM.out]; exact hlt)⟩
        obtain ⟨g, c2, he, _, _, _, _⟩ := HO.out.form (by rw [HN.out]; omega)
        injection he with hA hn2 hC
        subst hA
        obtain ⟨g', c2', he', _, _, _, _⟩ := HO'.out.form (by rw [← HM.out]; omega)
        injection he' with hA' hn2' hC'
        subst hA'
        obtain ⟨c0, c1⟩ := (HO.out.below HB.out).cells2 hx
        obtain ⟨d0, d1⟩ := (HO'.out.below HB.out).cells2 hy
        have HX := Sc.mk hx
        have HY := Sc.mk hy
        have hil : (i : Int) < n := by omega
        clear hx hy hn2 hC hn2' hC'
        by_cases hxy : x = y
        · have HXY : Sc (l.take (i + 1) = m.take (i + 1)) := ⟨by rw [List.take_add_one, List.take_add_one, HX.out, HY.out, HE.out, hxy]⟩
          have hd : decide (x = y) = true := decide_eq_true hxy
          have HD := Sc.mk hd
          clear hxy hd
          go_wp2_with fail
          go_region_with (go_at_call 60; refine (dirtySame1_any _ _ _).mono ?_; rintro e w1 ⟨rfl, hb⟩; rw [HD.out])
          all_goals
            have H2 : Sc (Below w.heap.size w w1) := ⟨HB.out.trans ⟨hb.os, hb.tape, hb.output, hb.size, fun q hq => hb.block q (Nat.lt_of_lt_of_le hq HB.out.size)⟩⟩
            clear hb
            go_wp2
            go_roundg (n - (i + 1))
            case measure => omega
            case rel => exact ⟨i + 1, by go_num, by omega, Nat.le_refl _, H2, HXY⟩
        · have hd : decide (x = y) = false := decide_eq_false hxy
          have HD := Sc.mk hd
          have HF : Sc (decide (l = m) = false) := ⟨decide_eq_false (fun h => hxy (by have h1 := HX.out; rw [h, HY.out] at h1; injection h1 with h1; exact h1.symm))⟩
          clear hxy hd
          go_wp2_with fail
          go_region_with (go_at_call 60; refine (dirtySame1_any _ _ _).mono ?_; rintro e w1 ⟨rfl, hb⟩; rw [HD.out])
          all_goals
            have H2 : Sc (Below w.heap.size w w1) := ⟨HB.out.trans ⟨hb.os, hb.tape, hb.output, hb.size, fun q hq => hb.block q (Nat.lt_of_lt_of_le hq HB.out.size)⟩⟩
            clear hb
            go_wp2
            go_ret
            exact ⟨by rw [HF.out]; rfl, H2.out⟩
      · obtain rfl : i = n := by omega
        have HF : Sc (decide (l = m) = true) := ⟨decide_eq_true (by
          have h := HE.out
          rw [List.take_of_length_le (by rw [HN.out]; exact Nat.le_refl _), List.take_of_length_le (by rw [← HM.out]; exact Nat.le_refl _)] at h
          exact h)⟩
        go_wp2
        go_ret
        exact ⟨by rw [HF.out]; rfl, HB.out⟩
  · have hd : decide (l = m) = false := decide_eq_false (fun h => hl (by rw [h]))
    have HD := Sc.mk hd
    have hne : ((l.length : Int) != (m.length : Int)) = true := by rw [bne_iff_ne]; omega
    clear hown hown' hd hl
    go_enter Tryd.func40, Tryd.ntmps40
    go_wp2
    go_ret
    exact ⟨by rw [HD.out]; rfl, Below.refl _ _⟩
theorem dirtySame_refl (w : World) (base base' : Nat) (u v : Value) (l : List (Int × Int)) (hown : Own enc2 2 58 base w u l) (hown' : Own enc2 2 58 base' w v l) (hlen : l.length ≤ 1000000) :
    Calls Tryd.prog 40 #[u, v] w fun e w' => e = .returned (.bool true) ∧ Below w.heap.size w w' :=
  (dirtySame_any w base base' u v l l hown hown' hlen hlen).mono fun e w' ⟨he, hb⟩ => ⟨by rw [he, decide_eq_true rfl], hb⟩
end Go.Proofs.YtoapihepdallbaaDoor
