/- The reference's copies and equalities of rows of bytes. -/
import Derived.BigQuiet
import Derived.Test.YtmafogagkjafbaaDoorCell
namespace Go.Proofs.YtmafogagkjafbaaDoor
open Go.RowKit

theorem below_drewB {B : Nat} {w W : World} (h : Below B w W) (n : Nat) : Below B w (W.drewN n) := ⟨h.os, h.tape, h.output, h.size, h.block⟩

set_option maxRecDepth 4000 in
set_option maxHeartbeats 1000000 in
theorem bytesCopy_any (w : World) (v : Value) (l : List Int) (hown : RdB w v l) (hlen : l.length ≤ 1000000) :
    Calls Tryd.prog 38 #[v] w (FreshB l w) := by
  obtain ⟨i0, hi, hz0, hz1, hz2⟩ := info_parts infoCloB
  obtain ⟨A, cap, rfl⟩ := hown.slice
  obtain ⟨n, hn⟩ : ∃ n, l.length = n := ⟨_, rfl⟩
  rw [hn] at hown hlen ⊢
  have HN := Sc.mk hn
  have HO := Sc.mk hown
  clear hown hn
  go_enter Tryd.func38, Tryd.ntmps38
  go_wp2_with (at_make; refine wpList_make_own _ rfl _ _ 61 rfl w.heap.size 5 i0 (.int .u8 0) 1 Tryd.underlying61 hi hz0 hz1 .i64 .i64 _ n rfl rfl rfl ?b1 ?b2 (Nat.le_refl _) ?_)
  case b1 => rw [hz2]; omega
  case b2 => unfold maxLen; omega
  intro w1 hown1 hg1
  have HO1 : Sc (Own encB 1 5 w.heap.size w1 (.slice (some ⟨w.heap.size, 0, none⟩) 0 n) ([] : List Int)) := ⟨hown1⟩
  have HB1 : Sc (Below w.heap.size w w1) := ⟨grown_below hg1⟩
  clear hown1 hg1
  go_wp2
  go_loopg [3, 4] n (fun kx s3 s4 wr => ∃ i : Nat, s4 = .int .i64 i ∧ i ≤ n ∧ n - i ≤ kx ∧ Sc (Below w.heap.size w wr) ∧ Sc (Own encB 1 5 w.heap.size wr s3 (l.take i)))
  case atStart => exact ⟨0, rfl, by omega, by omega, HB1, ⟨by rw [List.take_zero]; exact HO1.out⟩⟩
  case round =>
    obtain ⟨i, rfl, hin, hg, HB, HR⟩ := hrel
    by_cases hlt : i < n
    · obtain ⟨x, hx⟩ : ∃ x, l[i]? = some x := ⟨_, List.getElem?_eq_getElem (by rw [HN.out]; exact hlt)⟩
      obtain ⟨g, off, c2, he, _, _, hcs⟩ := (HO.out.bel HB.out).form (by rw [HN.out]; omega)
      injection he with hA hn2 hC
      subst hA
      have c0 := hcs i x hx
      have hnext : l.take (i + 1) = l.take i ++ [x] := by rw [List.take_add_one, hx]; rfl
      have HX := Sc.mk hnext
      have HT : Sc ((l.take i).length = i) := ⟨by rw [List.length_take, HN.out]; omega⟩
      have hil : (i : Int) < n := by omega
      clear hx hcs hnext hn2 hC
      go_wp2_with (at_builtin; (refine wpList_append_own_at _ rfl (.tmp 14) (.tmp 19) 61 rfl w.heap.size 5 i0 (.int .u8 0) 1 1 Tryd.underlying61 hi hz0 hz1 hz2 rfl (by decide) _ (l.take i).length (flat encB (l.take i)) rfl (HR.out.alloc _) _ 1 1 (encB x) rfl rfl ?c1 ?c2 ?c3 ?c4 ?c5 ?_))
      case c1 => exact World.news_of_block (heap_alloc_new _ _)
      case c2 => exact kindB.one x
      case c3 => rw [HT.out]; unfold maxLen; omega
      case c4 => rw [HT.out]; omega
      case c5 => have := HB.out.size; simp; omega
      intro v1 w2 h1 h2 h3 h4
      have H1 : Sc (Own encB 1 5 w.heap.size w2 v1 (l.take (i + 1))) := ⟨by
        rw [HX.out]
        unfold Own
        rw [flat_append, flat_single, List.length_append, List.length_take]
        exact h1⟩
      have H2 : Sc (Below w.heap.size w w2) := ⟨(HB.out.alloc HB.out.size _).grown h2 (by have := HB.out.size; simp; omega) (fun k hk => (HR.out.lt k hk).1)⟩
      clear h1 h2 h3 h4 HR HB c0
      go_wp2
      go_roundg (n - (i + 1))
      case measure => omega
      case rel => exact ⟨i + 1, by go_num, by omega, Nat.le_refl _, H2, H1⟩
    · obtain rfl : i = n := by omega
      have HE : Sc (l.take i = l) := ⟨by rw [← HN.out, List.take_length]⟩
      go_wp2
      go_ret
      exact ⟨_, rfl, by have := HR.out; rwa [HE.out] at this, HB.out⟩

set_option maxRecDepth 4000 in
set_option maxHeartbeats 2000000 in
theorem bytesSame_any (w : World) (u v : Value) (l m : List Int) (hown : RdB w u l) (hown' : RdB w v m) (hlen : l.length ≤ 1000000) (hlen' : m.length ≤ 1000000) :
    Calls Tryd.prog 32 #[u, v] w fun e w' => e = .returned (.bool (decide (l = m))) ∧ Below w.heap.size w w' := by
  obtain ⟨A, cap, rfl⟩ := hown.slice
  obtain ⟨A', cap', rfl⟩ := hown'.slice
  by_cases hl : l.length = m.length
  · obtain ⟨n, hn⟩ : ∃ n, l.length = n := ⟨_, rfl⟩
    rw [hn] at hl hown hlen ⊢
    rw [← hl] at hown' hlen' ⊢
    have HN := Sc.mk hn
    have HM := Sc.mk hl
    have HO := Sc.mk hown
    have HO' := Sc.mk hown'
    clear hown hown' hn hl
    go_enter Tryd.func32, Tryd.ntmps32
    go_wp2
    go_loopg [5, 6] n (fun kx s5 _ wr => ∃ i : Nat, s5 = .int .i64 i ∧ i ≤ n ∧ n - i ≤ kx ∧ Sc (Below w.heap.size w wr) ∧ Sc (l.take i = m.take i))
    case atStart => exact ⟨0, rfl, by omega, by omega, ⟨Below.refl _ _⟩, ⟨rfl⟩⟩
    case round =>
      obtain ⟨i, rfl, hin, hg, HB, HE⟩ := hrel
      by_cases hlt : i < n
      · obtain ⟨x, hx⟩ : ∃ x, l[i]? = some x := ⟨_, List.getElem?_eq_getElem (by rw [HN.out]; exact hlt)⟩
        obtain ⟨y, hy⟩ : ∃ y, m[i]? = some y := ⟨_, List.getElem?_eq_getElem (by rw [← HM.out]; exact hlt)⟩
        obtain ⟨g, off, c2, he, _, _, hcs⟩ := (HO.out.bel HB.out).form (by rw [HN.out]; omega)
        injection he with hA hn2 hC
        subst hA
        obtain ⟨g', off', c2', he', _, _, hcs'⟩ := (HO'.out.bel HB.out).form (by rw [← HM.out]; omega)
        injection he' with hA' hn2' hC'
        subst hA'
        have c0 := hcs i x hx
        have d0 := hcs' i y hy
        have HX := Sc.mk hx
        have HY := Sc.mk hy
        have hil : (i : Int) < n := by omega
        clear hx hy hcs hcs' hn2 hC hn2' hC'
        by_cases hxy : x = y
        · have HXY : Sc (l.take (i + 1) = m.take (i + 1)) := ⟨by rw [List.take_add_one, List.take_add_one, HX.out, HY.out, HE.out, hxy]⟩
          have hd : (x == y) = true := beq_iff_eq.2 hxy
          clear hxy
          go_wp2_with fail
          go_quiet (fail)
          go_wp2
          go_roundg (n - (i + 1))
          case measure => omega
          case rel => exact ⟨i + 1, by go_num, by omega, Nat.le_refl _, ⟨below_drewB HB.out _⟩, HXY⟩
        · have hd : (x == y) = false := beq_eq_false_iff_ne.2 hxy
          have HF : Sc (decide (l = m) = false) := ⟨decide_eq_false (fun h => hxy (by have h1 := HX.out; rw [h, HY.out] at h1; injection h1 with h1; exact h1.symm))⟩
          clear hxy
          go_wp2_with fail
          go_quiet (fail)
          go_wp2
          go_ret
          exact ⟨by rw [HF.out]; rfl, below_drewB HB.out _⟩
      · obtain rfl : i = n := by omega
        have HF : Sc (decide (l = m) = true) := ⟨decide_eq_true (by
          have h := HE.out
          rw [List.take_of_length_le (by rw [HN.out]; exact Nat.le_refl _), List.take_of_length_le (by rw [← HM.out]; exact Nat.le_refl _)] at h
          exact h)⟩
        go_wp2
        go_ret
        exact ⟨by rw [HF.out]; rfl, HB.out⟩
  · have HF : Sc (decide (l = m) = false) := ⟨decide_eq_false (fun h => hl (by rw [h]))⟩
    have hne : ¬ (l.length : Int) = m.length := by omega
    clear hl hown hown'
    go_enter Tryd.func32, Tryd.ntmps32
    go_wp2
    go_ret
    exact ⟨by rw [HF.out]; rfl, Below.refl _ _⟩
end Go.Proofs.YtmafogagkjafbaaDoor
