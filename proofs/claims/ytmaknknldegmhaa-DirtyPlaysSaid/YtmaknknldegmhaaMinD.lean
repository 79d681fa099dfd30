/- The least of the records from which pages are not on disk: slices.MinFunc, and the table's Least. -/
import Derived.Test.YtmaknknldegmhaaTabD
import Derived.StillTailTactics
namespace Go.Proofs.Ytmaknknldegmhaa
open Go.RowKit

set_option maxHeartbeats 400000 in
theorem dirtyLess_any (a b c d : Int) (w : World) :
    Calls Try.prog 54 #[.agg #[.int .i64 a, .int .i64 b], .agg #[.int .i64 c, .int .i64 d]] w fun e w' => e = .returned (.int .i64 (cmp3 b d)) ∧ Below w.heap.size w w' := by
  go_enter Try.func54, Try.ntmps54
  go_wp2_with (go_at_call 55; refine (compare_any _ _ _).mono ?_; rintro e w' ⟨rfl, rfl⟩)
  go_ret
  exact ⟨rfl, ((Below.refl _ _).alloc (Nat.le_refl _) _).alloc (by simp) _⟩

set_option maxHeartbeats 1000000 in
theorem dirtyMin_any (w : World) (base : Nat) (v : Value) (x : Int × Int) (r : List (Int × Int)) (hown : Own enc2 2 32 base w v (x :: r)) (hlen : (x :: r).length ≤ 1000000) :
    Calls Try.prog 53 #[v, .func (.func 54) #[] #[]] w fun e w' =>
      e = .returned (.agg #[.int .i64 (minD x r).1, .int .i64 (minD x r).2]) ∧ Below w.heap.size w w' := by
  obtain ⟨g, cap, rfl, hgb, hgw, hnc, hcm⟩ := hown.form (by simp)
  obtain ⟨n, hn⟩ : ∃ n, (x :: r).length = n := ⟨_, rfl⟩
  rw [hn] at hown hlen hnc ⊢
  have h1 : 1 ≤ n := by rw [← hn]; simp
  obtain ⟨c0, c1⟩ := hown.cells2 (k := 0) (x := x) rfl
  have HN := Sc.mk hn
  have HO := Sc.mk hown
  clear hn hown
  go_enter Try.func53, Try.ntmps53
  go_wp2
  go_loopg [6] n (fun kx s6 wr => ∃ i : Nat, s6 = .int .i64 i ∧ 1 ≤ i ∧ i ≤ n ∧ n - i ≤ kx ∧ Sc (Below w.heap.size w wr) ∧ Sc (w.heap.size + 1 < wr.heap.size) ∧
    Sc (wr.heap[w.heap.size]? = some (.cells #[.int .i64 0, .int .i64 0] 32 (0, 0))) ∧
    Sc (wr.heap[w.heap.size + 1]? = some (.cells #[.int .i64 (minD x (r.take (i - 1))).1, .int .i64 (minD x (r.take (i - 1))).2] 32 (0, 0))))
  case atStart =>
    refine ⟨1, rfl, by omega, h1, by omega, ⟨((Below.refl _ _).alloc (Nat.le_refl _) _).alloc (by simp) _⟩, ⟨by simp⟩, ⟨?_⟩, ⟨?_⟩⟩
    · rw [heap_alloc_old _ _ (by simp), heap_alloc_new]
    · have := heap_alloc_new (w.alloc (.cells #[.int .i64 0, .int .i64 0] 32)) (.cells #[.int .i64 x.1, .int .i64 x.2] 32)
      simpa [minD] using this
  case round =>
    obtain ⟨i, rfl, hi1, hi2, hg, HB, HS, H0, H1⟩ := hrel
    by_cases hlt : i < n
    · obtain ⟨y, hy⟩ : ∃ y, (x :: r)[i]? = some y := ⟨_, List.getElem?_eq_getElem (by rw [HN.out]; exact hlt)⟩
      obtain ⟨m, hm⟩ : ∃ m, m = minD x (r.take (i - 1)) := ⟨_, rfl⟩
      have hnext : minD x (r.take (i + 1 - 1)) = if y.2 < m.2 then y else m := by
        obtain ⟨j, rfl⟩ : ∃ j, i = j + 1 := ⟨i - 1, by omega⟩
        rw [hm]
        unfold minD
        have hy' : r[j]? = some y := by simpa using hy
        obtain ⟨hj, he⟩ := List.getElem?_eq_some_iff.1 hy'
        simp only [Nat.add_sub_cancel]
        rw [List.take_succ_eq_append_getElem hj, List.foldl_append, he]
        rfl
      rw [← hm] at H1
      have NX := Sc.mk hnext
      have hco := (HO.out.below HB.out).cells2 hy
      obtain ⟨d0, d1⟩ := hco
      have e0 : wr.cell? ⟨w.heap.size + 1, 0, none⟩ = some (.int .i64 m.1) := by simp [World.cell?, H1.out]
      have e1 : wr.cell? ⟨w.heap.size + 1, 1, none⟩ = some (.int .i64 m.2) := by simp [World.cell?, H1.out]
      have HY := Sc.mk hy
      clear hy hm hnext
      have hil : (i : Int) < n := by omega
      go_wp2_with fail
      go_region_with (go_at_call 54; refine (dirtyLess_any _ _ _ _ _).mono ?_; rintro e w1 ⟨rfl, hb⟩)
      all_goals
        have hw1 : w1.heap[w.heap.size + 1]? = some (.cells #[.int .i64 m.1, .int .i64 m.2] 32 (0, 0)) := (hb.block _ HS.out).trans H1.out
        have hw0 : w1.heap[w.heap.size]? = some (.cells #[.int .i64 0, .int .i64 0] 32 (0, 0)) := (hb.block _ (by have h5 : w.heap.size + 1 < wr.heap.size := HS.out; show w.heap.size < wr.heap.size; omega)).trans H0.out
        have hco := ((HO.out.below HB.out).below (w' := w1) ⟨hb.os, hb.tape, hb.output, hb.size, hb.block⟩).cells2 (HY.out)
        obtain ⟨f0, f1⟩ := hco
        have HB1 : Sc (Below w.heap.size w w1) := ⟨HB.out.trans ⟨hb.os, hb.tape, hb.output, hb.size, fun q hq => hb.block q (Nat.lt_of_lt_of_le hq HB.out.size)⟩⟩
        have HS1 : Sc (w.heap.size + 1 < w1.heap.size) := ⟨Nat.lt_of_lt_of_le HS.out hb.size⟩
        have g0 : w1.cell? ⟨w.heap.size + 1, 0, none⟩ = some (.int .i64 m.1) := by simp [World.cell?, hw1]
        have g1 : w1.cell? ⟨w.heap.size + 1, 1, none⟩ = some (.int .i64 m.2) := by simp [World.cell?, hw1]
        have z0 := unfrozen_at hw1 0
        have z1 := unfrozen_at hw1 1
        have HW1 := Sc.mk hw1
        have HW0 := Sc.mk hw0
        clear hw1 hw0 hb d0 d1 e0 e1
        by_cases hc : cmp3 y.2 m.2 < 0
        · have HC : Sc (y.2 < m.2) := ⟨cmp3_lt.1 hc⟩
          go_wp2
          go_roundg (n - (i + 1))
          case measure => omega
          case rel =>
            refine ⟨i + 1, by go_num, by omega, by omega, by omega, ⟨(HB1.out.setCell (by simp) _).setCell (by simp) _⟩, ⟨by simpa [World.setCell] using HS1.out⟩, ⟨?_⟩, ⟨?_⟩⟩
            · rw [Below.heap_setCell _ _ _ _ (by simp), Below.heap_setCell _ _ _ _ (by simp)]; exact HW0.out
            · rw [NX.out, if_pos HC.out, set_one (set_one HW1.out 0 _) 1 _]; rfl
        · have HC : Sc (¬ y.2 < m.2) := ⟨fun h => hc (cmp3_lt.2 h)⟩
          go_wp2
          go_roundg (n - (i + 1))
          case measure => omega
          case rel =>
            refine ⟨i + 1, by go_num, by omega, by omega, by omega, HB1, HS1, HW0, ⟨?_⟩⟩
            rw [NX.out, if_neg (by have := HC.out; omega)]; exact HW1.out
    · obtain rfl : i = n := by omega
      have hfull : minD x (r.take (i - 1)) = minD x r := by rw [List.take_of_length_le (by have := HN.out; simp at this; omega)]
      rw [hfull] at H1
      have e0 : wr.cell? ⟨w.heap.size + 1, 0, none⟩ = some (.int .i64 (minD x r).1) := by simp [World.cell?, H1.out]
      have e1 : wr.cell? ⟨w.heap.size + 1, 1, none⟩ = some (.int .i64 (minD x r).2) := by simp [World.cell?, H1.out]
      have f0 : wr.cell? ⟨w.heap.size, 0, none⟩ = some (.int .i64 0) := by simp [World.cell?, H0.out]
      have f1 : wr.cell? ⟨w.heap.size, 1, none⟩ = some (.int .i64 0) := by simp [World.cell?, H0.out]
      have z0 := unfrozen_at H0.out 0
      have z1 := unfrozen_at H0.out 1
      clear hfull
      go_wp2
      refine bodyPost_ret (v := .agg #[.int .i64 (minD x r).1, .int .i64 (minD x r).2]) (by simp [results, Try.results53, go_sem, f0, f1]) rfl ⟨rfl, ?_⟩
      exact (HB.out.setCell (by simp) _).setCell (by simp) _

theorem fieldD (a b : Int) (W : World) : (Instr.field 32 (.agg #[.int .i64 a, .int .i64 b]) 1).run Try.prog W = .ok (.int .i64 b) W := by kernel_rfl

set_option maxHeartbeats 1000000 in
theorem dirtyLeast_any (w : World) (tb : Nat) (row : Option Nat) (l : List (Int × Int)) (h : TabD w tb row l) (hlen : l.length ≤ 1000000) :
    Calls Try.prog 33 #[.pointer (some ⟨tb, 0, none⟩)] w fun e w' => e = .returned (.int .i64 (least l)) ∧ Below w.heap.size w w' := by
  obtain ⟨⟨v, hv, hc, hown⟩, hap, hr⟩ := h
  have hc1 := cell_one hc
  cases l with
  | nil =>
    rcases hown.2 with ⟨rfl, _⟩ | ⟨g, cap, cur, rfl, _⟩
    · clear hown hr hc hv hap
      go_enter Try.func33, Try.ntmps33
      go_wp2
      go_ret
      exact ⟨rfl, Below.refl _ _⟩
    · clear hown hr hc hv hap
      simp only [List.length_nil] at hc1
      go_enter Try.func33, Try.ntmps33
      go_wp2
      go_ret
      exact ⟨rfl, Below.refl _ _⟩
  | cons x r =>
    obtain ⟨A, cap, rfl, _, _⟩ := hown.slice
    obtain ⟨n, hn⟩ : ∃ n, (x :: r).length = n := ⟨_, rfl⟩
    have h0 : 0 < n := by rw [← hn]; simp
    have hne : ((n : Int) == 0) = false := by simp; omega
    rw [hn] at hown hc1
    have HO := Sc.mk hown
    have HN := Sc.mk hn
    have HL := Sc.mk hlen
    clear hown hr hc hv hap hn hlen
    have hfd := fieldD (minD x r).1 (minD x r).2
    go_enter Try.func33, Try.ntmps33
    go_wp2_with (go_at_call 53; go_loud (refine (dirtyMin_any _ 0 _ x r HO.out HL.out).mono ?_; rintro e w' ⟨rfl, hb⟩))
    go_ret
    exact ⟨rfl, hb⟩
end Go.Proofs.Ytmaknknldegmhaa
