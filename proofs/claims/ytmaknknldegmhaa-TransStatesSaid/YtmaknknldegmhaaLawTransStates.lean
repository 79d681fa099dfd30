/- The walk of TransStates: how a transaction is, and where, are two things; put in anew it is as it is put in. -/
import Derived.Test.YtmaknknldegmhaaTFirst
import Derived.Test.YtmaknknldegmhaaNum
import Derived.Laws.StructEq
namespace Go.Proofs.Ytmaknknldegmhaa
open Go.RowKit

theorem got_one (k : Int) (x : Int × Int × Int) : got [(k, x)] k = (k, x) := by unfold got; rw [if_pos (has_one k x), pos_one]; rfl

set_option maxHeartbeats 4000000 in
theorem transStates_walk (i a b s : Int) (w : World) :
    Calls Try.prog 5 #[.int .i64 i, .int .i64 a, .int .i64 b, .int .i64 s] w fun e w' => e = .returned (.bool true) ∧ Below w.heap.size w w' := by
  obtain ⟨k, hk⟩ : ∃ k, i % 60000 = k := ⟨_, rfl⟩
  obtain ⟨r, hr⟩ : ∃ r, s % 3 = r := ⟨_, rfl⟩
  have hk1 : 0 ≤ k := by omega
  have hk2 : k < 60000 := by omega
  have HK := Sc.mk hk
  have HR := Sc.mk hr
  clear hk hr
  go_enter Try.func5, Try.ntmps5
  go_wp2_with fail
  refine (txnFirst0_any _).mono ?_
  rintro e w1 ⟨rfl, hb⟩
  have HB1 := Sc.mk hb
  clear hb
  go_wp2_with fail
  refine (number_is i 60000 k _ HK.out (by omega) (by omega)).mono ?_
  rintro e w2 ⟨rfl, rfl⟩
  go_wp2_with fail
  refine (number_is s 3 r _ HR.out (by omega) (by omega)).mono ?_
  rintro e w2 ⟨rfl, rfl⟩
  go_wp2_with fail
  refine (txnAdd_st w1 _ _ [] 0 [] (k + 1, 0, 5, 3) (StT.new w1) (by simp)).mono ?_
  rintro e w2 ⟨rfl, hs⟩
  rw [setIn_new, show max 0 (k + 1) = k + 1 by omega] at hs
  have HS2 := Sc.mk hs
  clear hs
  go_wp2_with fail
  refine (txnNote_st w1 _ _ _ _ _ _ a b HS2.out (by simp)).mono ?_
  rintro e w3 ⟨rfl, hs⟩
  rw [upd_one] at hs
  rw [has_one]
  have HS3 := Sc.mk hs
  clear hs
  go_wp2_with fail
  refine (txnGet_st w1 _ _ _ _ _ _ HS3.out (by simp)).mono ?_
  rintro e w4 ⟨rfl, hs⟩
  rw [has_one, got_one]
  have HS4 := Sc.mk hs
  clear hs
  go_wp2_with fail
  refine (txnState_st w1 _ _ _ _ _ _ r (HS4.out.alloc _) (by simp)).mono ?_
  rintro e w5 ⟨rfl, hs⟩
  rw [upd_one] at hs
  rw [has_one]
  have HS5 := Sc.mk hs
  clear hs
  go_wp2_with fail
  refine (txnGet_st w1 _ _ _ _ _ _ HS5.out (by simp)).mono ?_
  rintro e w6 ⟨rfl, hs⟩
  rw [has_one, got_one]
  have HS6 := Sc.mk hs
  clear hs
  go_wp2_with fail
  refine (txnAdd_st w1 _ _ _ _ _ (k + 1, 2, 9, 0) (HS6.out.alloc _) (by simp)).mono ?_
  rintro e w7 ⟨rfl, hs⟩
  rw [setIn_one, show max (k + 1) (k + 1) = k + 1 by omega] at hs
  have HS7 := Sc.mk hs
  clear hs
  go_wp2_with fail
  refine (txnGet_st w1 _ _ _ _ _ _ HS7.out (by simp)).mono ?_
  rintro e w8 ⟨rfl, hs⟩
  rw [has_one, got_one]
  have HS8 := Sc.mk hs
  have hx := hs.has (b := w4.heap.size) (List.mem_cons_of_mem _ List.mem_cons_self)
  have hy := hs.has (b := w6.heap.size) List.mem_cons_self
  have x1 : w8.cell? ⟨w4.heap.size, 1, none⟩ = some (.int .i64 0) := by simp [World.cell?, hx]
  have x2 : w8.cell? ⟨w4.heap.size, 2, none⟩ = some (.int .i64 a) := by simp [World.cell?, hx]
  have x3 : w8.cell? ⟨w4.heap.size, 3, none⟩ = some (.int .i64 b) := by simp [World.cell?, hx]
  have y1 : w8.cell? ⟨w6.heap.size, 1, none⟩ = some (.int .i64 r) := by simp [World.cell?, hy]
  have y2 : w8.cell? ⟨w6.heap.size, 2, none⟩ = some (.int .i64 a) := by simp [World.cell?, hy]
  have y3 : w8.cell? ⟨w6.heap.size, 3, none⟩ = some (.int .i64 b) := by simp [World.cell?, hy]
  have l1 : w4.heap.size < w8.heap.size := heap_lt hx
  have l2 : w6.heap.size < w8.heap.size := heap_lt hy
  have hst : Try.prog.stoodInHeld 41 = false := by kernel_rfl
  clear hs hx hy
  go_wp2_with (first | (go_at_call 24; refine (txnAll_st w1 _ _ _ _ _ (HS8.out.alloc _) (by simp)).mono ?_; rintro e w9 ⟨v, rfl, ho, hs⟩; obtain ⟨A, c, rfl, _, _⟩ := ho.slice; have HS9 := Sc.mk hs; clear hs ho) | (go_at_call 23; refine (txnMost_st w1 _ _ _ _ _ HS9.out).mono ?_; rintro e w9 ⟨rfl, rfl⟩))
  go_ret
  exact ⟨rfl, below_down HB1.out HS9.out.below⟩
end Go.Proofs.Ytmaknknldegmhaa
