/- AnalyseStates: the walk. -/
import Derived.Test.YtoapihepdallbaaDoorLogs
import Derived.Test.YtoapihepdallbaaDoorNum
import Derived.Test.YtoapihepdallbaaDoorRefT
namespace Go.Proofs.YtoapihepdallbaaDoor
open Go.RowKit

theorem allocs_below (os : List Obj) : ∀ w : World, Below w.heap.size w (os.foldl World.alloc w) := by
  induction os with
  | nil => exact fun w => Below.refl _ _
  | cons o os ih => exact fun w => (dn_alloc (Below.refl _ _) o).trans ((ih (w.alloc o)).mono (by simp))
theorem allocs_at (os : List Obj) : ∀ (w : World) (j : Nat) (o : Obj), os[j]? = some o → (os.foldl World.alloc w).heap[w.heap.size + j]? = some o := by
  induction os with
  | nil => intro w j o h; simp at h
  | cons o' os ih =>
    intro w j o h
    cases j with
    | zero =>
      have : o' = o := by simpa using h
      subst this
      exact up (allocs_below os (w.alloc o')) (heap_alloc_new w o')
    | succ j =>
      have := ih (w.alloc o') j o (by simpa using h)
      have hs : (w.alloc o').heap.size = w.heap.size + 1 := by simp
      rw [hs] at this
      rw [show w.heap.size + (j + 1) = w.heap.size + 1 + j from by omega]
      exact this
abbrev rB : RecD := ⟨1, 7, 0, 0, 0, 0, false, false, 0, 0⟩
abbrev rS : RecD := ⟨2, 7, 2, 1, 0, 0, false, true, 0, 0⟩
abbrev rC : RecD := ⟨4, 7, 0, 2, 0, 0, false, false, 0, 0⟩
abbrev rA : RecD := ⟨5, 7, 0, 2, 0, 0, false, false, 0, 0⟩
abbrev rL : RecD := ⟨3, 7, 2, 3, 0, 0, true, false, 2, 0⟩
abbrev rE : RecD := ⟨6, 7, 0, 3, 0, 0, false, false, 0, 0⟩
abbrev wantS : List TX := [(7, 0, 1, 0), (7, 0, 2, 2), (7, 1, 3, 2), (7, 2, 3, 2), (7, 2, 4, 0)]
def slicesS (b : Nat) : Array Value := #[.slice (some ⟨b + 2, 0, none⟩) 1 1, .slice (some ⟨b + 3, 0, none⟩) 2 2, .slice (some ⟨b + 4, 0, none⟩) 3 3, .slice (some ⟨b + 5, 0, none⟩) 3 3, .slice (some ⟨b + 6, 0, none⟩) 4 4, .slice (some ⟨b + 7, 0, none⟩) 4 4]
def objsS (b : Nat) : List Obj := [.cells (cellsR rB) 51, .cells (cellsR rS) 51, .cells (flat encR [rB]).toArray 51, .cells (flat encR [rB, rS]).toArray 51, .cells (flat encR [rB, rS, rC]).toArray 51, .cells (flat encR [rB, rS, rA]).toArray 51, .cells (flat encR [rB, rS, rA, rL]).toArray 51, .cells (flat encR [rB, rS, rC, rE]).toArray 51, .cells (slicesS b) 25, .cells (flat enc4 wantS).toArray 56]
def litS (w : World) : World := (objsS w.heap.size).foldl World.alloc w
theorem litS_row (w : World) (j : Nat) (l : List RecD) (h : (objsS w.heap.size)[j]? = some (.cells (flat encR l).toArray 51)) (hl : l.length ≤ 4) : Own encR 10 51 0 (litS w) (.slice (some ⟨w.heap.size + j, 0, none⟩) l.length l.length) l :=
  Own.of_block (allocs_at _ w j _ h) (Nat.zero_le _) kindR rfl (Nat.le_refl _) (by unfold maxLen; omega) (by simp [kindR.flat_length]) (by simp [List.take_of_length_le, kindR.flat_length])
theorem ansS0 : anaP (good [rB]) 0 4 0 = (none, ⟨[(7, 0, 1, 0)], 7, [], false⟩) := by rfl
theorem ansS1 : anaP (good [rB, rS]) 0 4 0 = (none, ⟨[(7, 0, 2, 2)], 7, [(2, 2)], false⟩) := by rfl
theorem ansS2 : anaP (good [rB, rS, rC]) 0 4 0 = (none, ⟨[(7, 1, 3, 2)], 7, [(2, 2)], false⟩) := by rfl
theorem ansS3 : anaP (good [rB, rS, rA]) 0 4 0 = (none, ⟨[(7, 2, 3, 2)], 7, [(2, 2)], false⟩) := by rfl
theorem ansS4 : anaP (good [rB, rS, rA, rL]) 0 4 0 = (none, ⟨[(7, 2, 4, 0)], 7, [(2, 2)], false⟩) := by rfl
theorem ansS5 : anaP (good [rB, rS, rC, rE]) 0 4 0 = (none, ⟨[], 7, [(2, 2)], false⟩) := by rfl

set_option maxRecDepth 8000 in
set_option maxHeartbeats 8000000 in
theorem lawStates (f : Nat → Addr) (w : World) (n : Int) (hS : Sents w f) :
    Calls Tryd.prog 5 #[.int .i64 n] w fun e w' => e = .returned (.bool true) ∧ Below w.heap.size w w' := by
  have HS := Sc.mk hS
  have hk : n % 6 = 0 ∨ n % 6 = 1 ∨ n % 6 = 2 ∨ n % 6 = 3 ∨ n % 6 = 4 ∨ n % 6 = 5 := by omega
  have HK := Sc.mk hk
  clear hS hk
  go_enter Tryd.func5, Tryd.ntmps5
  go_wp2_with fail
  refine (first20_any f _ HS.out).mono ?_
  rintro e w1 ⟨rfl, hb⟩
  have HB1 := Sc.mk hb
  clear hb
  go_wp2_with fail
  have HB2 : Sc (Below w.heap.size w (litS w1)) := ⟨below_down HB1.out (allocs_below _ w1)⟩
  have HV : Sc ((litS w1).heap[w1.heap.size + 8]? = some (.cells (slicesS w1.heap.size) 25 (0, 0))) := ⟨allocs_at _ w1 8 _ rfl⟩
  have HW : Sc (Own enc4 4 56 0 (litS w1) (.slice (some ⟨w1.heap.size + 9, 0, none⟩) 5 5) wantS) := ⟨Own.of_block (allocs_at _ w1 9 _ rfl) (Nat.zero_le _) kind4 rfl (Nat.le_refl _) (by unfold maxLen; omega) rfl rfl⟩
  rcases HK.out with hk | hk | hk | hk | hk | hk
  · refine (number_is n 6 0 (litS w1) hk (by omega) (by omega)).mono ?_
    have HO : Sc (Own encR 10 51 0 (litS w1) (.slice (some ⟨w1.heap.size + 2, 0, none⟩) 1 1) [rB]) := ⟨litS_row w1 2 [rB] rfl (by simp)⟩
    have HC : Sc ((litS w1).cell? ⟨w1.heap.size + 8, 0, none⟩ = some (.slice (some ⟨w1.heap.size + 2, 0, none⟩) 1 1)) := ⟨by simp [World.cell?, HV.out, slicesS]⟩
    obtain ⟨b8, h8⟩ : ∃ b, w1.heap.size + 8 = b := ⟨_, rfl⟩
    obtain ⟨b9, h9⟩ : ∃ b, w1.heap.size + 9 = b := ⟨_, rfl⟩
    obtain ⟨gk, hgk⟩ : ∃ b, w1.heap.size + 2 = b := ⟨_, rfl⟩
    rw [show w1.heap.size + 1 + 1 + 1 + 1 + 1 + 1 + 1 + 1 = b8 from h8, show b8 + 1 = b9 from by omega]
    rw [h8, hgk] at HC
    rw [hgk] at HO
    rw [h9] at HW
    clear hk h8 h9 hgk HV HK
    obtain ⟨w2, hw2⟩ : ∃ w2, litS w1 = w2 := ⟨_, rfl⟩
    rw [hw2] at HB2 HW HC HO ⊢
    rintro e w2' ⟨rfl, rfl⟩
    have c8 := HC.out
    have l8 := World.block_lt_of_cell? _ _ c8
    clear hw2 HC
    go_wp2_with fail
    refine (logs_any f w2 0 _ [rB] 0 (HS.out.bel HB2.out) HO.out (by simp) (by omega) (by omega)).mono ?_
    rintro e w3 ⟨lb, lg, rw3, rr3, rfl, hp, _, hb⟩
    have HL := Sc.mk hp
    have HB3 := Sc.mk (below_down HB2.out hb)
    have HW3 := Sc.mk (HW.out.below hb)
    clear hp hb c8 l8 HO HW
    go_wp2_with fail
    refine (anaLog_any (f := f) w3 4 0 HL.out (HS.out.bel HB3.out) (by rw [show good [rB] = [rB] from rfl]; simp) (by omega) (by omega)).mono ?_
    rw [ansS0]
    rintro e w4 ⟨h | ⟨vt, vd, _, rfl, ht, hd⟩, hb⟩
    · obtain ⟨p, b, h, _⟩ := h
      simp at h
    have HB4 := Sc.mk (below_down HB3.out hb)
    have HW4 := Sc.mk (HW3.out.below hb)
    obtain ⟨At, ct, rfl, _, _⟩ := ht.slice
    obtain ⟨Ad, cd, rfl, _, _⟩ := hd.slice
    change Own enc4 4 56 _ w4 (.slice At 1 ct) [(7, 0, 1, 0)] at ht
    change Own enc2 2 58 _ w4 (.slice Ad 0 cd) [] at hd
    have hz := heap_alloc_new w4 (.cells #[.slice At 1 ct, .slice Ad 0 cd, .int .i64 7] 37)
    have HT := Sc.mk (ht.alloc (.cells #[.slice At 1 ct, .slice Ad 0 cd, .int .i64 7] 37))
    have HD := Sc.mk (hd.alloc (.cells #[.slice At 1 ct, .slice Ad 0 cd, .int .i64 7] 37))
    have HW5 := Sc.mk (HW4.out.alloc (.cells #[.slice At 1 ct, .slice Ad 0 cd, .int .i64 7] 37))
    have HB5 : Sc (Below w.heap.size w (w4.alloc (.cells #[.slice At 1 ct, .slice Ad 0 cd, .int .i64 7] 37))) := ⟨dn_alloc HB4.out _⟩
    obtain ⟨q0, q1, q2⟩ := cells_fd hz
    clear hz hb ht hd HW3 HW4 HB3 HB2 HL
    obtain ⟨gt, ct', het, _, _, _, _⟩ := HT.out.form (by simp)
    injection het with hA h2 h3
    subst hA
    clear h2 h3
    go_upto_region 17 with fail
    obtain ⟨b4, hb4⟩ : ∃ b, w4.heap.size = b := ⟨_, rfl⟩
    obtain ⟨w5, hw5⟩ : ∃ w5, (w4.alloc (.cells #[.slice (some ⟨gt, 0, none⟩) 1 ct, .slice Ad 0 cd, .int .i64 7] 37)) = w5 := ⟨_, rfl⟩
    rw [hw5] at HT HW5 HB5 q0 ⊢
    rw [hb4] at q0 ⊢
    clear hw5 hb4 q1 q2 HD
    obtain ⟨t0, t1, t2, t3⟩ := HT.out.cells4 (k := 0) rfl
    obtain ⟨v0, v1, v2, v3⟩ := HW5.out.cells4 (k := 0) rfl
    have SB : ∀ X : From w5, Calls Tryd.prog 15 #[.agg #[.int .i64 7, .int .i64 0, .int .i64 1, .int .i64 0], .agg #[.int .i64 7, .int .i64 0, .int .i64 1, .int .i64 0]] X.world fun e w' => e = .returned (.bool true) ∧ Below X.world.heap.size X.world w' := fun X => (txnSame1_any (7, 0, 1, 0) (7, 0, 1, 0) X.world).mono fun e w' ⟨he, hb⟩ => ⟨by rw [he]; simp, hb⟩
    have k0 : ∀ X : From w5, X.world.cell? ⟨b4, 0, none⟩ = some (.slice (some ⟨gt, 0, none⟩) 1 ct) := fun X => X.cell q0
    have m0 : ∀ X : From w5, X.world.cell? ⟨gt, 0, none⟩ = some (.int .i64 7) := fun X => X.cell t0
    have m1 : ∀ X : From w5, X.world.cell? ⟨gt, 1, none⟩ = some (.int .i64 0) := fun X => X.cell t1
    have m2 : ∀ X : From w5, X.world.cell? ⟨gt, 2, none⟩ = some (.int .i64 1) := fun X => X.cell t2
    have m3 : ∀ X : From w5, X.world.cell? ⟨gt, 3, none⟩ = some (.int .i64 0) := fun X => X.cell t3
    have n0 : ∀ X : From w5, X.world.cell? ⟨b9, 0, none⟩ = some (.int .i64 7) := fun X => X.cell v0
    have n1 : ∀ X : From w5, X.world.cell? ⟨b9, 1, none⟩ = some (.int .i64 0) := fun X => X.cell v1
    have n2 : ∀ X : From w5, X.world.cell? ⟨b9, 2, none⟩ = some (.int .i64 1) := fun X => X.cell v2
    have n3 : ∀ X : From w5, X.world.cell? ⟨b9, 3, none⟩ = some (.int .i64 0) := fun X => X.cell v3
    clear t0 t1 t2 t3 v0 v1 v2 v3 q0
    refine wp_region_below (by kernel_rfl) (by kernel_rfl) ?_
    repeat (go_big_quiet_step ((go_at_call 15; exact From.call _ (SB _))))
    refine wpQuiet_nil ?_
    intro wq hw'
    have HBQ := Sc.mk (From.of_class hw')
    clear hw'
    go_wp2
    go_ret
    exact ⟨rfl, below_down HB5.out HBQ.out⟩
  · refine (number_is n 6 1 (litS w1) hk (by omega) (by omega)).mono ?_
    have HO : Sc (Own encR 10 51 0 (litS w1) (.slice (some ⟨w1.heap.size + 3, 0, none⟩) 2 2) [rB, rS]) := ⟨litS_row w1 3 [rB, rS] rfl (by simp)⟩
    have HC : Sc ((litS w1).cell? ⟨w1.heap.size + 8, 1, none⟩ = some (.slice (some ⟨w1.heap.size + 3, 0, none⟩) 2 2)) := ⟨by simp [World.cell?, HV.out, slicesS]⟩
    obtain ⟨b8, h8⟩ : ∃ b, w1.heap.size + 8 = b := ⟨_, rfl⟩
    obtain ⟨b9, h9⟩ : ∃ b, w1.heap.size + 9 = b := ⟨_, rfl⟩
    obtain ⟨gk, hgk⟩ : ∃ b, w1.heap.size + 3 = b := ⟨_, rfl⟩
    rw [show w1.heap.size + 1 + 1 + 1 + 1 + 1 + 1 + 1 + 1 = b8 from h8, show b8 + 1 = b9 from by omega]
    rw [h8, hgk] at HC
    rw [hgk] at HO
    rw [h9] at HW
    clear hk h8 h9 hgk HV HK
    obtain ⟨w2, hw2⟩ : ∃ w2, litS w1 = w2 := ⟨_, rfl⟩
    rw [hw2] at HB2 HW HC HO ⊢
    rintro e w2' ⟨rfl, rfl⟩
    have c8 := HC.out
    have l8 := World.block_lt_of_cell? _ _ c8
    clear hw2 HC
    go_wp2_with fail
    refine (logs_any f w2 0 _ [rB, rS] 0 (HS.out.bel HB2.out) HO.out (by simp) (by omega) (by omega)).mono ?_
    rintro e w3 ⟨lb, lg, rw3, rr3, rfl, hp, _, hb⟩
    have HL := Sc.mk hp
    have HB3 := Sc.mk (below_down HB2.out hb)
    have HW3 := Sc.mk (HW.out.below hb)
    clear hp hb c8 l8 HO HW
    go_wp2_with fail
    refine (anaLog_any (f := f) w3 4 0 HL.out (HS.out.bel HB3.out) (by rw [show good [rB, rS] = [rB, rS] from rfl]; simp) (by omega) (by omega)).mono ?_
    rw [ansS1]
    rintro e w4 ⟨h | ⟨vt, vd, _, rfl, ht, hd⟩, hb⟩
    · obtain ⟨p, b, h, _⟩ := h
      simp at h
    have HB4 := Sc.mk (below_down HB3.out hb)
    have HW4 := Sc.mk (HW3.out.below hb)
    obtain ⟨At, ct, rfl, _, _⟩ := ht.slice
    obtain ⟨Ad, cd, rfl, _, _⟩ := hd.slice
    change Own enc4 4 56 _ w4 (.slice At 1 ct) [(7, 0, 2, 2)] at ht
    change Own enc2 2 58 _ w4 (.slice Ad 1 cd) [(2, 2)] at hd
    have hz := heap_alloc_new w4 (.cells #[.slice At 1 ct, .slice Ad 1 cd, .int .i64 7] 37)
    have HT := Sc.mk (ht.alloc (.cells #[.slice At 1 ct, .slice Ad 1 cd, .int .i64 7] 37))
    have HD := Sc.mk (hd.alloc (.cells #[.slice At 1 ct, .slice Ad 1 cd, .int .i64 7] 37))
    have HW5 := Sc.mk (HW4.out.alloc (.cells #[.slice At 1 ct, .slice Ad 1 cd, .int .i64 7] 37))
    have HB5 : Sc (Below w.heap.size w (w4.alloc (.cells #[.slice At 1 ct, .slice Ad 1 cd, .int .i64 7] 37))) := ⟨dn_alloc HB4.out _⟩
    obtain ⟨q0, q1, q2⟩ := cells_fd hz
    clear hz hb ht hd HW3 HW4 HB3 HB2 HL
    obtain ⟨gd, cd', hed, _, _, _, _⟩ := HD.out.form (by simp)
    injection hed with hA h2 h3
    subst hA
    clear h2 h3
    obtain ⟨e0, e1⟩ := HD.out.cells2 (k := 0) rfl
    obtain ⟨gt, ct', het, _, _, _, _⟩ := HT.out.form (by simp)
    injection het with hA h2 h3
    subst hA
    clear h2 h3
    go_upto_region 17 with fail
    obtain ⟨b4, hb4⟩ : ∃ b, w4.heap.size = b := ⟨_, rfl⟩
    obtain ⟨w5, hw5⟩ : ∃ w5, (w4.alloc (.cells #[.slice (some ⟨gt, 0, none⟩) 1 ct, .slice (some ⟨gd, 0, none⟩) 1 cd, .int .i64 7] 37)) = w5 := ⟨_, rfl⟩
    rw [hw5] at HT HW5 HB5 q0 ⊢
    rw [hb4] at q0 ⊢
    clear hw5 hb4 q1 q2 HD
    obtain ⟨t0, t1, t2, t3⟩ := HT.out.cells4 (k := 0) rfl
    obtain ⟨v0, v1, v2, v3⟩ := HW5.out.cells4 (k := 1) rfl
    have SB : ∀ X : From w5, Calls Tryd.prog 15 #[.agg #[.int .i64 7, .int .i64 0, .int .i64 2, .int .i64 2], .agg #[.int .i64 7, .int .i64 0, .int .i64 2, .int .i64 2]] X.world fun e w' => e = .returned (.bool true) ∧ Below X.world.heap.size X.world w' := fun X => (txnSame1_any (7, 0, 2, 2) (7, 0, 2, 2) X.world).mono fun e w' ⟨he, hb⟩ => ⟨by rw [he]; simp, hb⟩
    have k0 : ∀ X : From w5, X.world.cell? ⟨b4, 0, none⟩ = some (.slice (some ⟨gt, 0, none⟩) 1 ct) := fun X => X.cell q0
    have m0 : ∀ X : From w5, X.world.cell? ⟨gt, 0, none⟩ = some (.int .i64 7) := fun X => X.cell t0
    have m1 : ∀ X : From w5, X.world.cell? ⟨gt, 1, none⟩ = some (.int .i64 0) := fun X => X.cell t1
    have m2 : ∀ X : From w5, X.world.cell? ⟨gt, 2, none⟩ = some (.int .i64 2) := fun X => X.cell t2
    have m3 : ∀ X : From w5, X.world.cell? ⟨gt, 3, none⟩ = some (.int .i64 2) := fun X => X.cell t3
    have n0 : ∀ X : From w5, X.world.cell? ⟨b9, 4, none⟩ = some (.int .i64 7) := fun X => X.cell v0
    have n1 : ∀ X : From w5, X.world.cell? ⟨b9, 5, none⟩ = some (.int .i64 0) := fun X => X.cell v1
    have n2 : ∀ X : From w5, X.world.cell? ⟨b9, 6, none⟩ = some (.int .i64 2) := fun X => X.cell v2
    have n3 : ∀ X : From w5, X.world.cell? ⟨b9, 7, none⟩ = some (.int .i64 2) := fun X => X.cell v3
    clear t0 t1 t2 t3 v0 v1 v2 v3 q0
    refine wp_region_below (by kernel_rfl) (by kernel_rfl) ?_
    repeat (go_big_quiet_step ((go_at_call 15; exact From.call _ (SB _))))
    refine wpQuiet_nil ?_
    intro wq hw'
    have HBQ := Sc.mk (From.of_class hw')
    clear hw'
    go_wp2
    go_ret
    exact ⟨rfl, below_down HB5.out HBQ.out⟩
  · refine (number_is n 6 2 (litS w1) hk (by omega) (by omega)).mono ?_
    have HO : Sc (Own encR 10 51 0 (litS w1) (.slice (some ⟨w1.heap.size + 4, 0, none⟩) 3 3) [rB, rS, rC]) := ⟨litS_row w1 4 [rB, rS, rC] rfl (by simp)⟩
    have HC : Sc ((litS w1).cell? ⟨w1.heap.size + 8, 2, none⟩ = some (.slice (some ⟨w1.heap.size + 4, 0, none⟩) 3 3)) := ⟨by simp [World.cell?, HV.out, slicesS]⟩
    obtain ⟨b8, h8⟩ : ∃ b, w1.heap.size + 8 = b := ⟨_, rfl⟩
    obtain ⟨b9, h9⟩ : ∃ b, w1.heap.size + 9 = b := ⟨_, rfl⟩
    obtain ⟨gk, hgk⟩ : ∃ b, w1.heap.size + 4 = b := ⟨_, rfl⟩
    rw [show w1.heap.size + 1 + 1 + 1 + 1 + 1 + 1 + 1 + 1 = b8 from h8, show b8 + 1 = b9 from by omega]
    rw [h8, hgk] at HC
    rw [hgk] at HO
    rw [h9] at HW
    clear hk h8 h9 hgk HV HK
    obtain ⟨w2, hw2⟩ : ∃ w2, litS w1 = w2 := ⟨_, rfl⟩
    rw [hw2] at HB2 HW HC HO ⊢
    rintro e w2' ⟨rfl, rfl⟩
    have c8 := HC.out
    have l8 := World.block_lt_of_cell? _ _ c8
    clear hw2 HC
    go_wp2_with fail
    refine (logs_any f w2 0 _ [rB, rS, rC] 0 (HS.out.bel HB2.out) HO.out (by simp) (by omega) (by omega)).mono ?_
    rintro e w3 ⟨lb, lg, rw3, rr3, rfl, hp, _, hb⟩
    have HL := Sc.mk hp
    have HB3 := Sc.mk (below_down HB2.out hb)
    have HW3 := Sc.mk (HW.out.below hb)
    clear hp hb c8 l8 HO HW
    go_wp2_with fail
    refine (anaLog_any (f := f) w3 4 0 HL.out (HS.out.bel HB3.out) (by rw [show good [rB, rS, rC] = [rB, rS, rC] from rfl]; simp) (by omega) (by omega)).mono ?_
    rw [ansS2]
    rintro e w4 ⟨h | ⟨vt, vd, _, rfl, ht, hd⟩, hb⟩
    · obtain ⟨p, b, h, _⟩ := h
      simp at h
    have HB4 := Sc.mk (below_down HB3.out hb)
    have HW4 := Sc.mk (HW3.out.below hb)
    obtain ⟨At, ct, rfl, _, _⟩ := ht.slice
    obtain ⟨Ad, cd, rfl, _, _⟩ := hd.slice
    change Own enc4 4 56 _ w4 (.slice At 1 ct) [(7, 1, 3, 2)] at ht
    change Own enc2 2 58 _ w4 (.slice Ad 1 cd) [(2, 2)] at hd
    have hz := heap_alloc_new w4 (.cells #[.slice At 1 ct, .slice Ad 1 cd, .int .i64 7] 37)
    have HT := Sc.mk (ht.alloc (.cells #[.slice At 1 ct, .slice Ad 1 cd, .int .i64 7] 37))
    have HD := Sc.mk (hd.alloc (.cells #[.slice At 1 ct, .slice Ad 1 cd, .int .i64 7] 37))
    have HW5 := Sc.mk (HW4.out.alloc (.cells #[.slice At 1 ct, .slice Ad 1 cd, .int .i64 7] 37))
    have HB5 : Sc (Below w.heap.size w (w4.alloc (.cells #[.slice At 1 ct, .slice Ad 1 cd, .int .i64 7] 37))) := ⟨dn_alloc HB4.out _⟩
    obtain ⟨q0, q1, q2⟩ := cells_fd hz
    clear hz hb ht hd HW3 HW4 HB3 HB2 HL
    obtain ⟨gd, cd', hed, _, _, _, _⟩ := HD.out.form (by simp)
    injection hed with hA h2 h3
    subst hA
    clear h2 h3
    obtain ⟨e0, e1⟩ := HD.out.cells2 (k := 0) rfl
    obtain ⟨gt, ct', het, _, _, _, _⟩ := HT.out.form (by simp)
    injection het with hA h2 h3
    subst hA
    clear h2 h3
    go_upto_region 17 with fail
    obtain ⟨b4, hb4⟩ : ∃ b, w4.heap.size = b := ⟨_, rfl⟩
    obtain ⟨w5, hw5⟩ : ∃ w5, (w4.alloc (.cells #[.slice (some ⟨gt, 0, none⟩) 1 ct, .slice (some ⟨gd, 0, none⟩) 1 cd, .int .i64 7] 37)) = w5 := ⟨_, rfl⟩
    rw [hw5] at HT HW5 HB5 q0 ⊢
    rw [hb4] at q0 ⊢
    clear hw5 hb4 q1 q2 HD
    obtain ⟨t0, t1, t2, t3⟩ := HT.out.cells4 (k := 0) rfl
    obtain ⟨v0, v1, v2, v3⟩ := HW5.out.cells4 (k := 2) rfl
    have SB : ∀ X : From w5, Calls Tryd.prog 15 #[.agg #[.int .i64 7, .int .i64 1, .int .i64 3, .int .i64 2], .agg #[.int .i64 7, .int .i64 1, .int .i64 3, .int .i64 2]] X.world fun e w' => e = .returned (.bool true) ∧ Below X.world.heap.size X.world w' := fun X => (txnSame1_any (7, 1, 3, 2) (7, 1, 3, 2) X.world).mono fun e w' ⟨he, hb⟩ => ⟨by rw [he]; simp, hb⟩
    have k0 : ∀ X : From w5, X.world.cell? ⟨b4, 0, none⟩ = some (.slice (some ⟨gt, 0, none⟩) 1 ct) := fun X => X.cell q0
    have m0 : ∀ X : From w5, X.world.cell? ⟨gt, 0, none⟩ = some (.int .i64 7) := fun X => X.cell t0
    have m1 : ∀ X : From w5, X.world.cell? ⟨gt, 1, none⟩ = some (.int .i64 1) := fun X => X.cell t1
    have m2 : ∀ X : From w5, X.world.cell? ⟨gt, 2, none⟩ = some (.int .i64 3) := fun X => X.cell t2
    have m3 : ∀ X : From w5, X.world.cell? ⟨gt, 3, none⟩ = some (.int .i64 2) := fun X => X.cell t3
    have n0 : ∀ X : From w5, X.world.cell? ⟨b9, 8, none⟩ = some (.int .i64 7) := fun X => X.cell v0
    have n1 : ∀ X : From w5, X.world.cell? ⟨b9, 9, none⟩ = some (.int .i64 1) := fun X => X.cell v1
    have n2 : ∀ X : From w5, X.world.cell? ⟨b9, 10, none⟩ = some (.int .i64 3) := fun X => X.cell v2
    have n3 : ∀ X : From w5, X.world.cell? ⟨b9, 11, none⟩ = some (.int .i64 2) := fun X => X.cell v3
    clear t0 t1 t2 t3 v0 v1 v2 v3 q0
    refine wp_region_below (by kernel_rfl) (by kernel_rfl) ?_
    repeat (go_big_quiet_step ((go_at_call 15; exact From.call _ (SB _))))
    refine wpQuiet_nil ?_
    intro wq hw'
    have HBQ := Sc.mk (From.of_class hw')
    clear hw'
    go_wp2
    go_ret
    exact ⟨rfl, below_down HB5.out HBQ.out⟩
  · refine (number_is n 6 3 (litS w1) hk (by omega) (by omega)).mono ?_
    have HO : Sc (Own encR 10 51 0 (litS w1) (.slice (some ⟨w1.heap.size + 5, 0, none⟩) 3 3) [rB, rS, rA]) := ⟨litS_row w1 5 [rB, rS, rA] rfl (by simp)⟩
    have HC : Sc ((litS w1).cell? ⟨w1.heap.size + 8, 3, none⟩ = some (.slice (some ⟨w1.heap.size + 5, 0, none⟩) 3 3)) := ⟨by simp [World.cell?, HV.out, slicesS]⟩
    obtain ⟨b8, h8⟩ : ∃ b, w1.heap.size + 8 = b := ⟨_, rfl⟩
    obtain ⟨b9, h9⟩ : ∃ b, w1.heap.size + 9 = b := ⟨_, rfl⟩
    obtain ⟨gk, hgk⟩ : ∃ b, w1.heap.size + 5 = b := ⟨_, rfl⟩
    rw [show w1.heap.size + 1 + 1 + 1 + 1 + 1 + 1 + 1 + 1 = b8 from h8, show b8 + 1 = b9 from by omega]
    rw [h8, hgk] at HC
    rw [hgk] at HO
    rw [h9] at HW
    clear hk h8 h9 hgk HV HK
    obtain ⟨w2, hw2⟩ : ∃ w2, litS w1 = w2 := ⟨_, rfl⟩
    rw [hw2] at HB2 HW HC HO ⊢
    rintro e w2' ⟨rfl, rfl⟩
    have c8 := HC.out
    have l8 := World.block_lt_of_cell? _ _ c8
    clear hw2 HC
    go_wp2_with fail
    refine (logs_any f w2 0 _ [rB, rS, rA] 0 (HS.out.bel HB2.out) HO.out (by simp) (by omega) (by omega)).mono ?_
    rintro e w3 ⟨lb, lg, rw3, rr3, rfl, hp, _, hb⟩
    have HL := Sc.mk hp
    have HB3 := Sc.mk (below_down HB2.out hb)
    have HW3 := Sc.mk (HW.out.below hb)
    clear hp hb c8 l8 HO HW
    go_wp2_with fail
    refine (anaLog_any (f := f) w3 4 0 HL.out (HS.out.bel HB3.out) (by rw [show good [rB, rS, rA] = [rB, rS, rA] from rfl]; simp) (by omega) (by omega)).mono ?_
    rw [ansS3]
    rintro e w4 ⟨h | ⟨vt, vd, _, rfl, ht, hd⟩, hb⟩
    · obtain ⟨p, b, h, _⟩ := h
      simp at h
    have HB4 := Sc.mk (below_down HB3.out hb)
    have HW4 := Sc.mk (HW3.out.below hb)
    obtain ⟨At, ct, rfl, _, _⟩ := ht.slice
    obtain ⟨Ad, cd, rfl, _, _⟩ := hd.slice
    change Own enc4 4 56 _ w4 (.slice At 1 ct) [(7, 2, 3, 2)] at ht
    change Own enc2 2 58 _ w4 (.slice Ad 1 cd) [(2, 2)] at hd
    have hz := heap_alloc_new w4 (.cells #[.slice At 1 ct, .slice Ad 1 cd, .int .i64 7] 37)
    have HT := Sc.mk (ht.alloc (.cells #[.slice At 1 ct, .slice Ad 1 cd, .int .i64 7] 37))
    have HD := Sc.mk (hd.alloc (.cells #[.slice At 1 ct, .slice Ad 1 cd, .int .i64 7] 37))
    have HW5 := Sc.mk (HW4.out.alloc (.cells #[.slice At 1 ct, .slice Ad 1 cd, .int .i64 7] 37))
    have HB5 : Sc (Below w.heap.size w (w4.alloc (.cells #[.slice At 1 ct, .slice Ad 1 cd, .int .i64 7] 37))) := ⟨dn_alloc HB4.out _⟩
    obtain ⟨q0, q1, q2⟩ := cells_fd hz
    clear hz hb ht hd HW3 HW4 HB3 HB2 HL
    obtain ⟨gd, cd', hed, _, _, _, _⟩ := HD.out.form (by simp)
    injection hed with hA h2 h3
    subst hA
    clear h2 h3
    obtain ⟨e0, e1⟩ := HD.out.cells2 (k := 0) rfl
    obtain ⟨gt, ct', het, _, _, _, _⟩ := HT.out.form (by simp)
    injection het with hA h2 h3
    subst hA
    clear h2 h3
    go_upto_region 17 with fail
    obtain ⟨b4, hb4⟩ : ∃ b, w4.heap.size = b := ⟨_, rfl⟩
    obtain ⟨w5, hw5⟩ : ∃ w5, (w4.alloc (.cells #[.slice (some ⟨gt, 0, none⟩) 1 ct, .slice (some ⟨gd, 0, none⟩) 1 cd, .int .i64 7] 37)) = w5 := ⟨_, rfl⟩
    rw [hw5] at HT HW5 HB5 q0 ⊢
    rw [hb4] at q0 ⊢
    clear hw5 hb4 q1 q2 HD
    obtain ⟨t0, t1, t2, t3⟩ := HT.out.cells4 (k := 0) rfl
    obtain ⟨v0, v1, v2, v3⟩ := HW5.out.cells4 (k := 3) rfl
    have SB : ∀ X : From w5, Calls Tryd.prog 15 #[.agg #[.int .i64 7, .int .i64 2, .int .i64 3, .int .i64 2], .agg #[.int .i64 7, .int .i64 2, .int .i64 3, .int .i64 2]] X.world fun e w' => e = .returned (.bool true) ∧ Below X.world.heap.size X.world w' := fun X => (txnSame1_any (7, 2, 3, 2) (7, 2, 3, 2) X.world).mono fun e w' ⟨he, hb⟩ => ⟨by rw [he]; simp, hb⟩
    have k0 : ∀ X : From w5, X.world.cell? ⟨b4, 0, none⟩ = some (.slice (some ⟨gt, 0, none⟩) 1 ct) := fun X => X.cell q0
    have m0 : ∀ X : From w5, X.world.cell? ⟨gt, 0, none⟩ = some (.int .i64 7) := fun X => X.cell t0
    have m1 : ∀ X : From w5, X.world.cell? ⟨gt, 1, none⟩ = some (.int .i64 2) := fun X => X.cell t1
    have m2 : ∀ X : From w5, X.world.cell? ⟨gt, 2, none⟩ = some (.int .i64 3) := fun X => X.cell t2
    have m3 : ∀ X : From w5, X.world.cell? ⟨gt, 3, none⟩ = some (.int .i64 2) := fun X => X.cell t3
    have n0 : ∀ X : From w5, X.world.cell? ⟨b9, 12, none⟩ = some (.int .i64 7) := fun X => X.cell v0
    have n1 : ∀ X : From w5, X.world.cell? ⟨b9, 13, none⟩ = some (.int .i64 2) := fun X => X.cell v1
    have n2 : ∀ X : From w5, X.world.cell? ⟨b9, 14, none⟩ = some (.int .i64 3) := fun X => X.cell v2
    have n3 : ∀ X : From w5, X.world.cell? ⟨b9, 15, none⟩ = some (.int .i64 2) := fun X => X.cell v3
    clear t0 t1 t2 t3 v0 v1 v2 v3 q0
    refine wp_region_below (by kernel_rfl) (by kernel_rfl) ?_
    repeat (go_big_quiet_step ((go_at_call 15; exact From.call _ (SB _))))
    refine wpQuiet_nil ?_
    intro wq hw'
    have HBQ := Sc.mk (From.of_class hw')
    clear hw'
    go_wp2
    go_ret
    exact ⟨rfl, below_down HB5.out HBQ.out⟩
  · refine (number_is n 6 4 (litS w1) hk (by omega) (by omega)).mono ?_
    have HO : Sc (Own encR 10 51 0 (litS w1) (.slice (some ⟨w1.heap.size + 6, 0, none⟩) 4 4) [rB, rS, rA, rL]) := ⟨litS_row w1 6 [rB, rS, rA, rL] rfl (by simp)⟩
    have HC : Sc ((litS w1).cell? ⟨w1.heap.size + 8, 4, none⟩ = some (.slice (some ⟨w1.heap.size + 6, 0, none⟩) 4 4)) := ⟨by simp [World.cell?, HV.out, slicesS]⟩
    obtain ⟨b8, h8⟩ : ∃ b, w1.heap.size + 8 = b := ⟨_, rfl⟩
    obtain ⟨b9, h9⟩ : ∃ b, w1.heap.size + 9 = b := ⟨_, rfl⟩
    obtain ⟨gk, hgk⟩ : ∃ b, w1.heap.size + 6 = b := ⟨_, rfl⟩
    rw [show w1.heap.size + 1 + 1 + 1 + 1 + 1 + 1 + 1 + 1 = b8 from h8, show b8 + 1 = b9 from by omega]
    rw [h8, hgk] at HC
    rw [hgk] at HO
    rw [h9] at HW
    clear hk h8 h9 hgk HV HK
    obtain ⟨w2, hw2⟩ : ∃ w2, litS w1 = w2 := ⟨_, rfl⟩
    rw [hw2] at HB2 HW HC HO ⊢
    rintro e w2' ⟨rfl, rfl⟩
    have c8 := HC.out
    have l8 := World.block_lt_of_cell? _ _ c8
    clear hw2 HC
    go_wp2_with fail
    refine (logs_any f w2 0 _ [rB, rS, rA, rL] 0 (HS.out.bel HB2.out) HO.out (by simp) (by omega) (by omega)).mono ?_
    rintro e w3 ⟨lb, lg, rw3, rr3, rfl, hp, _, hb⟩
    have HL := Sc.mk hp
    have HB3 := Sc.mk (below_down HB2.out hb)
    have HW3 := Sc.mk (HW.out.below hb)
    clear hp hb c8 l8 HO HW
    go_wp2_with fail
    refine (anaLog_any (f := f) w3 4 0 HL.out (HS.out.bel HB3.out) (by rw [show good [rB, rS, rA, rL] = [rB, rS, rA, rL] from rfl]; simp) (by omega) (by omega)).mono ?_
    rw [ansS4]
    rintro e w4 ⟨h | ⟨vt, vd, _, rfl, ht, hd⟩, hb⟩
    · obtain ⟨p, b, h, _⟩ := h
      simp at h
    have HB4 := Sc.mk (below_down HB3.out hb)
    have HW4 := Sc.mk (HW3.out.below hb)
    obtain ⟨At, ct, rfl, _, _⟩ := ht.slice
    obtain ⟨Ad, cd, rfl, _, _⟩ := hd.slice
    change Own enc4 4 56 _ w4 (.slice At 1 ct) [(7, 2, 4, 0)] at ht
    change Own enc2 2 58 _ w4 (.slice Ad 1 cd) [(2, 2)] at hd
    have hz := heap_alloc_new w4 (.cells #[.slice At 1 ct, .slice Ad 1 cd, .int .i64 7] 37)
    have HT := Sc.mk (ht.alloc (.cells #[.slice At 1 ct, .slice Ad 1 cd, .int .i64 7] 37))
    have HD := Sc.mk (hd.alloc (.cells #[.slice At 1 ct, .slice Ad 1 cd, .int .i64 7] 37))
    have HW5 := Sc.mk (HW4.out.alloc (.cells #[.slice At 1 ct, .slice Ad 1 cd, .int .i64 7] 37))
    have HB5 : Sc (Below w.heap.size w (w4.alloc (.cells #[.slice At 1 ct, .slice Ad 1 cd, .int .i64 7] 37))) := ⟨dn_alloc HB4.out _⟩
    obtain ⟨q0, q1, q2⟩ := cells_fd hz
    clear hz hb ht hd HW3 HW4 HB3 HB2 HL
    obtain ⟨gd, cd', hed, _, _, _, _⟩ := HD.out.form (by simp)
    injection hed with hA h2 h3
    subst hA
    clear h2 h3
    obtain ⟨e0, e1⟩ := HD.out.cells2 (k := 0) rfl
    obtain ⟨gt, ct', het, _, _, _, _⟩ := HT.out.form (by simp)
    injection het with hA h2 h3
    subst hA
    clear h2 h3
    go_upto_region 17 with fail
    obtain ⟨b4, hb4⟩ : ∃ b, w4.heap.size = b := ⟨_, rfl⟩
    obtain ⟨w5, hw5⟩ : ∃ w5, (w4.alloc (.cells #[.slice (some ⟨gt, 0, none⟩) 1 ct, .slice (some ⟨gd, 0, none⟩) 1 cd, .int .i64 7] 37)) = w5 := ⟨_, rfl⟩
    rw [hw5] at HT HW5 HB5 q0 ⊢
    rw [hb4] at q0 ⊢
    clear hw5 hb4 q1 q2 HD
    obtain ⟨t0, t1, t2, t3⟩ := HT.out.cells4 (k := 0) rfl
    obtain ⟨v0, v1, v2, v3⟩ := HW5.out.cells4 (k := 4) rfl
    have SB : ∀ X : From w5, Calls Tryd.prog 15 #[.agg #[.int .i64 7, .int .i64 2, .int .i64 4, .int .i64 0], .agg #[.int .i64 7, .int .i64 2, .int .i64 4, .int .i64 0]] X.world fun e w' => e = .returned (.bool true) ∧ Below X.world.heap.size X.world w' := fun X => (txnSame1_any (7, 2, 4, 0) (7, 2, 4, 0) X.world).mono fun e w' ⟨he, hb⟩ => ⟨by rw [he]; simp, hb⟩
    have k0 : ∀ X : From w5, X.world.cell? ⟨b4, 0, none⟩ = some (.slice (some ⟨gt, 0, none⟩) 1 ct) := fun X => X.cell q0
    have m0 : ∀ X : From w5, X.world.cell? ⟨gt, 0, none⟩ = some (.int .i64 7) := fun X => X.cell t0
    have m1 : ∀ X : From w5, X.world.cell? ⟨gt, 1, none⟩ = some (.int .i64 2) := fun X => X.cell t1
    have m2 : ∀ X : From w5, X.world.cell? ⟨gt, 2, none⟩ = some (.int .i64 4) := fun X => X.cell t2
    have m3 : ∀ X : From w5, X.world.cell? ⟨gt, 3, none⟩ = some (.int .i64 0) := fun X => X.cell t3
    have n0 : ∀ X : From w5, X.world.cell? ⟨b9, 16, none⟩ = some (.int .i64 7) := fun X => X.cell v0
    have n1 : ∀ X : From w5, X.world.cell? ⟨b9, 17, none⟩ = some (.int .i64 2) := fun X => X.cell v1
    have n2 : ∀ X : From w5, X.world.cell? ⟨b9, 18, none⟩ = some (.int .i64 4) := fun X => X.cell v2
    have n3 : ∀ X : From w5, X.world.cell? ⟨b9, 19, none⟩ = some (.int .i64 0) := fun X => X.cell v3
    clear t0 t1 t2 t3 v0 v1 v2 v3 q0
    refine wp_region_below (by kernel_rfl) (by kernel_rfl) ?_
    repeat (go_big_quiet_step ((go_at_call 15; exact From.call _ (SB _))))
    refine wpQuiet_nil ?_
    intro wq hw'
    have HBQ := Sc.mk (From.of_class hw')
    clear hw'
    go_wp2
    go_ret
    exact ⟨rfl, below_down HB5.out HBQ.out⟩
  · refine (number_is n 6 5 (litS w1) hk (by omega) (by omega)).mono ?_
    have HO : Sc (Own encR 10 51 0 (litS w1) (.slice (some ⟨w1.heap.size + 7, 0, none⟩) 4 4) [rB, rS, rC, rE]) := ⟨litS_row w1 7 [rB, rS, rC, rE] rfl (by simp)⟩
    have HC : Sc ((litS w1).cell? ⟨w1.heap.size + 8, 5, none⟩ = some (.slice (some ⟨w1.heap.size + 7, 0, none⟩) 4 4)) := ⟨by simp [World.cell?, HV.out, slicesS]⟩
    obtain ⟨b8, h8⟩ : ∃ b, w1.heap.size + 8 = b := ⟨_, rfl⟩
    obtain ⟨b9, h9⟩ : ∃ b, w1.heap.size + 9 = b := ⟨_, rfl⟩
    obtain ⟨gk, hgk⟩ : ∃ b, w1.heap.size + 7 = b := ⟨_, rfl⟩
    rw [show w1.heap.size + 1 + 1 + 1 + 1 + 1 + 1 + 1 + 1 = b8 from h8, show b8 + 1 = b9 from by omega]
    rw [h8, hgk] at HC
    rw [hgk] at HO
    rw [h9] at HW
    clear hk h8 h9 hgk HV HK
    obtain ⟨w2, hw2⟩ : ∃ w2, litS w1 = w2 := ⟨_, rfl⟩
    rw [hw2] at HB2 HW HC HO ⊢
    rintro e w2' ⟨rfl, rfl⟩
    have c8 := HC.out
    have l8 := World.block_lt_of_cell? _ _ c8
    clear hw2 HC
    go_wp2_with fail
    refine (logs_any f w2 0 _ [rB, rS, rC, rE] 0 (HS.out.bel HB2.out) HO.out (by simp) (by omega) (by omega)).mono ?_
    rintro e w3 ⟨lb, lg, rw3, rr3, rfl, hp, _, hb⟩
    have HL := Sc.mk hp
    have HB3 := Sc.mk (below_down HB2.out hb)
    have HW3 := Sc.mk (HW.out.below hb)
    clear hp hb c8 l8 HO HW
    go_wp2_with fail
    refine (anaLog_any (f := f) w3 4 0 HL.out (HS.out.bel HB3.out) (by rw [show good [rB, rS, rC, rE] = [rB, rS, rC, rE] from rfl]; simp) (by omega) (by omega)).mono ?_
    rw [ansS5]
    rintro e w4 ⟨h | ⟨vt, vd, _, rfl, ht, hd⟩, hb⟩
    · obtain ⟨p, b, h, _⟩ := h
      simp at h
    have HB4 := Sc.mk (below_down HB3.out hb)
    have HW4 := Sc.mk (HW3.out.below hb)
    obtain ⟨At, ct, rfl, _, _⟩ := ht.slice
    obtain ⟨Ad, cd, rfl, _, _⟩ := hd.slice
    change Own enc4 4 56 _ w4 (.slice At 0 ct) [] at ht
    change Own enc2 2 58 _ w4 (.slice Ad 1 cd) [(2, 2)] at hd
    have hz := heap_alloc_new w4 (.cells #[.slice At 0 ct, .slice Ad 1 cd, .int .i64 7] 37)
    have HT := Sc.mk (ht.alloc (.cells #[.slice At 0 ct, .slice Ad 1 cd, .int .i64 7] 37))
    have HD := Sc.mk (hd.alloc (.cells #[.slice At 0 ct, .slice Ad 1 cd, .int .i64 7] 37))
    have HW5 := Sc.mk (HW4.out.alloc (.cells #[.slice At 0 ct, .slice Ad 1 cd, .int .i64 7] 37))
    have HB5 : Sc (Below w.heap.size w (w4.alloc (.cells #[.slice At 0 ct, .slice Ad 1 cd, .int .i64 7] 37))) := ⟨dn_alloc HB4.out _⟩
    obtain ⟨q0, q1, q2⟩ := cells_fd hz
    clear hz hb ht hd HW3 HW4 HB3 HB2 HL
    obtain ⟨gd, cd', hed, _, _, _, _⟩ := HD.out.form (by simp)
    injection hed with hA h2 h3
    subst hA
    clear h2 h3
    obtain ⟨e0, e1⟩ := HD.out.cells2 (k := 0) rfl
    go_wp2
    go_ret
    exact ⟨rfl, HB5.out⟩
end Go.Proofs.YtoapihepdallbaaDoor
