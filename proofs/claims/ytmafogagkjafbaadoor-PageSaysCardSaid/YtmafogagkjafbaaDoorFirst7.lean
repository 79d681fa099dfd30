/- The chapter's examples. -/
import Derived.Test.YtmafogagkjafbaaDoorPageR
namespace Go.Proofs.YtmafogagkjafbaaDoor
open Go.RowKit

theorem zero_get0 : getS zeroB 0 4 = 0 := by decide +kernel
theorem zero_read : readP zeroB = [] := by decide +kernel
theorem zero_page : pageB 0 [] = zeroB := by decide +kernel
theorem zero_ok : ReadOk zeroB := by
  unfold ReadOk
  rw [zero_get0, zero_read]
  exact ⟨⟨by omega, by omega, by simp, fun h => absurd h (by simp), KeysOk.zero _⟩, zero_page⟩
theorem ReadLeft.yes {f : Nat → Addr} {b : List Int} {w w' : World} {e : Ending} (h : ReadLeft f b w e w') (hb : b.length = 256) (hr : ReadOk b) :
    ∃ A k c, e = .returned (.tuple #[aggP (getS b 0 4) (.slice A k c), .nilIface]) ∧ Own enc2 2 56 w.heap.size w' (.slice A k c) (readP b) ∧ Below w.heap.size w w' := by
  obtain ⟨h, hbl⟩ := h
  rcases h with ⟨h1, _⟩ | ⟨_, _, A, k, c, h3, h4⟩ | ⟨_, h2, _⟩
  · exact absurd hb h1
  · exact ⟨A, k, c, h3, h4, hbl⟩
  · exact absurd hr h2

set_option maxRecDepth 4000 in
set_option maxHeartbeats 2000000 in
theorem first7_any (f : Nat → Addr) (w : World) (hE : Errs w f) :
    Calls Tryd.prog 28 #[] w fun e w' => e = .returned (.bool true) ∧ Below w.heap.size w w' := by
  have hmk : ∀ W, (Instr.makeSlice 61 (.int .i64 256) (.int .i64 256)).run Tryd.prog W = .ok (.slice (some ⟨W.heap.size, 0, none⟩) 256 256) (W.alloc (.cells zeroRow 5)) := fun _ => by kernel_rfl
  have HE := Sc.mk hE
  clear hE
  go_enter Tryd.func28, Tryd.ntmps28
  go_wp2_with fail
  refine (pageRead_any f _ _ zeroB (HE.out.bel ((Below.refl _ _).alloc (Nat.le_refl _) _)) (own_zeros w).rd zeroB_byt (by rw [zeroB_length]; omega)).mono ?_
  intro e w1 hres
  obtain ⟨A1, k1, c1, rfl, ho1, hb1⟩ := hres.yes zeroB_length zero_ok
  rw [zero_get0]
  rw [zero_read] at ho1
  have hk1 : k1 = 0 := ho1.len
  subst hk1
  have HB1 : Sc (Below w.heap.size w w1) := ⟨below_down ((Below.refl _ _).alloc (Nat.le_refl _) _) hb1⟩
  have HP1 : Sc ((w1.alloc (.cells #[.int .i64 0, .slice A1 0 c1] 29)).heap[w1.heap.size]? = some (.cells #[.int .i64 0, .slice A1 0 c1] 29 (0, 0))) := ⟨heap_alloc_new _ _⟩
  clear ho1 hb1 hres
  go_wp2_with fail
  refine (pagePut_any _ 0 0 _ [] 5 7 Own.nil List.Pairwise.nil (by simp)).mono ?_
  intro e w2 hp
  obtain ⟨A2, k2, c2, rfl, ho2, hb2⟩ := PutLeft.fits (.inr (by simp)) hp
  have hk2 : k2 = 1 := ho2.len
  subst hk2
  have h2 := (hb2.block _ (heap_lt HP1.out)).trans HP1.out
  obtain ⟨p0, p1⟩ := cells_page h2
  have l1 := heap_lt h2
  have HB2 : Sc (Below w.heap.size w w2) := ⟨HB1.out.trans (((Below.refl _ _).alloc (Nat.le_refl _) _).trans (hb2.mono (by simp)) |>.mono HB1.out.size)⟩
  clear ho2 hb2 hp h2
  go_wp2
  go_ret
  exact ⟨rfl, HB2.out.alloc HB2.out.size _⟩
end Go.Proofs.YtmafogagkjafbaaDoor
