/- Errors with a place: phoenixref.Placed, phoenixsee.Fault, Same. -/
import Derived.Test.YtoapihepdallbaaDoorSeeG
import Derived.Test.YtoapihepdallbaaDoorFinM
namespace Go.Proofs.YtoapihepdallbaaDoor
open Go.RowKit

abbrev aggA (code p : Int) : Value := .agg #[.int .i64 code, .bool true, .int .i64 p]
abbrev fz : Array Value := #[.int .i64 0, .bool false, .int .i64 0]
theorem cells_fz {w1 : World} {b : Nat} {t : TypeId} {x y z : Value} (h : w1.heap[b]? = some (.cells #[x, y, z] t (0, 0))) :
    w1.cell? ⟨b, 0, none⟩ = some x ∧ w1.cell? ⟨b, 1, none⟩ = some y ∧ w1.cell? ⟨b, 2, none⟩ = some z ∧ w1.frozen? ⟨b, 0, none⟩ = false ∧ w1.frozen? ⟨b, 1, none⟩ = false ∧ w1.frozen? ⟨b, 2, none⟩ = false ∧ b < w1.heap.size :=
  ⟨by simp [World.cell?, h], by simp [World.cell?, h], by simp [World.cell?, h], unfrozen_at h 0, unfrozen_at h 1, unfrozen_at h 2, heap_lt h⟩
theorem below_sts {w0 w : World} {b : Nat} {u0 u1 u2 : Value} (h : Below w0.heap.size w0 w) (hb : w0.heap.size ≤ b) : Below w0.heap.size w0 (((w.setCell ⟨b, 0, none⟩ u0).setCell ⟨b, 1, none⟩ u1).setCell ⟨b, 2, none⟩ u2) :=
  ((h.setCell hb _).setCell hb _).setCell hb _
set_option maxRecDepth 4000 in
set_option maxHeartbeats 1000000 in
theorem placed_any (w : World) (c p : Int) (hc : c ≠ 0) : Calls Tryd.prog 14 #[.int .i64 c, .int .i64 p] w fun e w' => e = .returned (aggA c p) ∧ Below w.heap.size w w' := by
  have h0 : (c == 0) = false := by simp [hc]
  obtain ⟨z0, z1, z2, y0, y1, y2, lz⟩ := cells_fz (heap_alloc_new w (.cells fz 44))
  have HB : Sc (Below w.heap.size w (w.alloc (.cells fz 44))) := ⟨dn_alloc (Below.refl _ _) _⟩
  clear hc
  go_enter Tryd.func14, Tryd.ntmps14
  go_wp2
  refine bodyPost_ret (v := aggA c p) (by simp [results, Tryd.results14, go_sem]) rfl ⟨rfl, ?_⟩
  first | exact below_sts HB.out (Nat.le_refl _) | exact dn_alloc (Below.refl _ _) _
theorem run_isAt (b : Nat) (w : World) : (Instr.typeAssert (errAt b) 39 119 true).run Tryd.prog w = .ok (.tuple #[.pointer (some ⟨b, 0, none⟩), .bool true]) w := by kernel_rfl

set_option maxRecDepth 4000 in
set_option maxHeartbeats 2000000 in
theorem faultAt_any (f : Nat → Addr) (w : World) (b : Nat) (p : Int) (h : Sents w f) (hb : w.heap[b]? = some (.cells #[.int .i64 p, errV (f 7)] 121 (0, 0))) : Calls Tryd.prog 42 #[errAt b] w fun e w' => e = .returned (aggA 108 p) ∧ Below w.heap.size w w' := by
  have hta := run_isAt b
  have HB1 : Sc (Below w.heap.size w (w.alloc (.cells fz 44))) := ⟨dn_alloc (Below.refl _ _) _⟩
  have HS := Sc.mk (h.bel HB1.out)
  have HA := Sc.mk (up HB1.out hb)
  have HZ := Sc.mk (heap_alloc_new w (.cells fz 44))
  have hlt := heap_lt hb
  have hbne : ¬ b = w.heap.size := by omega
  obtain ⟨w1, hw1⟩ : ∃ w1, w.alloc (.cells fz 44) = w1 := ⟨_, rfl⟩
  rw [hw1] at HB1 HS HA HZ
  obtain ⟨z0, z1, z2, y0, y1, y2, lz⟩ := cells_fz HZ.out
  have a0 : w1.cell? ⟨b, 0, none⟩ = some (.int .i64 p) := by simp [World.cell?, HA.out]
  have a1 : w1.cell? ⟨b, 1, none⟩ = some (errV (f 7)) := by simp [World.cell?, HA.out]
  have lb := heap_lt HA.out
  have HL : Sc (b < w1.heap.size ∧ w.heap.size < w1.heap.size) := ⟨lb, lz⟩
  have HQ : Sc (Below w1.heap.size w1 w1) := ⟨Below.refl _ _⟩
  have CS : ∀ X, Below w1.heap.size w1 X → Calls Tryd.prog 61 #[errV (f 7)] X fun e w' => e = .returned (.int .i64 108) ∧ Below w1.heap.size w1 w' := fun X hX => (sentinel_any f X (HS.out.bel hX) 7 (by omega)).mono fun e w' ⟨he, hq⟩ => ⟨he, hX.trans (hq.mono hX.size)⟩
  have CP : ∀ X, Below w1.heap.size w1 X → Calls Tryd.prog 14 #[.int .i64 108, .int .i64 p] X fun e w' => e = .returned (aggA 108 p) ∧ Below w1.heap.size w1 w' := fun X hX => (placed_any X 108 p (by omega)).mono fun e w' ⟨he, hq⟩ => ⟨he, hX.trans (hq.mono hX.size)⟩
  clear h hb hlt hbne
  go_enter Tryd.func42, Tryd.ntmps42
  go_upto_region 8 with fail
  clear hw1 hta
  go_region_law (first | (go_simp; go_at_call 61; refine (CS _ (by first | exact HQ.out | exact HQ.out.drew)).mono ?_; rintro e wt ⟨rfl, hq⟩; have HQ := Sc.mk hq; obtain ⟨z0, z1, z2, y0, y1, y2, lz⟩ := cells_fz ((hq.block _ HL.out.2).trans HZ.out); have HA2 := (hq.block _ HL.out.1).trans HA.out; have a0 : wt.cell? ⟨b, 0, none⟩ = some (.int .i64 p) := (by simp [World.cell?, HA2]); clear hq HA2) | (go_simp; go_at_call 14; refine (CP _ (by first | exact HQ.out | exact HQ.out.drew)).mono ?_; rintro e wt ⟨rfl, hq⟩; have HQ := Sc.mk hq; obtain ⟨z0, z1, z2, y0, y1, y2, lz⟩ := cells_fz ((hq.block _ HL.out.2).trans HZ.out); clear hq))
  all_goals
    clear CS CP
    go_wp2
    refine bodyPost_ret (v := aggA 108 p) (by simp [results, Tryd.results42, go_sem, z0, z1, z2]) rfl ⟨rfl, ?_⟩
    exact below_sts (below_down HB1.out HQ.out) (Nat.le_refl _)

set_option maxRecDepth 4000 in
set_option maxHeartbeats 1000000 in
theorem sameFaultA (w : World) (c p : Int) : Calls Tryd.prog 41 #[aggA c p, aggA c p] w fun e w' => e = .returned (.bool true) ∧ Below w.heap.size w w' := by
  go_enter Tryd.func41, Tryd.ntmps41
  go_wp2
  go_ret
  exact ⟨rfl, ((Below.refl _ _).alloc (Nat.le_refl _) _).alloc (by simp) _⟩

set_option maxRecDepth 4000 in
set_option maxHeartbeats 1000000 in
theorem sameAt_any (f : Nat → Addr) (w : World) (b : Nat) (p : Int) (h : Sents w f) (hb : w.heap[b]? = some (.cells #[.int .i64 p, errV (f 7)] 121 (0, 0))) : Calls Tryd.prog 13 #[errAt b, aggA 108 p] w fun e w' => e = .returned (.bool true) ∧ Below w.heap.size w w' := by
  have HB1 : Sc (Below w.heap.size w (w.alloc (.cells #[.int .i64 108, .bool true, .int .i64 p] 44))) := ⟨dn_alloc (Below.refl _ _) _⟩
  have HS := Sc.mk (h.bel HB1.out)
  have HA := Sc.mk (up HB1.out hb)
  have HZ := Sc.mk (heap_alloc_new w (.cells #[.int .i64 108, .bool true, .int .i64 p] 44))
  obtain ⟨w1, hw1⟩ : ∃ w1, w.alloc (.cells #[.int .i64 108, .bool true, .int .i64 p] 44) = w1 := ⟨_, rfl⟩
  have HW1 := Sc.mk hw1
  rw [hw1] at HB1 HS HA HZ
  have hc0 : ∀ X : From w1, X.world.cell? ⟨w.heap.size, 0, none⟩ = some (.int .i64 108) := fun X => X.cell (by simp [World.cell?, HZ.out])
  have hc1 : ∀ X : From w1, X.world.cell? ⟨w.heap.size, 1, none⟩ = some (.bool true) := fun X => X.cell (by simp [World.cell?, HZ.out])
  have hc2 : ∀ X : From w1, X.world.cell? ⟨w.heap.size, 2, none⟩ = some (.int .i64 p) := fun X => X.cell (by simp [World.cell?, HZ.out])
  clear h hb hw1
  go_enter Tryd.func13, Tryd.ntmps13
  go_wp2_with fail
  rw [HW1.out]
  refine wp_region_below (by kernel_rfl) (by kernel_rfl) ?_
  repeat (go_big_quiet_step (first
    | (go_at_call 42; exact From.call _ (faultAt_any f _ b p (HS.out.bel (From.below _)) (up (From.below _) HA.out)))
    | (go_at_call 41; exact From.call _ (sameFaultA _ _ _))))
  refine wpQuiet_nil ?_
  intro wq hw'
  have HBQ := Sc.mk (From.of_class hw')
  clear hw'
  go_wp2
  go_ret
  exact ⟨rfl, below_down HB1.out HBQ.out⟩
end Go.Proofs.YtoapihepdallbaaDoor
