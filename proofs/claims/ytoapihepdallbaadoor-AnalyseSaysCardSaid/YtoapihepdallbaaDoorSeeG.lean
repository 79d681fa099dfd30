/- phoenixsee.Is: an error as plain data. -/
import Derived.Test.YtoapihepdallbaaDoorSentG
import Derived.Test.YtoapihepdallbaaDoorBelowQ
import Derived.LaidEql
import Derived.Stop.IfaceNil
namespace Go.Proofs.YtoapihepdallbaaDoor
open Go.RowKit Go.ChangeShapes

/-- An error of errors.New's make. -/
abbrev errV (a : Addr) : Value := .iface 155 (.pointer (some a))
abbrev aggF (code : Int) : Value := .agg #[.int .i64 code, .bool false, .int .i64 0]

theorem errInfo : ∃ i j : TypeInfo, Tryd.prog.info? 155 = some i ∧ i.comparable = true ∧ Tryd.prog.info? 172 = some j ∧ j.size ≠ 0 := by
  have h : ((Tryd.prog.info? 155).map (·.comparable) = some true) ∧ ((Tryd.prog.info? 172).map (·.size) = some 1) := ⟨by kernel_rfl, by kernel_rfl⟩
  obtain ⟨i, hi, hc⟩ := Option.map_eq_some_iff.1 h.1
  obtain ⟨j, hj, hs⟩ := Option.map_eq_some_iff.1 h.2
  exact ⟨i, j, hi, hc, hj, by omega⟩
theorem run_errSame (w : World) (a : Addr) : (binOp .eql 39 (errV a) (errV a)).run Tryd.prog w = .ok (.bool true) w := by
  obtain ⟨i, j, hi, hc, hj, hs⟩ := errInfo
  exact run_eql_iface_ptr_same w a Tryd.underlying39 Tryd.underlying155 hi hc hj
theorem run_errOther {w : World} {a b : Addr} (hne : a ≠ b) (ha : ∃ c t, w.heap[a.block]? = some (.cells c t (0, 0))) (hb : ∃ c t, w.heap[b.block]? = some (.cells c t (0, 0))) :
    (binOp .eql 39 (errV a) (errV b)).run Tryd.prog w = .ok (.bool false) w := by
  obtain ⟨i, j, hi, hc, hj, hs⟩ := errInfo
  obtain ⟨_, _, ha⟩ := ha
  obtain ⟨_, _, hb⟩ := hb
  exact run_eql_iface_ptr_other w Tryd.underlying39 Tryd.underlying155 hi hc hj hs hne ha hb

set_option maxRecDepth 4000 in
set_option maxHeartbeats 1000000 in
theorem alike_any (a b : Addr) (w : World) (ha : ∃ c t, w.heap[a.block]? = some (.cells c t (0, 0))) (hb : ∃ c t, w.heap[b.block]? = some (.cells c t (0, 0))) : Calls Tryd.prog 78 #[errV a, errV b] w fun e w' => e = .returned (.bool (decide (a = b))) ∧ w = w' := by
  by_cases h : a = b
  · subst h
    have hr := run_errSame w a
    clear ha hb
    go_enter Tryd.func78, Tryd.ntmps78
    go_wp2
    go_ret
    exact ⟨by simp, rfl⟩
  · have hd : decide (a = b) = false := decide_eq_false h
    have HD := Sc.mk hd
    have hr := run_errOther h ha hb
    clear hd ha hb h
    go_enter Tryd.func78, Tryd.ntmps78
    go_wp2
    go_ret
    exact ⟨by rw [HD.out]; rfl, rfl⟩

/-- The errors in a row. -/
def errRowL (f : Nat → Addr) : List Value := (List.range 18).map fun i => errV (f i)
set_option maxRecDepth 4000 in
set_option maxHeartbeats 1000000 in
theorem sentinels_any (f : Nat → Addr) (w : World) (h : Sents w f) : Calls Tryd.prog 77 #[] w fun e w' => e = .returned (.slice (some ⟨w.heap.size, 0, none⟩) 18 18) ∧ w' = w.alloc (.cells (errRowL f).toArray 39) := by
  have c0 : w.cell? ⟨3, 0, none⟩ = some (errV (f 0)) := h.cell 0 (by omega)
  have c1 : w.cell? ⟨2, 0, none⟩ = some (errV (f 1)) := h.cell 1 (by omega)
  have c2 : w.cell? ⟨4, 0, none⟩ = some (errV (f 2)) := h.cell 2 (by omega)
  have c3 : w.cell? ⟨5, 0, none⟩ = some (errV (f 3)) := h.cell 3 (by omega)
  have c4 : w.cell? ⟨6, 0, none⟩ = some (errV (f 4)) := h.cell 4 (by omega)
  have c5 : w.cell? ⟨7, 0, none⟩ = some (errV (f 5)) := h.cell 5 (by omega)
  have c6 : w.cell? ⟨8, 0, none⟩ = some (errV (f 6)) := h.cell 6 (by omega)
  have c7 : w.cell? ⟨1, 0, none⟩ = some (errV (f 7)) := h.cell 7 (by omega)
  have c8 : w.cell? ⟨0, 0, none⟩ = some (errV (f 8)) := h.cell 8 (by omega)
  have c9 : w.cell? ⟨9, 0, none⟩ = some (errV (f 9)) := h.cell 9 (by omega)
  have c10 : w.cell? ⟨10, 0, none⟩ = some (errV (f 10)) := h.cell 10 (by omega)
  have c11 : w.cell? ⟨11, 0, none⟩ = some (errV (f 11)) := h.cell 11 (by omega)
  have c12 : w.cell? ⟨12, 0, none⟩ = some (errV (f 12)) := h.cell 12 (by omega)
  have c13 : w.cell? ⟨13, 0, none⟩ = some (errV (f 13)) := h.cell 13 (by omega)
  have c14 : w.cell? ⟨14, 0, none⟩ = some (errV (f 14)) := h.cell 14 (by omega)
  have c15 : w.cell? ⟨15, 0, none⟩ = some (errV (f 15)) := h.cell 15 (by omega)
  have c16 : w.cell? ⟨16, 0, none⟩ = some (errV (f 16)) := h.cell 16 (by omega)
  have c17 : w.cell? ⟨17, 0, none⟩ = some (errV (f 17)) := h.cell 17 (by omega)
  clear h
  go_enter Tryd.func77, Tryd.ntmps77
  go_wp2
  go_ret
  exact ⟨rfl, rfl⟩
theorem errRow_at (f : Nat → Addr) {w : World} {g : Nat} {t : TypeId} (h : w.heap[g]? = some (.cells (errRowL f).toArray t (0, 0))) {i : Nat} (hi : i < 18) : w.cell? ⟨g, i, none⟩ = some (errV (f i)) := by
  simp [World.cell?, h, errRowL, List.getElem?_range hi]

set_option maxRecDepth 4000 in
set_option maxHeartbeats 1000000 in
theorem sentinel_any (f : Nat → Addr) (w : World) (h : Sents w f) (m : Nat) (hm : m < 18) : Calls Tryd.prog 61 #[errV (f m)] w fun e w' => e = .returned (.int .i64 (101 + m)) ∧ Below w.heap.size w w' := by
  have HS := Sc.mk h
  clear h
  go_enter Tryd.func61, Tryd.ntmps61
  go_wp2_with fail
  refine (sentinels_any f _ HS.out).mono ?_
  rintro e w1 ⟨rfl, hw1⟩
  obtain ⟨g, hg⟩ : ∃ g, w.heap.size = g := ⟨_, rfl⟩
  have HG : Sc (w1.heap[g]? = some (.cells (errRowL f).toArray 39 (0, 0))) := ⟨by rw [hw1, ← hg]; exact heap_alloc_new w _⟩
  have HB1 : Sc (Below w.heap.size w w1) := ⟨by rw [hw1]; exact (Below.refl _ _).alloc (Nat.le_refl _) _⟩
  have HS1 := Sc.mk (HS.out.bel HB1.out)
  rw [hg]
  clear hw1 hg
  go_wp2_with fail
  go_loop [2, 4] (fun s2 s4 => ∃ i : Nat, s2 = .int .i64 0 ∧ s4 = .int .i64 i ∧ i ≤ m) (fun _ s4 => 18 - (intOf s4).toNat)
  case atStart => exact ⟨0, rfl, rfl, by omega⟩
  case round =>
    obtain ⟨i, rfl, rfl, him⟩ := hrel
    have hi18 : (i : Int) < 18 := by omega
    have hc := errRow_at f HG.out (show i < 18 by omega)
    by_cases hlt : i = m
    · have HD : Sc (decide (f m = f i) = true) := ⟨by rw [hlt]; simp⟩
      have HE : Sc (101 + (i : Int) = 101 + (m : Int)) := ⟨by rw [hlt]⟩
      clear hlt
      go_wp2_with fail
      refine (alike_any (f m) (f i) _ (HS1.out.blk m hm) (HS1.out.blk i (by omega))).mono ?_
      rintro e w2 ⟨rfl, rfl⟩
      rw [HD.out]
      go_wp2
      go_ret
      exact ⟨by rw [← HE.out]; rfl, HB1.out⟩
    · have HD : Sc (decide (f m = f i) = false) := ⟨decide_eq_false fun h => hlt (HS1.out.inj m hm i (by omega) h).symm⟩
      have hlt2 : i < m := by omega
      clear hlt
      go_wp2_with fail
      refine (alike_any (f m) (f i) _ (HS1.out.blk m hm) (HS1.out.blk i (by omega))).mono ?_
      rintro e w2 ⟨rfl, rfl⟩
      rw [HD.out]
      go_wp2
      go_round
      case rel => exact ⟨i + 1, rfl, by go_num, by omega⟩
      case measure => simp [intOf]; omega

set_option maxRecDepth 4000 in
set_option maxHeartbeats 1000000 in
theorem bare_any (w : World) (c : Int) : Calls Tryd.prog 48 #[.int .i64 c] w fun e w' => e = .returned (aggF c) ∧ Below w.heap.size w w' := by
  go_enter Tryd.func48, Tryd.ntmps48
  go_wp2
  refine bodyPost_ret (v := aggF c) (by simp [results, Tryd.results48, go_sem]) rfl ⟨rfl, (Below.refl _ _).alloc (Nat.le_refl _) _⟩
set_option maxRecDepth 4000 in
set_option maxHeartbeats 1000000 in
theorem none_any (w : World) : Calls Tryd.prog 38 #[] w fun e w' => e = .returned (aggF 0) ∧ Below w.heap.size w w' := by
  go_enter Tryd.func38, Tryd.ntmps38
  go_wp2
  refine bodyPost_ret (v := aggF 0) (by simp [results, Tryd.results38, go_sem]) rfl ⟨rfl, (Below.refl _ _).alloc (Nat.le_refl _) _⟩
set_option maxRecDepth 4000 in
set_option maxHeartbeats 1000000 in
theorem sameFault_refl (w : World) (c : Int) : Calls Tryd.prog 41 #[aggF c, aggF c] w fun e w' => e = .returned (.bool true) ∧ Below w.heap.size w w' := by
  go_enter Tryd.func41, Tryd.ntmps41
  go_wp2
  go_ret
  exact ⟨rfl, ((Below.refl _ _).alloc (Nat.le_refl _) _).alloc (by simp) _⟩
set_option maxRecDepth 4000 in
set_option maxHeartbeats 1000000 in
theorem faultNil_any (w : World) : Calls Tryd.prog 42 #[.nilIface] w fun e w' => e = .returned (aggF 0) ∧ Below w.heap.size w w' := by
  go_enter Tryd.func42, Tryd.ntmps42
  go_wp2_with fail
  refine (none_any _).mono ?_
  rintro e w1 ⟨rfl, hb⟩
  have hz : w1.heap[w.heap.size]? = some (.cells #[.int .i64 0, .bool false, .int .i64 0] 44 (0, 0)) := (hb.block _ (by simp)).trans (heap_alloc_new w _)
  have HB := Sc.mk (below_down (dn_alloc (Below.refl _ _) _) hb)
  have z0 : w1.cell? ⟨w.heap.size, 0, none⟩ = some (.int .i64 0) := by simp [World.cell?, hz]
  have z1 : w1.cell? ⟨w.heap.size, 1, none⟩ = some (.bool false) := by simp [World.cell?, hz]
  have z2 : w1.cell? ⟨w.heap.size, 2, none⟩ = some (.int .i64 0) := by simp [World.cell?, hz]
  have y0 := unfrozen_at hz 0
  have y1 := unfrozen_at hz 1
  have y2 := unfrozen_at hz 2
  clear hb hz
  go_wp2
  refine bodyPost_ret (v := aggF 0) (by simp [results, Tryd.results42, go_sem, z0, z1, z2]) rfl ⟨rfl, ?_⟩
  exact ((HB.out.setCell (Nat.le_refl _) _).setCell (Nat.le_refl _) _).setCell (Nat.le_refl _) _

theorem run_noAt (a : Addr) (w : World) : (Instr.typeAssert (errV a) 39 119 true).run Tryd.prog w = .ok (.tuple #[.pointer none, .bool false]) w := by kernel_rfl
set_option maxRecDepth 4000 in
set_option maxHeartbeats 1000000 in
theorem faultErr_any (f : Nat → Addr) (w : World) (h : Sents w f) (m : Nat) (hm : m < 18) : Calls Tryd.prog 42 #[errV (f m)] w fun e w' => e = .returned (aggF (101 + m)) ∧ Below w.heap.size w w' := by
  have hta := run_noAt (f m)
  have HS := Sc.mk (h.bel ((Below.refl _ _).alloc (Nat.le_refl _) (.cells #[.int .i64 0, .bool false, .int .i64 0] 44)))
  clear h
  go_enter Tryd.func42, Tryd.ntmps42
  go_wp2_with fail
  refine (sentinel_any f _ HS.out m hm).mono ?_
  rintro e w1 ⟨rfl, hb⟩
  have hz1 : w1.heap[w.heap.size]? = some (.cells #[.int .i64 0, .bool false, .int .i64 0] 44 (0, 0)) := (hb.block _ (by simp)).trans (heap_alloc_new w _)
  have HB1 := Sc.mk (below_down (dn_alloc (Below.refl _ _) _) hb)
  have HZ1 := Sc.mk hz1
  clear hb hz1 hta
  go_wp2_with fail
  refine (bare_any _ _).mono ?_
  rintro e w2 ⟨rfl, hb⟩
  have hz := up hb HZ1.out
  have HB := Sc.mk (below_down HB1.out hb)
  have z0 : w2.cell? ⟨w.heap.size, 0, none⟩ = some (.int .i64 0) := by simp [World.cell?, hz]
  have z1 : w2.cell? ⟨w.heap.size, 1, none⟩ = some (.bool false) := by simp [World.cell?, hz]
  have z2 : w2.cell? ⟨w.heap.size, 2, none⟩ = some (.int .i64 0) := by simp [World.cell?, hz]
  have y0 := unfrozen_at hz 0
  have y1 := unfrozen_at hz 1
  have y2 := unfrozen_at hz 2
  clear hb hz
  go_wp2
  refine bodyPost_ret (v := aggF (101 + m)) (by simp [results, Tryd.results42, go_sem, z0, z1, z2]) rfl ⟨rfl, ?_⟩
  exact ((HB.out.setCell (Nat.le_refl _) _).setCell (Nat.le_refl _) _).setCell (Nat.le_refl _) _

/-- An error and its number: nil and 0; one of api's. -/
inductive ErrIs (w : World) (f : Nat → Addr) : Value → Int → Prop where
  | ok : ErrIs w f .nilIface 0
  | bad (m : Nat) : m < 18 → Sents w f → ErrIs w f (errV (f m)) (101 + m)
theorem ErrIs.bel {w w' : World} {f : Nat → Addr} {v : Value} {c : Int} (h : ErrIs w f v c) (hb : Below w.heap.size w w') : ErrIs w' f v c := by
  cases h with
  | ok => exact .ok
  | bad m hm hs => exact .bad m hm (hs.bel hb)
theorem fault_any {f : Nat → Addr} {w : World} {v : Value} {c : Int} (h : ErrIs w f v c) : Calls Tryd.prog 42 #[v] w fun e w' => e = .returned (aggF c) ∧ Below w.heap.size w w' := by
  cases h with
  | ok => exact faultNil_any w
  | bad m hm hs => exact faultErr_any f w hs m hm

set_option maxRecDepth 4000 in
set_option maxHeartbeats 1000000 in
theorem same_any {f : Nat → Addr} {w : World} {v : Value} {c : Int} (h : ErrIs w f v c) : Calls Tryd.prog 13 #[v, aggF c] w fun e w' => e = .returned (.bool true) ∧ Below w.heap.size w w' := by
  have hz := heap_alloc_new w (.cells #[.int .i64 c, .bool false, .int .i64 0] 44)
  have HE := Sc.mk (h.bel ((Below.refl _ _).alloc (Nat.le_refl _) (.cells #[.int .i64 c, .bool false, .int .i64 0] 44)))
  have HW : Sc (Below w.heap.size w (w.alloc (.cells #[.int .i64 c, .bool false, .int .i64 0] 44))) := ⟨(Below.refl _ _).alloc (Nat.le_refl _) _⟩
  obtain ⟨w1, hw1⟩ : ∃ w1, w.alloc (.cells #[.int .i64 c, .bool false, .int .i64 0] 44) = w1 := ⟨_, rfl⟩
  have HW1 := Sc.mk hw1
  rw [hw1] at hz HE HW
  have hc0 : ∀ X : From w1, X.world.cell? ⟨w.heap.size, 0, none⟩ = some (.int .i64 c) := fun X => X.cell (by simp [World.cell?, hz])
  have hc1 : ∀ X : From w1, X.world.cell? ⟨w.heap.size, 1, none⟩ = some (.bool false) := fun X => X.cell (by simp [World.cell?, hz])
  have hc2 : ∀ X : From w1, X.world.cell? ⟨w.heap.size, 2, none⟩ = some (.int .i64 0) := fun X => X.cell (by simp [World.cell?, hz])
  clear h hw1 hz
  go_enter Tryd.func13, Tryd.ntmps13
  go_wp2_with fail
  rw [HW1.out]
  refine wp_region_below (by kernel_rfl) (by kernel_rfl) ?_
  repeat (go_big_quiet_step (first
    | (go_at_call 42; exact From.call _ (fault_any (HE.out.bel (From.below _))))
    | (go_at_call 41; exact From.call _ (sameFault_refl _ _))))
  refine wpQuiet_nil ?_
  intro wq hw'
  have HBQ := Sc.mk (From.of_class hw')
  clear hw'
  go_wp2
  go_ret
  exact ⟨rfl, below_down HW.out HBQ.out⟩

set_option maxRecDepth 4000 in
set_option maxHeartbeats 1000000 in
theorem is_any {f : Nat → Addr} {w : World} {v : Value} {c : Int} (h : ErrIs w f v c) : Calls Tryd.prog 24 #[v, .int .i64 c] w fun e w' => e = .returned (.bool true) ∧ Below w.heap.size w w' := by
  have HE := Sc.mk h
  clear h
  go_enter Tryd.func24, Tryd.ntmps24
  go_wp2_with fail
  refine (bare_any _ c).mono ?_
  rintro e w1 ⟨rfl, hb1⟩
  have HB1 := Sc.mk hb1
  clear hb1
  go_wp2_with fail
  refine (same_any (HE.out.bel HB1.out)).mono ?_
  rintro e w2 ⟨rfl, hb2⟩
  have HB2 := Sc.mk (below_down HB1.out hb2)
  clear hb2
  go_wp2
  go_ret
  exact ⟨rfl, HB2.out⟩

end Go.Proofs.YtoapihepdallbaaDoor
