/- phoenixsee.Is: an error as plain data. -/
import Derived.Test.YtmafogagkjafbaaDoorSent
import Derived.Test.YtmafogagkjafbaaDoorBelowQ
import Derived.LaidEql
import Derived.Stop.IfaceNil
namespace Go.Proofs.YtmafogagkjafbaaDoor
open Go.RowKit Go.ChangeShapes

/-- An error of errors.New's make. -/
abbrev errV (a : Addr) : Value := .iface 117 (.pointer (some a))
abbrev aggF (code : Int) : Value := .agg #[.int .i64 code, .bool false, .int .i64 0]

theorem errInfo : ∃ i j : TypeInfo, Tryd.prog.info? 117 = some i ∧ i.comparable = true ∧ Tryd.prog.info? 135 = some j ∧ j.size ≠ 0 := by
  have h : ((Tryd.prog.info? 117).map (·.comparable) = some true) ∧ ((Tryd.prog.info? 135).map (·.size) = some 1) := ⟨by kernel_rfl, by kernel_rfl⟩
  obtain ⟨i, hi, hc⟩ := Option.map_eq_some_iff.1 h.1
  obtain ⟨j, hj, hs⟩ := Option.map_eq_some_iff.1 h.2
  exact ⟨i, j, hi, hc, hj, by omega⟩
theorem run_errSame (w : World) (a : Addr) : (binOp .eql 36 (errV a) (errV a)).run Tryd.prog w = .ok (.bool true) w := by
  obtain ⟨i, j, hi, hc, hj, hs⟩ := errInfo
  exact run_eql_iface_ptr_same w a Tryd.underlying36 Tryd.underlying117 hi hc hj
theorem run_errOther {w : World} {a b : Addr} (hne : a ≠ b) (ha : ∃ c t, w.heap[a.block]? = some (.cells c t (0, 0))) (hb : ∃ c t, w.heap[b.block]? = some (.cells c t (0, 0))) :
    (binOp .eql 36 (errV a) (errV b)).run Tryd.prog w = .ok (.bool false) w := by
  obtain ⟨i, j, hi, hc, hj, hs⟩ := errInfo
  obtain ⟨_, _, ha⟩ := ha
  obtain ⟨_, _, hb⟩ := hb
  exact run_eql_iface_ptr_other w Tryd.underlying36 Tryd.underlying117 hi hc hj hs hne ha hb

set_option maxRecDepth 4000 in
set_option maxHeartbeats 1000000 in
theorem alike_any (a b : Addr) (w : World) (ha : ∃ c t, w.heap[a.block]? = some (.cells c t (0, 0))) (hb : ∃ c t, w.heap[b.block]? = some (.cells c t (0, 0))) : Calls Tryd.prog 73 #[errV a, errV b] w fun e w' => e = .returned (.bool (decide (a = b))) ∧ w = w' := by
  by_cases h : a = b
  · subst h
    have hr := run_errSame w a
    clear ha hb
    go_enter Tryd.func73, Tryd.ntmps73
    go_wp2
    go_ret
    exact ⟨by simp, rfl⟩
  · have hd : decide (a = b) = false := decide_eq_false h
    have HD := Sc.mk hd
    have hr := run_errOther h ha hb
    clear hd ha hb h
    go_enter Tryd.func73, Tryd.ntmps73
    go_wp2
    go_ret
    exact ⟨by rw [HD.out]; rfl, rfl⟩

/-- The errors in a row. -/
def errRowL (f : Nat → Addr) : List Value := (List.range 18).map fun i => errV (f i)
set_option maxRecDepth 4000 in
set_option maxHeartbeats 1000000 in
theorem sentinels_any (f : Nat → Addr) (w : World) (h : Sents w f) : Calls Tryd.prog 72 #[] w fun e w' => e = .returned (.slice (some ⟨w.heap.size, 0, none⟩) 18 18) ∧ w' = w.alloc (.cells (errRowL f).toArray 36) := by
  have c0 : w.cell? ⟨3, 0, none⟩ = some (errV (f 0)) := h.cell 0 (by omega)
  have c1 : w.cell? ⟨1, 0, none⟩ = some (errV (f 1)) := h.cell 1 (by omega)
  have c2 : w.cell? ⟨2, 0, none⟩ = some (errV (f 2)) := h.cell 2 (by omega)
  have c3 : w.cell? ⟨4, 0, none⟩ = some (errV (f 3)) := h.cell 3 (by omega)
  have c4 : w.cell? ⟨5, 0, none⟩ = some (errV (f 4)) := h.cell 4 (by omega)
  have c5 : w.cell? ⟨6, 0, none⟩ = some (errV (f 5)) := h.cell 5 (by omega)
  have c6 : w.cell? ⟨0, 0, none⟩ = some (errV (f 6)) := h.cell 6 (by omega)
  have c7 : w.cell? ⟨7, 0, none⟩ = some (errV (f 7)) := h.cell 7 (by omega)
  have c8 : w.cell? ⟨8, 0, none⟩ = some (errV (f 8)) := h.cell 8 (by omega)
  have c9 : w.cell? ⟨9, 0, none⟩ = some (errV (f 9)) := h.cell 9 (by omega)
  have c10 : w.cell? ⟨10, 0, none⟩ = some (errV (f 10)) := h.cell 10 (by omega)
  have c11 : w.cell? ⟨11, 0, none⟩ = some (errV (f 11)) := h.cell 11 (by omega)
  have c12 : w.cell? ⟨12, 0, none⟩ = some (errV (f 12)) := h.cell 12 (by omega)
  have c13 : w.cell? ⟨13, 0, none⟩ = some (errV (f 13)) := h.cell 13 (by omega)
  have c14 : w.cell? ⟨14, 0, none⟩ = some (errV (f 14)) := h.cell 14 (by omega)
  have c15 : w.cell? ⟨15, 0, none⟩ = some (errV (f 15)) := h.cell 15 (by omega)
  have c16 : w.cell? ⟨16, 0, none⟩ = some (errV (f 16)) := h.cell 16 (by omega)
  have c17 : w.cell? ⟨17, 0, none⟩ = some (errV (f 17)) := h.cell 17 (by omega)
  clear h
  go_enter Tryd.func72, Tryd.ntmps72
  go_wp2
  go_ret
  exact ⟨rfl, rfl⟩
theorem errRow_at (f : Nat → Addr) {w : World} {g : Nat} {t : TypeId} (h : w.heap[g]? = some (.cells (errRowL f).toArray t (0, 0))) {i : Nat} (hi : i < 18) : w.cell? ⟨g, i, none⟩ = some (errV (f i)) := by
  simp [World.cell?, h, errRowL, List.getElem?_range hi]

set_option maxRecDepth 4000 in
set_option maxHeartbeats 1000000 in
theorem sentinel_any (f : Nat → Addr) (w : World) (h : Sents w f) (m : Nat) (hm : m < 18) : Calls Tryd.prog 68 #[errV (f m)] w fun e w' => e = .returned (.int .i64 (101 + m)) ∧ Below w.heap.size w w' := by
  have HS := Sc.mk h
  clear h
  go_enter Tryd.func68, Tryd.ntmps68
  go_wp2_with fail
  refine (sentinels_any f _ HS.out).mono ?_
  rintro e w1 ⟨rfl, hw1⟩
  obtain ⟨g, hg⟩ : ∃ g, w.heap.size = g := ⟨_, rfl⟩
  have HG : Sc (w1.heap[g]? = some (.cells (errRowL f).toArray 36 (0, 0))) := ⟨by rw [hw1, ← hg]; exact heap_alloc_new w _⟩
  have HB1 : Sc (Below w.heap.size w w1) := ⟨by rw [hw1]; exact (Below.refl _ _).alloc (Nat.le_refl _) _⟩
  have HS1 := Sc.mk (HS.out.bel HB1.out)
  rw [hg]
  clear hw1 hg
  go_wp2_with fail
  go_loop [2, 4] (fun s2 s4 => ∃ i : Nat, s2 = .int .i64 0 ∧ s4 = .int .i64 i ∧ i ≤ m) (fun _ s4 => 18 - (intOf s4).toNat)
  case atStart => exact ⟨0, rfl, rfl, by omega⟩
  case round =>
    obtain ⟨i, rfl, rfl, him⟩ := hrel
    have hi18 : (i : Int) < 18 := by omega
    have hc := errRow_at f HG.out (show i < 18 by omega)
    by_cases hlt : i = m
    · have HD : Sc (decide (f m = f i) = true) := ⟨by rw [hlt]; simp⟩
      have HE : Sc (101 + (i : Int) = 101 + (m : Int)) := ⟨by rw [hlt]⟩
      clear hlt
      go_wp2_with fail
      refine (alike_any (f m) (f i) _ (HS1.out.blk m hm) (HS1.out.blk i (by omega))).mono ?_
      rintro e w2 ⟨rfl, rfl⟩
      rw [HD.out]
      go_wp2
      go_ret
      exact ⟨by rw [← HE.out]; rfl, HB1.out⟩
    · have HD : Sc (decide (f m = f i) = false) := ⟨decide_eq_false fun h => hlt (HS1.out.inj m hm i (by omega) h).symm⟩
      have hlt2 : i < m := by omega
      clear hlt
      go_wp2_with fail
      refine (alike_any (f m) (f i) _ (HS1.out.blk m hm) (HS1.out.blk i (by omega))).mono ?_
      rintro e w2 ⟨rfl, rfl⟩
      rw [HD.out]
      go_wp2
      go_round
      case rel => exact ⟨i + 1, rfl, by go_num, by omega⟩
      case measure => simp [intOf]; omega

set_option maxRecDepth 4000 in
set_option maxHeartbeats 1000000 in
theorem bare_any (w : World) (c : Int) : Calls Tryd.prog 46 #[.int .i64 c] w fun e w' => e = .returned (aggF c) ∧ Below w.heap.size w w' := by
  go_enter Tryd.func46, Tryd.ntmps46
  go_wp2
  refine bodyPost_ret (v := aggF c) (by simp [results, Tryd.results46, go_sem]) rfl ⟨rfl, (Below.refl _ _).alloc (Nat.le_refl _) _⟩
set_option maxRecDepth 4000 in
set_option maxHeartbeats 1000000 in
theorem none_any (w : World) : Calls Tryd.prog 67 #[] w fun e w' => e = .returned (aggF 0) ∧ Below w.heap.size w w' := by
  go_enter Tryd.func67, Tryd.ntmps67
  go_wp2
  refine bodyPost_ret (v := aggF 0) (by simp [results, Tryd.results67, go_sem]) rfl ⟨rfl, (Below.refl _ _).alloc (Nat.le_refl _) _⟩
set_option maxRecDepth 4000 in
set_option maxHeartbeats 1000000 in
theorem sameFault_refl (w : World) (c : Int) : Calls Tryd.prog 57 #[aggF c, aggF c] w fun e w' => e = .returned (.bool true) ∧ Below w.heap.size w w' := by
  go_enter Tryd.func57, Tryd.ntmps57
  go_wp2
  go_ret
  exact ⟨rfl, ((Below.refl _ _).alloc (Nat.le_refl _) _).alloc (by simp) _⟩
set_option maxRecDepth 4000 in
set_option maxHeartbeats 1000000 in
theorem faultNil_any (w : World) : Calls Tryd.prog 58 #[.nilIface] w fun e w' => e = .returned (aggF 0) ∧ Below w.heap.size w w' := by
  go_enter Tryd.func58, Tryd.ntmps58
  go_wp2_with fail
  refine (none_any _).mono ?_
  rintro e w1 ⟨rfl, hb⟩
  have hz : w1.heap[w.heap.size]? = some (.cells #[.int .i64 0, .bool false, .int .i64 0] 87 (0, 0)) := (hb.block _ (by simp)).trans (heap_alloc_new w _)
  have HB := Sc.mk (below_down (dn_alloc (Below.refl _ _) _) hb)
  have z0 : w1.cell? ⟨w.heap.size, 0, none⟩ = some (.int .i64 0) := by simp [World.cell?, hz]
  have z1 : w1.cell? ⟨w.heap.size, 1, none⟩ = some (.bool false) := by simp [World.cell?, hz]
  have z2 : w1.cell? ⟨w.heap.size, 2, none⟩ = some (.int .i64 0) := by simp [World.cell?, hz]
  have y0 := unfrozen_at hz 0
  have y1 := unfrozen_at hz 1
  have y2 := unfrozen_at hz 2
  clear hb hz
  go_wp2
  refine bodyPost_ret (v := aggF 0) (by simp [results, Tryd.results58, go_sem, z0, z1, z2]) rfl ⟨rfl, ?_⟩
  exact ((HB.out.setCell (Nat.le_refl _) _).setCell (Nat.le_refl _) _).setCell (Nat.le_refl _) _

theorem run_noAt (a : Addr) (w : World) : (Instr.typeAssert (errV a) 36 106 true).run Tryd.prog w = .ok (.tuple #[.pointer none, .bool false]) w := by kernel_rfl
set_option maxRecDepth 4000 in
set_option maxHeartbeats 1000000 in
theorem faultErr_any (f : Nat → Addr) (w : World) (h : Sents w f) (m : Nat) (hm : m < 18) : Calls Tryd.prog 58 #[errV (f m)] w fun e w' => e = .returned (aggF (101 + m)) ∧ Below w.heap.size w w' := by
  have hta := run_noAt (f m)
  have HS := Sc.mk (h.bel ((Below.refl _ _).alloc (Nat.le_refl _) (.cells #[.int .i64 0, .bool false, .int .i64 0] 87)))
  clear h
  go_enter Tryd.func58, Tryd.ntmps58
  go_wp2_with fail
  refine (sentinel_any f _ HS.out m hm).mono ?_
  rintro e w1 ⟨rfl, hb⟩
  have hz1 : w1.heap[w.heap.size]? = some (.cells #[.int .i64 0, .bool false, .int .i64 0] 87 (0, 0)) := (hb.block _ (by simp)).trans (heap_alloc_new w _)
  have HB1 := Sc.mk (below_down (dn_alloc (Below.refl _ _) _) hb)
  have HZ1 := Sc.mk hz1
  clear hb hz1 hta
  go_wp2_with fail
  refine (bare_any _ _).mono ?_
  rintro e w2 ⟨rfl, hb⟩
  have hz := up hb HZ1.out
  have HB := Sc.mk (below_down HB1.out hb)
  have z0 : w2.cell? ⟨w.heap.size, 0, none⟩ = some (.int .i64 0) := by simp [World.cell?, hz]
  have z1 : w2.cell? ⟨w.heap.size, 1, none⟩ = some (.bool false) := by simp [World.cell?, hz]
  have z2 : w2.cell? ⟨w.heap.size, 2, none⟩ = some (.int .i64 0) := by simp [World.cell?, hz]
  have y0 := unfrozen_at hz 0
  have y1 := unfrozen_at hz 1
  have y2 := unfrozen_at hz 2
  clear hb hz
  go_wp2
  refine bodyPost_ret (v := aggF (101 + m)) (by simp [results, Tryd.results58, go_sem, z0, z1, z2]) rfl ⟨rfl, ?_⟩
  exact ((HB.out.setCell (Nat.le_refl _) _).setCell (Nat.le_refl _) _).setCell (Nat.le_refl _) _

/-- An error and its number: nil and 0; one of api's. -/
inductive ErrIs (w : World) (f : Nat → Addr) : Value → Int → Prop where
  | ok : ErrIs w f .nilIface 0
  | bad (m : Nat) : m < 18 → Sents w f → ErrIs w f (errV (f m)) (101 + m)
theorem ErrIs.bel {w w' : World} {f : Nat → Addr} {v : Value} {c : Int} (h : ErrIs w f v c) (hb : Below w.heap.size w w') : ErrIs w' f v c := by
  cases h with
  | ok => exact .ok
  | bad m hm hs => exact .bad m hm (hs.bel hb)
theorem fault_any {f : Nat → Addr} {w : World} {v : Value} {c : Int} (h : ErrIs w f v c) : Calls Tryd.prog 58 #[v] w fun e w' => e = .returned (aggF c) ∧ Below w.heap.size w w' := by
  cases h with
  | ok => exact faultNil_any w
  | bad m hm hs => exact faultErr_any f w hs m hm

set_option maxRecDepth 4000 in
set_option maxHeartbeats 1000000 in
theorem same_any {f : Nat → Addr} {w : World} {v : Value} {c : Int} (h : ErrIs w f v c) : Calls Tryd.prog 45 #[v, aggF c] w fun e w' => e = .returned (.bool true) ∧ Below w.heap.size w w' := by
  have hz := heap_alloc_new w (.cells #[.int .i64 c, .bool false, .int .i64 0] 87)
  have HE := Sc.mk (h.bel ((Below.refl _ _).alloc (Nat.le_refl _) (.cells #[.int .i64 c, .bool false, .int .i64 0] 87)))
  have HW : Sc (Below w.heap.size w (w.alloc (.cells #[.int .i64 c, .bool false, .int .i64 0] 87))) := ⟨(Below.refl _ _).alloc (Nat.le_refl _) _⟩
  obtain ⟨w1, hw1⟩ : ∃ w1, w.alloc (.cells #[.int .i64 c, .bool false, .int .i64 0] 87) = w1 := ⟨_, rfl⟩
  have HW1 := Sc.mk hw1
  rw [hw1] at hz HE HW
  have hc0 : ∀ X : From w1, X.world.cell? ⟨w.heap.size, 0, none⟩ = some (.int .i64 c) := fun X => X.cell (by simp [World.cell?, hz])
  have hc1 : ∀ X : From w1, X.world.cell? ⟨w.heap.size, 1, none⟩ = some (.bool false) := fun X => X.cell (by simp [World.cell?, hz])
  have hc2 : ∀ X : From w1, X.world.cell? ⟨w.heap.size, 2, none⟩ = some (.int .i64 0) := fun X => X.cell (by simp [World.cell?, hz])
  clear h hw1 hz
  go_enter Tryd.func45, Tryd.ntmps45
  go_wp2_with fail
  rw [HW1.out]
  refine wp_region_below (by kernel_rfl) (by kernel_rfl) ?_
  repeat (go_big_quiet_step (first
    | (go_at_call 58; exact From.call _ (fault_any (HE.out.bel (From.below _))))
    | (go_at_call 57; exact From.call _ (sameFault_refl _ _))))
  refine wpQuiet_nil ?_
  intro wq hw'
  have HBQ := Sc.mk (From.of_class hw')
  clear hw'
  go_wp2
  go_ret
  exact ⟨rfl, below_down HW.out HBQ.out⟩

set_option maxRecDepth 4000 in
set_option maxHeartbeats 1000000 in
theorem is_any {f : Nat → Addr} {w : World} {v : Value} {c : Int} (h : ErrIs w f v c) : Calls Tryd.prog 23 #[v, .int .i64 c] w fun e w' => e = .returned (.bool true) ∧ Below w.heap.size w w' := by
  have HE := Sc.mk h
  clear h
  go_enter Tryd.func23, Tryd.ntmps23
  go_wp2_with fail
  refine (bare_any _ c).mono ?_
  rintro e w1 ⟨rfl, hb1⟩
  have HB1 := Sc.mk hb1
  clear hb1
  go_wp2_with fail
  refine (same_any (HE.out.bel HB1.out)).mono ?_
  rintro e w2 ⟨rfl, hb2⟩
  have HB2 := Sc.mk (below_down HB1.out hb2)
  clear hb2
  go_wp2
  go_ret
  exact ⟨rfl, HB2.out⟩

/-- Redo where there is no room: an empty page, ErrPage. -/
def RedoErr (f : Nat → Addr) (w : World) (e : Ending) (w' : World) : Prop :=
  e = .returned (.tuple #[aggP 0 (.slice none 0 0), .bool false, errV (f 6)]) ∧ Below w.heap.size w w'
set_option maxRecDepth 4000 in
set_option maxHeartbeats 2000000 in
theorem redoFull_any (f : Nat → Addr) (w : World) (base : Nat) (n : Int) (v : Value) (l : List (Int × Int)) (lsn : Int) (r : RecD) (hS : Sents w f) (hown : Own enc2 2 56 base w v l) (hr : Rising l) (hlen : l.length ≤ 1000000) (hk : r.kind = 2 ∨ r.kind = 3) (hn : n < lsn) (hh : r.has = true) (hfull : ¬ (has l r.key = true ∨ l.length < 20)) :
    Calls Tryd.prog 18 #[aggP n v, .int .i64 lsn, aggR r] w (RedoErr f w) := by
  obtain ⟨A, k, c, rfl⟩ := hown.slice3
  have HL := Sc.mk hlen
  have HR := Sc.mk hr
  have HF := Sc.mk hfull
  have H3 := Sc.mk (heap3 w (.cells #[.int .i64 n, .slice A k c] 29) (.cells (cellsR r) 32) (.cells #[.int .i64 0, .slice none 0 0] 29))
  have HOA : Sc (Own enc2 2 56 base (((w.alloc (.cells #[.int .i64 n, .slice A k c] 29)).alloc (.cells (cellsR r) 32)).alloc (.cells #[.int .i64 0, .slice none 0 0] 29)) (.slice A k c) l) := ⟨((hown.alloc _).alloc _).alloc _⟩
  have HBW : Sc (Below w.heap.size w (((w.alloc (.cells #[.int .i64 n, .slice A k c] 29)).alloc (.cells (cellsR r) 32)).alloc (.cells #[.int .i64 0, .slice none 0 0] 29))) := ⟨(((Below.refl _ _).alloc (Nat.le_refl _) _).alloc (by simp) _).alloc (by simp; omega) _⟩
  have hn2 : ¬ lsn ≤ n := by omega
  have HKK := Sc.mk hk
  have HS := Sc.mk hS
  have hg0 : (0 : Nat) < w.heap.size := World.block_lt_of_cell? _ _ (show w.cell? ⟨0, 0, none⟩ = some (errV (f 6)) from hS.cell 6 (by omega))
  clear hown hr hlen hk hn hfull hS
  go_enter Tryd.func18, Tryd.ntmps18
  rcases HKK.out with hk | hk
  all_goals
    go_wp2_with fail
    refine (pageRemove_any _ base n _ l r.key HOA.out HR.out HL.out).mono ?_
    rintro e w1 ⟨A1, k1, c1, rfl, ho, hb⟩
    have hz := (hb.block _ (heap_lt H3.out.2.2)).trans H3.out.2.2
    have hrc := (hb.block _ (heap_lt H3.out.2.1)).trans H3.out.2.1
    have hpg := (hb.block _ (heap_lt H3.out.1)).trans H3.out.1
    obtain ⟨r0, r5, r7, r9⟩ := cells_rec hrc
    obtain ⟨p0, p1⟩ := cells_page hpg
    have HB := Sc.mk hb
    have HZ := Sc.mk hz
    have HRC := Sc.mk hrc
    have HO2 : Sc (Own enc2 2 56 base (w1.alloc (.cells #[.int .i64 n, .slice A1 k1 c1] 29)) (.slice A k c) l) := ⟨(HOA.out.below hb).alloc _⟩
    have l1 := heap_lt hrc
    have l2 := heap_lt hz
    have l3 : w.heap.size < w1.heap.size := by omega
    clear ho hb hz hrc hpg
    go_wp2_with fail
    refine (pagePut_any _ base n _ l r.key r.new HO2.out HR.out HL.out).mono ?_
    rintro e w2 hp
    obtain ⟨A2, k2, c2, rfl, ho, hb⟩ := PutLeft.full HF.out hp
    have hz := (hb.block _ (by have := heap_lt HZ.out; simp; omega)).trans ((heap_alloc_old w1 (.cells #[.int .i64 n, .slice A1 k1 c1] 29) (heap_lt HZ.out)).trans HZ.out)
    have hq := (hb.block _ (by simp)).trans (heap_alloc_new w1 (.cells #[.int .i64 n, .slice A1 k1 c1] 29))
    have HB2 := Sc.mk hb
    have HBA : Sc (Below w.heap.size w w2) := ⟨(HBW.out.trans (HB.out.mono HBW.out.size)).alloc (by omega) _ |>.trans (HB2.out.mono (by simp; omega))⟩
    have hE : w2.cell? ⟨0, 0, none⟩ = some (errV (f 6)) := (HS.out.bel HBA.out).cell 6 (by omega)
    obtain ⟨z0, z1⟩ := cells_page hz
    obtain ⟨q0, q1⟩ := cells_page hq
    have y0 := unfrozen_at hz 0
    have y1 := unfrozen_at hz 1
    have x0 := unfrozen_at hq 0
    have x1 := unfrozen_at hq 1
    have hsz := heap_lt hq
    have hne : ¬ w1.heap.size = w.heap.size + 1 + 1 := by omega
    have hne2 : ¬ w.heap.size + 1 + 1 = w1.heap.size := by omega
    have hne3 : ¬ w1.heap.size = 0 := by omega
    have hne4 : ¬ 0 = w1.heap.size := by omega
    clear ho hb hz hq r0 r5 r7 r9 p0 p1 hp
    go_wp2_with fail
    go_region
    all_goals
      go_wp2
      refine bodyPost_ret (v := .tuple #[aggP 0 (.slice none 0 0), .bool false, errV (f 6)]) (by simp [results, Tryd.results18, go_sem, z0, z1]) rfl ⟨rfl, ?_⟩
      have ha : w.heap.size ≤ w1.heap.size := by omega
      have hb : w.heap.size ≤ w.heap.size + 1 + 1 := by omega
      exact ((((HBA.out.setCell ha _).setCell ha _).setCell hb _).setCell hb _).drew
end Go.Proofs.YtmafogagkjafbaaDoor
