/- What any record does to any page, what undoes it: the program's and the document's. -/
import Derived.Test.YtmafogagkjafbaaDoorSee
import Derived.Test.YtmafogagkjafbaaDoorLawChangeBack
namespace Go.Proofs.YtmafogagkjafbaaDoor
open Go.RowKit

/-- What a record does: the number, the keys, whether it did, the error's number. -/
def redoS (n : Int) (l : List (Int × Int)) (lsn : Int) (r : RecD) : Int × List (Int × Int) × Bool × Int :=
  if (r.kind = 2 ∨ r.kind = 3) ∧ n < lsn then
    (if r.has = true then (if has l r.key = true ∨ l.length < 20 then (lsn, setIn l (r.key, r.new), true, 0) else (0, [], false, 107)) else (lsn, drop' l r.key, true, 0))
  else (n, l, false, 0)
def undoS (r : RecD) (lsn last next : Int) : RecD × Bool := if r.kind = 2 then (undoR r lsn last next, true) else (zeroR, false)
def RedoAll (f : Nat → Addr) (q : Int × List (Int × Int) × Bool × Int) (w : World) (e : Ending) (w' : World) : Prop :=
  ∃ A k c ev, e = .returned (.tuple #[aggP q.1 (.slice A k c), .bool q.2.2.1, ev]) ∧ Own enc2 2 56 w.heap.size w' (.slice A k c) q.2.1 ∧ Below w.heap.size w w' ∧ ErrIs w' f ev q.2.2.2
theorem RedoLeft.all {f : Nat → Addr} {n : Int} {l : List (Int × Int)} {b : Bool} {w w' : World} {e : Ending} (h : RedoLeft n l b w e w') : RedoAll f (n, l, b, 0) w e w' := by
  obtain ⟨A, k, c, he, ho, hb⟩ := h
  exact ⟨A, k, c, _, he, ho, hb, .ok⟩
theorem redo_all (f : Nat → Addr) (w : World) (base : Nat) (n : Int) (v : Value) (l : List (Int × Int)) (lsn : Int) (r : RecD) (hS : Sents w f) (hown : Own enc2 2 56 base w v l) (hr : Rising l) (hlen : l.length ≤ 1000000) :
    Calls Tryd.prog 18 #[aggP n v, .int .i64 lsn, aggR r] w (RedoAll f (redoS n l lsn r) w) := by
  unfold redoS
  by_cases h : (r.kind = 2 ∨ r.kind = 3) ∧ n < lsn
  · rw [if_pos h]
    cases hh : r.has with
    | false =>
      rw [if_neg (by simp)]
      exact (redoDrop_any w base n v l lsn r hown hr hlen h.1 h.2 hh).mono fun e w' hx => RedoLeft.all hx
    | true =>
      rw [if_pos rfl]
      by_cases hf : has l r.key = true ∨ l.length < 20
      · rw [if_pos hf]
        exact (redoPut_any w base n v l lsn r hown hr hlen h.1 h.2 hh hf).mono fun e w' hx => RedoLeft.all hx
      · rw [if_neg hf]
        exact (redoFull_any f w base n v l lsn r hS hown hr hlen h.1 h.2 hh hf).mono fun e w' ⟨he, hb⟩ => ⟨none, 0, 0, _, he, Own.nil, hb, .bad 6 (by omega) (hS.bel hb)⟩
  · rw [if_neg h]
    exact (redoSkip_any w base n v l lsn r hown hlen (by omega)).mono fun e w' hx => RedoLeft.all hx
theorem undo_all (w : World) (r : RecD) (lsn last next : Int) :
    Calls Tryd.prog 20 #[aggR r, .int .i64 lsn, .int .i64 last, .int .i64 next] w fun e w' => e = .returned (.tuple #[aggR (undoS r lsn last next).1, .bool (undoS r lsn last next).2]) ∧ Below w.heap.size w w' := by
  unfold undoS
  by_cases h : r.kind = 2
  · rw [if_pos h]; exact undoYes_any w r lsn last next h
  · rw [if_neg h]; exact undoNo_any w r lsn last next h

set_option maxRecDepth 4000 in
set_option maxHeartbeats 1000000 in
theorem refUndo_all (w : World) (r : RecD) (lsn last next : Int) :
    Calls Tryd.prog 21 #[aggR r, .int .i64 lsn, .int .i64 last, .int .i64 next] w fun e w' => e = .returned (.tuple #[aggR (undoS r lsn last next).1, .bool (undoS r lsn last next).2]) ∧ Below w.heap.size w w' := by
  unfold undoS
  by_cases hk : r.kind = 2
  · rw [if_pos hk]
    obtain ⟨kind, txn, page, prev, nx, key, had, has, old, new⟩ := r
    subst hk
    go_enter Tryd.func21, Tryd.ntmps21
    go_wp2
    refine bodyPost_ret (v := .tuple #[aggR (undoR ⟨2, txn, page, prev, nx, key, had, has, old, new⟩ lsn last next), .bool true]) (by simp [results, Tryd.results21, go_sem]) rfl ⟨rfl, ?_⟩
    exact ((Below.refl _ _).alloc (Nat.le_refl _) _).alloc (by simp) _
  · rw [if_neg hk]
    go_enter Tryd.func21, Tryd.ntmps21
    go_wp2
    refine bodyPost_ret (v := .tuple #[aggR zeroR, .bool false]) (by simp [results, Tryd.results21, go_sem]) rfl ⟨rfl, ?_⟩
    exact ((Below.refl _ _).alloc (Nat.le_refl _) _).alloc (by simp) _

/-- What the document's Redo leaves. -/
def RefRedo (base : Nat) (q : Int × List (Int × Int) × Bool × Int) (w : World) (e : Ending) (w' : World) : Prop :=
  ∃ A k c, e = .returned (.tuple #[aggP q.1 (.slice A k c), .bool q.2.2.1, .int .i64 q.2.2.2]) ∧ Own enc2 2 56 base w' (.slice A k c) q.2.1 ∧ Below w.heap.size w w'
set_option maxRecDepth 4000 in
set_option maxHeartbeats 4000000 in
theorem refRedoDrop_any (w : World) (base : Nat) (n : Int) (v : Value) (l : List (Int × Int)) (lsn : Int) (r : RecD) (hown : Own enc2 2 56 base w v l) (hb0 : base ≤ w.heap.size) (hr : Rising l) (hlen : l.length ≤ 100000) (hk : r.kind = 2 ∨ r.kind = 3) (hn : n < lsn) (hh : r.has = false) :
    Calls Tryd.prog 19 #[aggP n v, .int .i64 lsn, aggR r] w (RefRedo base (lsn, drop' l r.key, true, 0) w) := by
  obtain ⟨A, k, c, rfl⟩ := hown.slice3
  have HL := Sc.mk hlen
  have HR := Sc.mk hr
  have HB0 := Sc.mk hb0
  have H3 := Sc.mk (heap3 w (.cells #[.int .i64 n, .slice A k c] 29) (.cells (cellsR r) 32) (.cells #[.int .i64 0, .slice none 0 0] 29))
  have HOA : Sc (Own enc2 2 56 base (((w.alloc (.cells #[.int .i64 n, .slice A k c] 29)).alloc (.cells (cellsR r) 32)).alloc (.cells #[.int .i64 0, .slice none 0 0] 29)) (.slice A k c) l) := ⟨((hown.alloc _).alloc _).alloc _⟩
  have HBW : Sc (Below w.heap.size w (((w.alloc (.cells #[.int .i64 n, .slice A k c] 29)).alloc (.cells (cellsR r) 32)).alloc (.cells #[.int .i64 0, .slice none 0 0] 29))) := ⟨dn_alloc (dn_alloc (dn_alloc (Below.refl _ _) _) _) _⟩
  have hn2 : ¬ lsn ≤ n := by omega
  have HKK := Sc.mk hk
  clear hown hr hlen hb0 hk hn
  go_enter Tryd.func19, Tryd.ntmps19
  rcases HKK.out with hk | hk
  all_goals
    go_wp2_with fail
    refine (refRemove_any _ base n _ l r.key HOA.out HR.out (by have := HL.out; omega)).mono ?_
    rintro e w1 ⟨A1, k1, c1, rfl, ho, hb⟩
    have hz := (hb.block _ (heap_lt H3.out.2.2)).trans H3.out.2.2
    have hrc := (hb.block _ (heap_lt H3.out.2.1)).trans H3.out.2.1
    have hpg := (hb.block _ (heap_lt H3.out.1)).trans H3.out.1
    obtain ⟨r0, r5, r7, r9⟩ := cells_rec hrc
    obtain ⟨p0, p1⟩ := cells_page hpg
    have HB := Sc.mk hb
    have HZ := Sc.mk hz
    have HO := Sc.mk ho
    have HRC := Sc.mk hrc
    have HO2 : Sc (Own enc2 2 56 base (w1.alloc (.cells #[.int .i64 n, .slice A1 k1 c1] 29)) (.slice A k c) l) := ⟨(HOA.out.below hb).alloc _⟩
    have l1 := heap_lt hrc
    have l2 := heap_lt hz
    have l3 : w.heap.size < w1.heap.size := by omega
    clear ho hb hz hrc hpg
    obtain ⟨z0, z1⟩ := cells_page HZ.out
    have y0 := unfrozen_at HZ.out 0
    have y1 := unfrozen_at HZ.out 1
    go_wp2
    refine bodyPost_ret (v := .tuple #[aggP lsn (.slice A1 k1 c1), .bool true, .int .i64 0]) (by simp [results, Tryd.results19, go_sem, z0, z1, l2]) rfl ⟨A1, k1, c1, rfl, ?_⟩
    have hx := page_end (HBW.out.trans (HB.out.mono HBW.out.size)) HO.out (u0 := .int .i64 lsn) (u1 := .slice A1 k1 c1) (z := w.heap.size + 1 + 1) (by omega) (heap_lt H3.out.2.2)
    exact ⟨(hx.1.alloc _).mono HB0.out, hx.2.alloc hx.2.size _⟩
set_option maxRecDepth 4000 in
set_option maxHeartbeats 4000000 in
theorem refRedoPut_any (w : World) (base : Nat) (n : Int) (v : Value) (l : List (Int × Int)) (lsn : Int) (r : RecD) (hown : Own enc2 2 56 base w v l) (hb0 : base ≤ w.heap.size) (hr : Rising l) (hlen : l.length ≤ 100000) (hk : r.kind = 2 ∨ r.kind = 3) (hn : n < lsn) (hh : r.has = true) (hfit : has l r.key = true ∨ l.length < 20) :
    Calls Tryd.prog 19 #[aggP n v, .int .i64 lsn, aggR r] w (RefRedo base (lsn, setIn l (r.key, r.new), true, 0) w) := by
  obtain ⟨A, k, c, rfl⟩ := hown.slice3
  have HL := Sc.mk hlen
  have HR := Sc.mk hr
  have HB0 := Sc.mk hb0
  have H3 := Sc.mk (heap3 w (.cells #[.int .i64 n, .slice A k c] 29) (.cells (cellsR r) 32) (.cells #[.int .i64 0, .slice none 0 0] 29))
  have HOA : Sc (Own enc2 2 56 base (((w.alloc (.cells #[.int .i64 n, .slice A k c] 29)).alloc (.cells (cellsR r) 32)).alloc (.cells #[.int .i64 0, .slice none 0 0] 29)) (.slice A k c) l) := ⟨((hown.alloc _).alloc _).alloc _⟩
  have HBW : Sc (Below w.heap.size w (((w.alloc (.cells #[.int .i64 n, .slice A k c] 29)).alloc (.cells (cellsR r) 32)).alloc (.cells #[.int .i64 0, .slice none 0 0] 29))) := ⟨dn_alloc (dn_alloc (dn_alloc (Below.refl _ _) _) _) _⟩
  have HF := Sc.mk hfit
  clear hfit
  have hn2 : ¬ lsn ≤ n := by omega
  have HKK := Sc.mk hk
  clear hown hr hlen hb0 hk hn
  go_enter Tryd.func19, Tryd.ntmps19
  rcases HKK.out with hk | hk
  all_goals
    go_wp2_with fail
    refine (refRemove_any _ base n _ l r.key HOA.out HR.out (by have := HL.out; omega)).mono ?_
    rintro e w1 ⟨A1, k1, c1, rfl, ho, hb⟩
    have hz := (hb.block _ (heap_lt H3.out.2.2)).trans H3.out.2.2
    have hrc := (hb.block _ (heap_lt H3.out.2.1)).trans H3.out.2.1
    have hpg := (hb.block _ (heap_lt H3.out.1)).trans H3.out.1
    obtain ⟨r0, r5, r7, r9⟩ := cells_rec hrc
    obtain ⟨p0, p1⟩ := cells_page hpg
    have HB := Sc.mk hb
    have HZ := Sc.mk hz
    have HO := Sc.mk ho
    have HRC := Sc.mk hrc
    have HO2 : Sc (Own enc2 2 56 base (w1.alloc (.cells #[.int .i64 n, .slice A1 k1 c1] 29)) (.slice A k c) l) := ⟨(HOA.out.below hb).alloc _⟩
    have l1 := heap_lt hrc
    have l2 := heap_lt hz
    have l3 : w.heap.size < w1.heap.size := by omega
    clear ho hb hz hrc hpg
    go_wp2_with fail
    refine (refPut_any _ base n _ l r.key r.new HO2.out HR.out HL.out).mono ?_
    rintro e w2 hp
    obtain ⟨A2, k2, c2, rfl, ho, hb⟩ := PutLeft.fits HF.out hp
    have hz := (hb.block _ (by have := heap_lt HZ.out; simp; omega)).trans ((heap_alloc_old w1 (.cells #[.int .i64 n, .slice A1 k1 c1] 29) (heap_lt HZ.out)).trans HZ.out)
    have hq := (hb.block _ (by simp)).trans (heap_alloc_new w1 (.cells #[.int .i64 n, .slice A1 k1 c1] 29))
    obtain ⟨z0, z1⟩ := cells_page hz
    obtain ⟨q0, q1⟩ := cells_page hq
    have y0 := unfrozen_at hz 0
    have y1 := unfrozen_at hz 1
    have x0 := unfrozen_at hq 0
    have x1 := unfrozen_at hq 1
    have HO4 := Sc.mk ho
    have HB2 := Sc.mk hb
    have hsz := heap_lt hq
    have hsz2 := heap_lt hz
    have hne : ¬ w1.heap.size = w.heap.size + 1 + 1 := by omega
    have hne2 : ¬ w.heap.size + 1 + 1 = w1.heap.size := by omega
    have HBA : Sc (Below w.heap.size w w2) := ⟨(HBW.out.trans (HB.out.mono HBW.out.size)).alloc (by omega) _ |>.trans (HB2.out.mono (by simp; omega))⟩
    clear ho hb hz hq r0 r5 r7 r9 p0 p1 hp
    go_wp2
    refine bodyPost_ret (v := .tuple #[aggP lsn (.slice A2 k2 c2), .bool true, .int .i64 0]) (by simp [results, Tryd.results19, go_sem, z0, z1, hsz2]) rfl ⟨A2, k2, c2, rfl, ?_⟩
    have e1 : w1.heap.size + 1 = (w1.alloc (.cells #[.int .i64 n, .slice A1 k1 c1] 29)).heap.size := by simp
    have ha : w.heap.size ≤ w1.heap.size := by omega
    have hb : w.heap.size ≤ w.heap.size + 1 + 1 := by omega
    have hB := HB0.out
    refine ⟨((((((HO4.out.low ?_ _).low ?_ _).low ?_ _).low ?_ _).low ?_ _).mono ?_).alloc _, dn_alloc (((((HBA.out.setCell ha _).setCell ha _).setCell ha _).setCell hb _).setCell hb _) _⟩
    all_goals (rw [← e1]; show _ ≤ _; (try simp only []); omega)

set_option maxRecDepth 4000 in
set_option maxHeartbeats 4000000 in
theorem refRedoFull_any (w : World) (base : Nat) (n : Int) (v : Value) (l : List (Int × Int)) (lsn : Int) (r : RecD) (hown : Own enc2 2 56 base w v l) (hb0 : base ≤ w.heap.size) (hr : Rising l) (hlen : l.length ≤ 100000) (hk : r.kind = 2 ∨ r.kind = 3) (hn : n < lsn) (hh : r.has = true) (hfit : ¬ (has l r.key = true ∨ l.length < 20)) :
    Calls Tryd.prog 19 #[aggP n v, .int .i64 lsn, aggR r] w (RefRedo base (0, [], false, 107) w) := by
  obtain ⟨A, k, c, rfl⟩ := hown.slice3
  have HL := Sc.mk hlen
  have HR := Sc.mk hr
  have HB0 := Sc.mk hb0
  have H3 := Sc.mk (heap3 w (.cells #[.int .i64 n, .slice A k c] 29) (.cells (cellsR r) 32) (.cells #[.int .i64 0, .slice none 0 0] 29))
  have HOA : Sc (Own enc2 2 56 base (((w.alloc (.cells #[.int .i64 n, .slice A k c] 29)).alloc (.cells (cellsR r) 32)).alloc (.cells #[.int .i64 0, .slice none 0 0] 29)) (.slice A k c) l) := ⟨((hown.alloc _).alloc _).alloc _⟩
  have HBW : Sc (Below w.heap.size w (((w.alloc (.cells #[.int .i64 n, .slice A k c] 29)).alloc (.cells (cellsR r) 32)).alloc (.cells #[.int .i64 0, .slice none 0 0] 29))) := ⟨dn_alloc (dn_alloc (dn_alloc (Below.refl _ _) _) _) _⟩
  have HF := Sc.mk hfit
  clear hfit
  have hn2 : ¬ lsn ≤ n := by omega
  have HKK := Sc.mk hk
  clear hown hr hlen hb0 hk hn
  go_enter Tryd.func19, Tryd.ntmps19
  rcases HKK.out with hk | hk
  all_goals
    go_wp2_with fail
    refine (refRemove_any _ base n _ l r.key HOA.out HR.out (by have := HL.out; omega)).mono ?_
    rintro e w1 ⟨A1, k1, c1, rfl, ho, hb⟩
    have hz := (hb.block _ (heap_lt H3.out.2.2)).trans H3.out.2.2
    have hrc := (hb.block _ (heap_lt H3.out.2.1)).trans H3.out.2.1
    have hpg := (hb.block _ (heap_lt H3.out.1)).trans H3.out.1
    obtain ⟨r0, r5, r7, r9⟩ := cells_rec hrc
    obtain ⟨p0, p1⟩ := cells_page hpg
    have HB := Sc.mk hb
    have HZ := Sc.mk hz
    have HO := Sc.mk ho
    have HRC := Sc.mk hrc
    have HO2 : Sc (Own enc2 2 56 base (w1.alloc (.cells #[.int .i64 n, .slice A1 k1 c1] 29)) (.slice A k c) l) := ⟨(HOA.out.below hb).alloc _⟩
    have l1 := heap_lt hrc
    have l2 := heap_lt hz
    have l3 : w.heap.size < w1.heap.size := by omega
    clear ho hb hz hrc hpg
    go_wp2_with fail
    refine (refPut_any _ base n _ l r.key r.new HO2.out HR.out HL.out).mono ?_
    rintro e w2 hp
    obtain ⟨A2, k2, c2, rfl, ho, hb⟩ := PutLeft.full HF.out hp
    have hz := (hb.block _ (by have := heap_lt HZ.out; simp; omega)).trans ((heap_alloc_old w1 (.cells #[.int .i64 n, .slice A1 k1 c1] 29) (heap_lt HZ.out)).trans HZ.out)
    have hq := (hb.block _ (by simp)).trans (heap_alloc_new w1 (.cells #[.int .i64 n, .slice A1 k1 c1] 29))
    obtain ⟨z0, z1⟩ := cells_page hz
    obtain ⟨q0, q1⟩ := cells_page hq
    have y0 := unfrozen_at hz 0
    have y1 := unfrozen_at hz 1
    have x0 := unfrozen_at hq 0
    have x1 := unfrozen_at hq 1
    have HO4 := Sc.mk ho
    have HB2 := Sc.mk hb
    have hsz := heap_lt hq
    have hsz2 := heap_lt hz
    have hne : ¬ w1.heap.size = w.heap.size + 1 + 1 := by omega
    have hne2 : ¬ w.heap.size + 1 + 1 = w1.heap.size := by omega
    have HBA : Sc (Below w.heap.size w w2) := ⟨(HBW.out.trans (HB.out.mono HBW.out.size)).alloc (by omega) _ |>.trans (HB2.out.mono (by simp; omega))⟩
    clear ho hb hz hq r0 r5 r7 r9 p0 p1 hp
    go_wp2
    refine bodyPost_ret (v := .tuple #[aggP 0 (.slice none 0 0), .bool false, .int .i64 107]) (by simp [results, Tryd.results19, go_sem, z0, z1, hsz2]) rfl ⟨none, 0, 0, rfl, Own.nil, ?_⟩
    have hb : w.heap.size ≤ w.heap.size + 1 + 1 := by omega
    exact dn_alloc ((HBA.out.setCell hb _).setCell hb _) _

set_option maxRecDepth 4000 in
set_option maxHeartbeats 4000000 in
theorem refRedoSkip_any (w : World) (base : Nat) (n : Int) (v : Value) (l : List (Int × Int)) (lsn : Int) (r : RecD) (hown : Own enc2 2 56 base w v l) (hk : ¬ (r.kind = 2 ∨ r.kind = 3) ∨ lsn ≤ n) :
    Calls Tryd.prog 19 #[aggP n v, .int .i64 lsn, aggR r] w (RefRedo base (n, l, false, 0) w) := by
  obtain ⟨A, k, c, rfl⟩ := hown.slice3
  have HO := Sc.mk hown
  have HK : Sc (¬ r.kind = 2 ∧ ¬ r.kind = 3 ∨ (r.kind = 2 ∨ r.kind = 3) ∧ lsn ≤ n) := ⟨by omega⟩
  clear hown hk
  go_enter Tryd.func19, Tryd.ntmps19
  rcases HK.out with ⟨hk2, hk3⟩ | ⟨hk | hk, hle⟩
  all_goals
    go_wp2
    refine bodyPost_ret (v := .tuple #[aggP n (.slice A k c), .bool false, .int .i64 0]) (by simp [results, Tryd.results19, go_sem]) rfl ⟨A, k, c, rfl, ((HO.out.alloc _).alloc _).alloc _, dn_alloc (dn_alloc (dn_alloc (Below.refl _ _) _) _) _⟩

theorem refRedo_all (w : World) (base : Nat) (n : Int) (v : Value) (l : List (Int × Int)) (lsn : Int) (r : RecD) (hown : Own enc2 2 56 base w v l) (hb0 : base ≤ w.heap.size) (hr : Rising l) (hlen : l.length ≤ 100000) :
    Calls Tryd.prog 19 #[aggP n v, .int .i64 lsn, aggR r] w (RefRedo base (redoS n l lsn r) w) := by
  unfold redoS
  by_cases h : (r.kind = 2 ∨ r.kind = 3) ∧ n < lsn
  · rw [if_pos h]
    cases hh : r.has with
    | false => rw [if_neg (by simp)]; exact refRedoDrop_any w base n v l lsn r hown hb0 hr hlen h.1 h.2 hh
    | true =>
      rw [if_pos rfl]
      by_cases hf : has l r.key = true ∨ l.length < 20
      · rw [if_pos hf]; exact refRedoPut_any w base n v l lsn r hown hb0 hr hlen h.1 h.2 hh hf
      · rw [if_neg hf]; exact refRedoFull_any w base n v l lsn r hown hb0 hr hlen h.1 h.2 hh hf
  · rw [if_neg h]
    exact refRedoSkip_any w base n v l lsn r hown (by omega)
end Go.Proofs.YtmafogagkjafbaaDoor
