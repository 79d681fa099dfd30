/- What a record does to a page: change.Redo where no error is met; change.Undo. -/
import Derived.Test.YtmafogagkjafbaaDoorPagePut
namespace Go.Proofs.YtmafogagkjafbaaDoor
open Go.RowKit

/-- A record. -/
structure RecD where
  kind : Int
  txn : Int
  page : Int
  prev : Int
  next : Int
  key : Int
  had : Bool
  has : Bool
  old : Int
  new : Int
abbrev cellsR (r : RecD) : Array Value := #[.int .i64 r.kind, .int .i64 r.txn, .int .i64 r.page, .int .i64 r.prev, .int .i64 r.next, .int .i64 r.key, .bool r.had, .bool r.has, .int .i64 r.old, .int .i64 r.new]
abbrev aggR (r : RecD) : Value := .agg (cellsR r)
abbrev zeroR : RecD := ⟨0, 0, 0, 0, 0, 0, false, false, 0, 0⟩
/-- What undoes a Set. -/
abbrev undoR (r : RecD) (lsn last next : Int) : RecD := ⟨3, r.txn, r.page, last, next, r.key, true, r.had, lsn, r.old⟩
/-- Redo's end without an error. -/
def RedoLeft (n : Int) (l : List (Int × Int)) (b : Bool) (w : World) (e : Ending) (w' : World) : Prop :=
  ∃ A k c, e = .returned (.tuple #[aggP n (.slice A k c), .bool b, .nilIface]) ∧ Own enc2 2 56 w.heap.size w' (.slice A k c) l ∧ Below w.heap.size w w'
theorem heap2 (w : World) (o1 o2 : Obj) : ((w.alloc o1).alloc o2).heap[w.heap.size]? = some o1 ∧ ((w.alloc o1).alloc o2).heap[w.heap.size + 1]? = some o2 := by
  have s1 : (w.alloc o1).heap.size = w.heap.size + 1 := by simp
  exact ⟨by rw [heap_alloc_old _ _ (by omega), heap_alloc_new], by rw [← s1, heap_alloc_new]⟩
theorem heap3 (w : World) (o1 o2 o3 : Obj) : (((w.alloc o1).alloc o2).alloc o3).heap[w.heap.size]? = some o1 ∧ (((w.alloc o1).alloc o2).alloc o3).heap[w.heap.size + 1]? = some o2 ∧ (((w.alloc o1).alloc o2).alloc o3).heap[w.heap.size + 1 + 1]? = some o3 := by
  have s1 : (w.alloc o1).heap.size = w.heap.size + 1 := by simp
  have s2 : ((w.alloc o1).alloc o2).heap.size = w.heap.size + 1 + 1 := by simp
  refine ⟨?_, ?_, ?_⟩
  · rw [heap_alloc_old _ _ (by omega), heap_alloc_old _ _ (by omega), heap_alloc_new]
  · rw [heap_alloc_old _ _ (by omega), ← s1, heap_alloc_new]
  · rw [← s2, heap_alloc_new]
theorem cells_rec {w : World} {b : Nat} {r : RecD} {t : TypeId} (h : w.heap[b]? = some (.cells (cellsR r) t (0, 0))) :
    w.cell? ⟨b, 0, none⟩ = some (.int .i64 r.kind) ∧ w.cell? ⟨b, 5, none⟩ = some (.int .i64 r.key) ∧ w.cell? ⟨b, 7, none⟩ = some (.bool r.has) ∧ w.cell? ⟨b, 9, none⟩ = some (.int .i64 r.new) := by simp [World.cell?, h]

set_option maxRecDepth 4000 in
set_option maxHeartbeats 2000000 in
theorem redoDrop_any (w : World) (base : Nat) (n : Int) (v : Value) (l : List (Int × Int)) (lsn : Int) (r : RecD) (hown : Own enc2 2 56 base w v l) (hr : Rising l) (hlen : l.length ≤ 1000000) (hk : r.kind = 2 ∨ r.kind = 3) (hn : n < lsn) (hh : r.has = false) :
    Calls Tryd.prog 18 #[aggP n v, .int .i64 lsn, aggR r] w (RedoLeft lsn (drop' l r.key) true w) := by
  obtain ⟨A, k, c, rfl⟩ := hown.slice3
  have HL := Sc.mk hlen
  have HR := Sc.mk hr
  have H3 := Sc.mk (heap3 w (.cells #[.int .i64 n, .slice A k c] 29) (.cells (cellsR r) 32) (.cells #[.int .i64 0, .slice none 0 0] 29))
  have HOA : Sc (Own enc2 2 56 base (((w.alloc (.cells #[.int .i64 n, .slice A k c] 29)).alloc (.cells (cellsR r) 32)).alloc (.cells #[.int .i64 0, .slice none 0 0] 29)) (.slice A k c) l) := ⟨((hown.alloc _).alloc _).alloc _⟩
  have HBW : Sc (Below w.heap.size w (((w.alloc (.cells #[.int .i64 n, .slice A k c] 29)).alloc (.cells (cellsR r) 32)).alloc (.cells #[.int .i64 0, .slice none 0 0] 29))) := ⟨(((Below.refl _ _).alloc (Nat.le_refl _) _).alloc (by simp) _).alloc (by simp; omega) _⟩
  have hn2 : ¬ lsn ≤ n := by omega
  have HKK := Sc.mk hk
  clear hown hr hlen hk hn
  go_enter Tryd.func18, Tryd.ntmps18
  rcases HKK.out with hk | hk
  all_goals
    go_wp2_with fail
    refine (pageRemove_any _ base n _ l r.key HOA.out HR.out HL.out).mono ?_
    rintro e w1 ⟨A1, k1, c1, rfl, ho, hb⟩
    have hz := (hb.block _ (heap_lt H3.out.2.2)).trans H3.out.2.2
    have hrc := (hb.block _ (heap_lt H3.out.2.1)).trans H3.out.2.1
    obtain ⟨r0, r5, r7, r9⟩ := cells_rec hrc
    obtain ⟨z0, z1⟩ := cells_page hz
    have y0 := unfrozen_at hz 0
    have y1 := unfrozen_at hz 1
    have HO := Sc.mk ho
    have HB := Sc.mk hb
    have HZ := Sc.mk hz
    have l1 := heap_lt hrc
    have l2 := heap_lt hz
    have l3 : w.heap.size < w1.heap.size := by omega
    clear ho hb hz hrc
    go_wp2
    refine bodyPost_ret (v := .tuple #[aggP lsn (.slice A1 k1 c1), .bool true, .nilIface]) (by simp [results, Tryd.results18, go_sem, z0, z1, l2]) rfl ⟨A1, k1, c1, rfl, ?_⟩
    have hx := page_end (HBW.out.trans (HB.out.mono HBW.out.size)) HO.out (u0 := .int .i64 lsn) (u1 := .slice A1 k1 c1) (z := w.heap.size + 1 + 1) (by omega) (heap_lt H3.out.2.2)
    exact ⟨hx.1.alloc _, hx.2.alloc hx.2.size _⟩

set_option maxRecDepth 4000 in
set_option maxHeartbeats 2000000 in
theorem redoPut_any (w : World) (base : Nat) (n : Int) (v : Value) (l : List (Int × Int)) (lsn : Int) (r : RecD) (hown : Own enc2 2 56 base w v l) (hr : Rising l) (hlen : l.length ≤ 1000000) (hk : r.kind = 2 ∨ r.kind = 3) (hn : n < lsn) (hh : r.has = true) (hfit : has l r.key = true ∨ l.length < 20) :
    Calls Tryd.prog 18 #[aggP n v, .int .i64 lsn, aggR r] w (RedoLeft lsn (setIn l (r.key, r.new)) true w) := by
  obtain ⟨A, k, c, rfl⟩ := hown.slice3
  have HL := Sc.mk hlen
  have HR := Sc.mk hr
  have HF := Sc.mk hfit
  have H3 := Sc.mk (heap3 w (.cells #[.int .i64 n, .slice A k c] 29) (.cells (cellsR r) 32) (.cells #[.int .i64 0, .slice none 0 0] 29))
  have HOA : Sc (Own enc2 2 56 base (((w.alloc (.cells #[.int .i64 n, .slice A k c] 29)).alloc (.cells (cellsR r) 32)).alloc (.cells #[.int .i64 0, .slice none 0 0] 29)) (.slice A k c) l) := ⟨((hown.alloc _).alloc _).alloc _⟩
  have HBW : Sc (Below w.heap.size w (((w.alloc (.cells #[.int .i64 n, .slice A k c] 29)).alloc (.cells (cellsR r) 32)).alloc (.cells #[.int .i64 0, .slice none 0 0] 29))) := ⟨(((Below.refl _ _).alloc (Nat.le_refl _) _).alloc (by simp) _).alloc (by simp; omega) _⟩
  have hn2 : ¬ lsn ≤ n := by omega
  have HKK := Sc.mk hk
  clear hown hr hlen hk hn hfit
  go_enter Tryd.func18, Tryd.ntmps18
  rcases HKK.out with hk | hk
  all_goals
    go_wp2_with fail
    refine (pageRemove_any _ base n _ l r.key HOA.out HR.out HL.out).mono ?_
    rintro e w1 ⟨A1, k1, c1, rfl, ho, hb⟩
    have hz := (hb.block _ (heap_lt H3.out.2.2)).trans H3.out.2.2
    have hrc := (hb.block _ (heap_lt H3.out.2.1)).trans H3.out.2.1
    have hpg := (hb.block _ (heap_lt H3.out.1)).trans H3.out.1
    obtain ⟨r0, r5, r7, r9⟩ := cells_rec hrc
    obtain ⟨p0, p1⟩ := cells_page hpg
    have HB := Sc.mk hb
    have HZ := Sc.mk hz
    have HRC := Sc.mk hrc
    have HO2 : Sc (Own enc2 2 56 base (w1.alloc (.cells #[.int .i64 n, .slice A1 k1 c1] 29)) (.slice A k c) l) := ⟨(HOA.out.below hb).alloc _⟩
    have l1 := heap_lt hrc
    have l2 := heap_lt hz
    have l3 : w.heap.size < w1.heap.size := by omega
    clear ho hb hz hrc hpg
    go_wp2_with fail
    refine (pagePut_any _ base n _ l r.key r.new HO2.out HR.out HL.out).mono ?_
    rintro e w2 hp
    obtain ⟨A2, k2, c2, rfl, ho, hb⟩ := PutLeft.fits HF.out hp
    have hz := (hb.block _ (by have := heap_lt HZ.out; simp; omega)).trans ((heap_alloc_old w1 (.cells #[.int .i64 n, .slice A1 k1 c1] 29) (heap_lt HZ.out)).trans HZ.out)
    have hq := (hb.block _ (by simp)).trans (heap_alloc_new w1 (.cells #[.int .i64 n, .slice A1 k1 c1] 29))
    obtain ⟨z0, z1⟩ := cells_page hz
    obtain ⟨q0, q1⟩ := cells_page hq
    have y0 := unfrozen_at hz 0
    have y1 := unfrozen_at hz 1
    have x0 := unfrozen_at hq 0
    have x1 := unfrozen_at hq 1
    have HO := Sc.mk ho
    have HB2 := Sc.mk hb
    have hsz := heap_lt hq
    have hne : ¬ w1.heap.size = w.heap.size + 1 + 1 := by omega
    have hne2 : ¬ w.heap.size + 1 + 1 = w1.heap.size := by omega
    clear ho hb hz hq r0 r5 r7 r9 p0 p1 hp
    go_wp2
    refine bodyPost_ret (v := .tuple #[aggP lsn (.slice A2 k2 c2), .bool true, .nilIface]) (by simp [results, Tryd.results18, go_sem, z0, z1]) rfl ⟨A2, k2, c2, rfl, ?_⟩
    have e1 : w1.heap.size + 1 = (w1.alloc (.cells #[.int .i64 n, .slice A1 k1 c1] 29)).heap.size := by simp
    have hb0 : Below w.heap.size w w2 := (HBW.out.trans (HB.out.mono HBW.out.size)).alloc (by omega) _ |>.trans (HB2.out.mono (by simp; omega))
    have ha : w.heap.size ≤ w1.heap.size := by omega
    have hb : w.heap.size ≤ w.heap.size + 1 + 1 := by omega
    refine ⟨(((((HO.out.low ?_ _).low ?_ _).low ?_ _).low ?_ _).low ?_ _).mono ?_, ((((hb0.setCell ha _).setCell ha _).setCell ha _).setCell hb _).setCell hb _⟩
    all_goals (rw [← e1]; show _ ≤ _; (try simp only []); omega)

set_option maxRecDepth 4000 in
set_option maxHeartbeats 2000000 in
theorem redoSkip_any (w : World) (base : Nat) (n : Int) (v : Value) (l : List (Int × Int)) (lsn : Int) (r : RecD) (hown : Own enc2 2 56 base w v l) (hlen : l.length ≤ 1000000) (hk : ¬ (r.kind = 2 ∨ r.kind = 3) ∨ lsn ≤ n) :
    Calls Tryd.prog 18 #[aggP n v, .int .i64 lsn, aggR r] w (RedoLeft n l false w) := by
  obtain ⟨A, k, c, rfl⟩ := hown.slice3
  have HL := Sc.mk hlen
  have H3 := Sc.mk (heap3 w (.cells #[.int .i64 n, .slice A k c] 29) (.cells (cellsR r) 32) (.cells #[.int .i64 0, .slice none 0 0] 29))
  have HOA : Sc (Own enc2 2 56 base (((w.alloc (.cells #[.int .i64 n, .slice A k c] 29)).alloc (.cells (cellsR r) 32)).alloc (.cells #[.int .i64 0, .slice none 0 0] 29)) (.slice A k c) l) := ⟨((hown.alloc _).alloc _).alloc _⟩
  have HBW : Sc (Below w.heap.size w (((w.alloc (.cells #[.int .i64 n, .slice A k c] 29)).alloc (.cells (cellsR r) 32)).alloc (.cells #[.int .i64 0, .slice none 0 0] 29))) := ⟨(((Below.refl _ _).alloc (Nat.le_refl _) _).alloc (by simp) _).alloc (by simp; omega) _⟩
  have HK : Sc (¬ r.kind = 2 ∧ ¬ r.kind = 3 ∨ (r.kind = 2 ∨ r.kind = 3) ∧ lsn ≤ n) := ⟨by omega⟩
  clear hown hlen hk
  go_enter Tryd.func18, Tryd.ntmps18
  rcases HK.out with ⟨hk2, hk3⟩ | ⟨hk | hk, hle⟩
  all_goals
    go_wp2_with fail
    have SK : Sc (∀ W, Below (w.heap.size + 1) (((w.alloc (.cells #[.int .i64 n, .slice A k c] 29)).alloc (.cells (cellsR r) 32)).alloc (.cells #[.int .i64 0, .slice none 0 0] 29)) W → W.cell? ⟨w.heap.size, 0, none⟩ = some (.int .i64 n) ∧ W.cell? ⟨w.heap.size, 1, none⟩ = some (.slice A k c)) := ⟨fun W hb => cells_page ((hb.block _ (Nat.lt_succ_self _)).trans H3.out.1)⟩
    go_region_held3 (fun W => W.cell? ⟨w.heap.size, 0, none⟩ = some (.int .i64 n) ∧ W.cell? ⟨w.heap.size, 1, none⟩ = some (.slice A k c)) (first | exact SK.out _ (Below.refl _ _).drew | exact SK.out _ HBC.out | exact SK.out _ ((HBC.out.setCell (Nat.le_succ _) _).setCell (Nat.le_succ _) _))
      ((go_at_call 44; go_loud (refine (entryClone_any _ base _ l HOA.out.drew HL.out).mono ?_; rintro e w2 ⟨v2, rfl, ho, hb2⟩; obtain ⟨A2, k2, c2, rfl⟩ := ho.slice3; have HBC := Sc.mk (((Below.refl (((w.alloc (.cells #[.int .i64 n, .slice A k c] 29)).alloc (.cells (cellsR r) 32)).alloc (.cells #[.int .i64 0, .slice none 0 0] 29)).heap.size (((w.alloc (.cells #[.int .i64 n, .slice A k c] 29)).alloc (.cells (cellsR r) 32)).alloc (.cells #[.int .i64 0, .slice none 0 0] 29))).drew.trans hb2).mono (Nat.succ_le_of_lt (heap_lt H3.out.1))); have HOC := Sc.mk ho; have HBD := Sc.mk (HBW.out.trans (((Below.refl (((w.alloc (.cells #[.int .i64 n, .slice A k c] 29)).alloc (.cells (cellsR r) 32)).alloc (.cells #[.int .i64 0, .slice none 0 0] 29)).heap.size (((w.alloc (.cells #[.int .i64 n, .slice A k c] 29)).alloc (.cells (cellsR r) 32)).alloc (.cells #[.int .i64 0, .slice none 0 0] 29))).drew.trans hb2).mono HBW.out.size)); have hz := (hb2.block _ (heap_lt H3.out.2.2)).trans H3.out.2.2; have z0 := (cells_page hz).1; have z1 := (cells_page hz).2; have y0 := unfrozen_at hz 0; have y1 := unfrozen_at hz 1; clear ho hb2 hz)))
    all_goals
      go_wp2
      refine bodyPost_ret (v := .tuple #[aggP n (.slice A2 k2 c2), .bool false, .nilIface]) (by simp [results, Tryd.results18, go_sem, z0, z1]) rfl ⟨A2, k2, c2, rfl, ?_⟩
      exact page_end HBD.out HOC.out (Nat.le_succ_of_le (Nat.le_succ _)) (heap_lt H3.out.2.2)

/-- Redo without an error: its number, its keys, whether it did. -/
def redoes (n lsn : Int) (r : RecD) : Bool := decide ((r.kind = 2 ∨ r.kind = 3) ∧ n < lsn)
def redoN (n lsn : Int) (r : RecD) : Int := if redoes n lsn r = true then lsn else n
def redoL (n : Int) (l : List (Int × Int)) (lsn : Int) (r : RecD) : List (Int × Int) := if redoes n lsn r = true then (if r.has = true then setIn l (r.key, r.new) else drop' l r.key) else l
theorem redo_any (w : World) (base : Nat) (n : Int) (v : Value) (l : List (Int × Int)) (lsn : Int) (r : RecD) (hown : Own enc2 2 56 base w v l) (hr : Rising l) (hlen : l.length ≤ 1000000) (hfit : redoes n lsn r = true → r.has = true → has l r.key = true ∨ l.length < 20) :
    Calls Tryd.prog 18 #[aggP n v, .int .i64 lsn, aggR r] w (RedoLeft (redoN n lsn r) (redoL n l lsn r) (redoes n lsn r) w) := by
  unfold redoN redoL
  cases hd : redoes n lsn r with
  | false =>
    rw [if_neg (by simp), if_neg (by simp)]
    exact redoSkip_any w base n v l lsn r hown hlen (by have h := of_decide_eq_false hd; omega)
  | true =>
    have h := of_decide_eq_true hd
    rw [if_pos rfl, if_pos rfl]
    cases hh : r.has with
    | false => rw [if_neg (by simp)]; exact redoDrop_any w base n v l lsn r hown hr hlen h.1 h.2 hh
    | true => rw [if_pos rfl]; exact redoPut_any w base n v l lsn r hown hr hlen h.1 h.2 hh (hfit hd hh)

set_option maxRecDepth 4000 in
set_option maxHeartbeats 1000000 in
theorem undoNo_any (w : World) (r : RecD) (lsn last next : Int) (hk : ¬ r.kind = 2) :
    Calls Tryd.prog 20 #[aggR r, .int .i64 lsn, .int .i64 last, .int .i64 next] w fun e w' => e = .returned (.tuple #[aggR zeroR, .bool false]) ∧ Below w.heap.size w w' := by
  go_enter Tryd.func20, Tryd.ntmps20
  go_wp2
  refine bodyPost_ret (v := .tuple #[aggR zeroR, .bool false]) (by simp [results, Tryd.results20, go_sem]) rfl ⟨rfl, ?_⟩
  exact ((Below.refl _ _).alloc (Nat.le_refl _) _).alloc (by simp) _

set_option maxRecDepth 4000 in
set_option maxHeartbeats 1000000 in
theorem undoYes_any (w : World) (r : RecD) (lsn last next : Int) (hk : r.kind = 2) :
    Calls Tryd.prog 20 #[aggR r, .int .i64 lsn, .int .i64 last, .int .i64 next] w fun e w' => e = .returned (.tuple #[aggR (undoR r lsn last next), .bool true]) ∧ Below w.heap.size w w' := by
  obtain ⟨kind, txn, page, prev, nx, key, had, has, old, new⟩ := r
  subst hk
  go_enter Tryd.func20, Tryd.ntmps20
  go_wp2
  refine bodyPost_ret (v := .tuple #[aggR (undoR ⟨2, txn, page, prev, nx, key, had, has, old, new⟩ lsn last next), .bool true]) (by simp [results, Tryd.results20, go_sem]) rfl ⟨rfl, ?_⟩
  exact ((Below.refl _ _).alloc (Nat.le_refl _) _).alloc (by simp) _
end Go.Proofs.YtmafogagkjafbaaDoor
