/- AnalyseErrors: the literal rows in memory. -/
import Derived.Test.YtoapihepdallbaaDoorPlainErr
import Derived.Test.YtoapihepdallbaaDoorSeeAt
namespace Go.Proofs.YtoapihepdallbaaDoor
open Go.RowKit

def tabE (b : Nat) : Array Value := #[.slice (some ⟨b + 5, 0, none⟩) 2 2, .slice (some ⟨b + 6, 0, none⟩) 1 1, .slice (some ⟨b + 7, 0, none⟩) 2 2, .slice (some ⟨b + 8, 0, none⟩) 2 2, .slice (some ⟨b + 9, 0, none⟩) 3 3, .slice (some ⟨b + 10, 0, none⟩) 3 3, .slice (some ⟨b + 11, 0, none⟩) 3 3, .slice (some ⟨b + 12, 0, none⟩) 2 2, .slice (some ⟨b + 13, 0, none⟩) 1 1, .slice (some ⟨b + 14, 0, none⟩) 4 4]
def plE : Array Value := #[.int .i64 2, .int .i64 1, .int .i64 2, .int .i64 2, .int .i64 3, .int .i64 3, .int .i64 3, .int .i64 2, .int .i64 1, .int .i64 4]
def objsE (b : Nat) : List Obj := [.cells (cellsR eB) 51, .cells (cellsR eS) 51, .cells (cellsR eC) 51, .cells (cellsR eK) 51, .cells (cellsR eE) 51, .cells (flat encR [eB, eB]).toArray 51, .cells (flat encR [eS]).toArray 51, .cells (flat encR [eB, ⟨2, 1, 5, 1, 0, 0, false, true, 0, 0⟩]).toArray 51, .cells (flat encR [eB, ⟨2, 1, 1, 2, 0, 0, false, true, 0, 0⟩]).toArray 51, .cells (flat encR [eB, eC, ⟨2, 1, 1, 2, 0, 0, false, true, 0, 0⟩]).toArray 51, .cells (flat encR [eB, eC, ⟨5, 1, 0, 2, 0, 0, false, false, 0, 0⟩]).toArray 51, .cells (flat encR [eB, eC, ⟨6, 1, 0, 1, 0, 0, false, false, 0, 0⟩]).toArray 51, .cells (flat encR [eB, ⟨3, 1, 1, 1, 2, 0, true, false, 1, 0⟩]).toArray 51, .cells (flat encR [⟨6, 2, 0, 0, 0, 0, false, false, 0, 0⟩]).toArray 51, .cells (flat encR [eB, eS, ⟨6, 1, 0, 2, 0, 0, false, false, 0, 0⟩, eS]).toArray 51, .cells (tabE b) 25, .cells plE 3]
def litE (w : World) : World := (objsE w.heap.size).foldl World.alloc w
theorem rowE (w : World) (j : Nat) (l : List RecD) (h : (objsE w.heap.size)[j]? = some (.cells (flat encR l).toArray 51)) (hl : l.length ≤ 4) : Own encR 10 51 0 (litE w) (.slice (some ⟨w.heap.size + j, 0, none⟩) l.length l.length) l :=
  Own.of_block (allocs_at _ w j _ h) (Nat.zero_le _) kindR rfl (Nat.le_refl _) (by unfold maxLen; omega) (by simp [kindR.flat_length]) (by simp [List.take_of_length_le, kindR.flat_length])
theorem thereE (w : World) (k : Nat) (hk : k < 10) : ∃ g l p m, allE[k]? = some l ∧ placesE[k]? = some p ∧ l.length = m ∧ (litE w).cell? ⟨w.heap.size + 15, k, none⟩ = some (.slice (some ⟨g, 0, none⟩) m m) ∧ Own encR 10 51 0 (litE w) (.slice (some ⟨g, 0, none⟩) m m) l ∧ (litE w).cell? ⟨w.heap.size + 16, k, none⟩ = some (.int .i64 p) := by
  have h1 : (litE w).heap[w.heap.size + 15]? = some (.cells (tabE w.heap.size) 25 (0, 0)) := allocs_at _ w 15 _ rfl
  have h2 : (litE w).heap[w.heap.size + 16]? = some (.cells plE 3 (0, 0)) := allocs_at _ w 16 _ rfl
  rcases (by omega : k = 0 ∨ k = 1 ∨ k = 2 ∨ k = 3 ∨ k = 4 ∨ k = 5 ∨ k = 6 ∨ k = 7 ∨ k = 8 ∨ k = 9) with rfl | rfl | rfl | rfl | rfl | rfl | rfl | rfl | rfl | rfl
  · exact ⟨w.heap.size + 5, [eB, eB], 2, 2, rfl, rfl, rfl, by simp [World.cell?, h1, tabE], rowE w 5 [eB, eB] rfl (by simp), by simp [World.cell?, h2, plE]⟩
  · exact ⟨w.heap.size + 6, [eS], 1, 1, rfl, rfl, rfl, by simp [World.cell?, h1, tabE], rowE w 6 [eS] rfl (by simp), by simp [World.cell?, h2, plE]⟩
  · exact ⟨w.heap.size + 7, [eB, ⟨2, 1, 5, 1, 0, 0, false, true, 0, 0⟩], 2, 2, rfl, rfl, rfl, by simp [World.cell?, h1, tabE], rowE w 7 [eB, ⟨2, 1, 5, 1, 0, 0, false, true, 0, 0⟩] rfl (by simp), by simp [World.cell?, h2, plE]⟩
  · exact ⟨w.heap.size + 8, [eB, ⟨2, 1, 1, 2, 0, 0, false, true, 0, 0⟩], 2, 2, rfl, rfl, rfl, by simp [World.cell?, h1, tabE], rowE w 8 [eB, ⟨2, 1, 1, 2, 0, 0, false, true, 0, 0⟩] rfl (by simp), by simp [World.cell?, h2, plE]⟩
  · exact ⟨w.heap.size + 9, [eB, eC, ⟨2, 1, 1, 2, 0, 0, false, true, 0, 0⟩], 3, 3, rfl, rfl, rfl, by simp [World.cell?, h1, tabE], rowE w 9 [eB, eC, ⟨2, 1, 1, 2, 0, 0, false, true, 0, 0⟩] rfl (by simp), by simp [World.cell?, h2, plE]⟩
  · exact ⟨w.heap.size + 10, [eB, eC, ⟨5, 1, 0, 2, 0, 0, false, false, 0, 0⟩], 3, 3, rfl, rfl, rfl, by simp [World.cell?, h1, tabE], rowE w 10 [eB, eC, ⟨5, 1, 0, 2, 0, 0, false, false, 0, 0⟩] rfl (by simp), by simp [World.cell?, h2, plE]⟩
  · exact ⟨w.heap.size + 11, [eB, eC, ⟨6, 1, 0, 1, 0, 0, false, false, 0, 0⟩], 3, 3, rfl, rfl, rfl, by simp [World.cell?, h1, tabE], rowE w 11 [eB, eC, ⟨6, 1, 0, 1, 0, 0, false, false, 0, 0⟩] rfl (by simp), by simp [World.cell?, h2, plE]⟩
  · exact ⟨w.heap.size + 12, [eB, ⟨3, 1, 1, 1, 2, 0, true, false, 1, 0⟩], 2, 2, rfl, rfl, rfl, by simp [World.cell?, h1, tabE], rowE w 12 [eB, ⟨3, 1, 1, 1, 2, 0, true, false, 1, 0⟩] rfl (by simp), by simp [World.cell?, h2, plE]⟩
  · exact ⟨w.heap.size + 13, [⟨6, 2, 0, 0, 0, 0, false, false, 0, 0⟩], 1, 1, rfl, rfl, rfl, by simp [World.cell?, h1, tabE], rowE w 13 [⟨6, 2, 0, 0, 0, 0, false, false, 0, 0⟩] rfl (by simp), by simp [World.cell?, h2, plE]⟩
  · exact ⟨w.heap.size + 14, [eB, eS, ⟨6, 1, 0, 2, 0, 0, false, false, 0, 0⟩, eS], 4, 4, rfl, rfl, rfl, by simp [World.cell?, h1, tabE], rowE w 14 [eB, eS, ⟨6, 1, 0, 2, 0, 0, false, false, 0, 0⟩, eS] rfl (by simp), by simp [World.cell?, h2, plE]⟩
def tabR (b : Nat) : Array Value := #[.slice (some ⟨b + 0, 0, none⟩) 1 1, .slice (some ⟨b + 1, 0, none⟩) 1 1, .slice (some ⟨b + 2, 0, none⟩) 3 3, .slice (some ⟨b + 3, 0, none⟩) 3 3, .slice (some ⟨b + 4, 0, none⟩) 3 3, .slice (some ⟨b + 5, 0, none⟩) 3 3]
def plR : Array Value := #[.int .i64 1, .int .i64 2, .int .i64 2, .int .i64 2, .int .i64 2, .int .i64 2]
def objsR (b : Nat) : List Obj := [.cells (flat encR [eE]).toArray 51, .cells (flat encR [eK]).toArray 51, .cells (flat encR [eK, eB, eE]).toArray 51, .cells (flat encR [eK, ⟨8, 1, 0, 2, 0, 0, false, false, 0, 0⟩, eE]).toArray 51, .cells (flat encR [eK, ⟨9, 0, 1, 9, 0, 0, false, false, 0, 0⟩, eE]).toArray 51, .cells (flat encR [eK, ⟨9, 0, 5, 1, 0, 0, false, false, 0, 0⟩, eE]).toArray 51, .cells (tabR b) 25, .cells plR 3]
def litR (w : World) : World := (objsR w.heap.size).foldl World.alloc w
theorem rowR (w : World) (j : Nat) (l : List RecD) (h : (objsR w.heap.size)[j]? = some (.cells (flat encR l).toArray 51)) (hl : l.length ≤ 4) : Own encR 10 51 0 (litR w) (.slice (some ⟨w.heap.size + j, 0, none⟩) l.length l.length) l :=
  Own.of_block (allocs_at _ w j _ h) (Nat.zero_le _) kindR rfl (Nat.le_refl _) (by unfold maxLen; omega) (by simp [kindR.flat_length]) (by simp [List.take_of_length_le, kindR.flat_length])
theorem thereR (w : World) (k : Nat) (hk : k < 6) : ∃ g l p m, rowsE[k]? = some l ∧ atE[k]? = some p ∧ l.length = m ∧ (litR w).cell? ⟨w.heap.size + 6, k, none⟩ = some (.slice (some ⟨g, 0, none⟩) m m) ∧ Own encR 10 51 0 (litR w) (.slice (some ⟨g, 0, none⟩) m m) l ∧ (litR w).cell? ⟨w.heap.size + 7, k, none⟩ = some (.int .i64 p) := by
  have h1 : (litR w).heap[w.heap.size + 6]? = some (.cells (tabR w.heap.size) 25 (0, 0)) := allocs_at _ w 6 _ rfl
  have h2 : (litR w).heap[w.heap.size + 7]? = some (.cells plR 3 (0, 0)) := allocs_at _ w 7 _ rfl
  rcases (by omega : k = 0 ∨ k = 1 ∨ k = 2 ∨ k = 3 ∨ k = 4 ∨ k = 5) with rfl | rfl | rfl | rfl | rfl | rfl
  · exact ⟨w.heap.size + 0, [eE], 1, 1, rfl, rfl, rfl, by simp [World.cell?, h1, tabR], rowR w 0 [eE] rfl (by simp), by simp [World.cell?, h2, plR]⟩
  · exact ⟨w.heap.size + 1, [eK], 2, 1, rfl, rfl, rfl, by simp [World.cell?, h1, tabR], rowR w 1 [eK] rfl (by simp), by simp [World.cell?, h2, plR]⟩
  · exact ⟨w.heap.size + 2, [eK, eB, eE], 2, 3, rfl, rfl, rfl, by simp [World.cell?, h1, tabR], rowR w 2 [eK, eB, eE] rfl (by simp), by simp [World.cell?, h2, plR]⟩
  · exact ⟨w.heap.size + 3, [eK, ⟨8, 1, 0, 2, 0, 0, false, false, 0, 0⟩, eE], 2, 3, rfl, rfl, rfl, by simp [World.cell?, h1, tabR], rowR w 3 [eK, ⟨8, 1, 0, 2, 0, 0, false, false, 0, 0⟩, eE] rfl (by simp), by simp [World.cell?, h2, plR]⟩
  · exact ⟨w.heap.size + 4, [eK, ⟨9, 0, 1, 9, 0, 0, false, false, 0, 0⟩, eE], 2, 3, rfl, rfl, rfl, by simp [World.cell?, h1, tabR], rowR w 4 [eK, ⟨9, 0, 1, 9, 0, 0, false, false, 0, 0⟩, eE] rfl (by simp), by simp [World.cell?, h2, plR]⟩
  · exact ⟨w.heap.size + 5, [eK, ⟨9, 0, 5, 1, 0, 0, false, false, 0, 0⟩, eE], 2, 3, rfl, rfl, rfl, by simp [World.cell?, h1, tabR], rowR w 5 [eK, ⟨9, 0, 5, 1, 0, 0, false, false, 0, 0⟩, eE] rfl (by simp), by simp [World.cell?, h2, plR]⟩
end Go.Proofs.YtoapihepdallbaaDoor
