/- Records as values; whether one may be; what the analysis of a log comes to: plain, no program. -/
import Derived.Test.YtoapihepdallbaaDoorBase
import Derived.Test.YtoapihepdallbaaDoorPlainT
import Derived.Test.YtoapihepdallbaaDoorPlainD
import Derived.Deep.RegionHeld3
import Derived.Deep.CutRange
import Derived.Deep.CutBlock
import Derived.Deep.RegionWith
namespace Go.Proofs.YtoapihepdallbaaDoor
open Go.RowKit

/-- A record. -/
structure RecD where
  kind : Int
  txn : Int
  page : Int
  prev : Int
  next : Int
  key : Int
  had : Bool
  has : Bool
  old : Int
  new : Int
abbrev encR (r : RecD) : List Value := [.int .i64 r.kind, .int .i64 r.txn, .int .i64 r.page, .int .i64 r.prev, .int .i64 r.next, .int .i64 r.key, .bool r.had, .bool r.has, .int .i64 r.old, .int .i64 r.new]
theorem kindR : Kind encR 10 := ⟨fun _ => rfl, fun x u hu => by simp [encR] at hu; rcases hu with rfl | rfl | rfl | rfl | rfl | rfl | rfl | rfl | rfl | rfl <;> rfl, by omega⟩
abbrev cellsR (r : RecD) : Array Value := #[.int .i64 r.kind, .int .i64 r.txn, .int .i64 r.page, .int .i64 r.prev, .int .i64 r.next, .int .i64 r.key, .bool r.had, .bool r.has, .int .i64 r.old, .int .i64 r.new]
abbrev aggR (r : RecD) : Value := .agg (cellsR r)
abbrev zeroR : RecD := ⟨0, 0, 0, 0, 0, 0, false, false, 0, 0⟩
theorem cells_recs {w : World} {b : Nat} {r : RecD} {t : TypeId} (h : w.heap[b]? = some (.cells (cellsR r) t (0, 0))) :
    w.cell? ⟨b, 0, none⟩ = some (.int .i64 r.kind) ∧ w.cell? ⟨b, 1, none⟩ = some (.int .i64 r.txn) ∧ w.cell? ⟨b, 2, none⟩ = some (.int .i64 r.page) ∧ w.cell? ⟨b, 3, none⟩ = some (.int .i64 r.prev) ∧ w.cell? ⟨b, 4, none⟩ = some (.int .i64 r.next) ∧
    w.cell? ⟨b, 5, none⟩ = some (.int .i64 r.key) ∧ w.cell? ⟨b, 6, none⟩ = some (.bool r.had) ∧ w.cell? ⟨b, 7, none⟩ = some (.bool r.has) ∧ w.cell? ⟨b, 8, none⟩ = some (.int .i64 r.old) ∧ w.cell? ⟨b, 9, none⟩ = some (.int .i64 r.new) := by simp [World.cell?, h]
theorem Own.cellsR {w : World} {e : TypeId} {base g n cap : Nat} {l : List RecD} (h : Own encR 10 e base w (.slice (some ⟨g, 0, none⟩) n cap) l) {k : Nat} {r : RecD} (hx : l[k]? = some r) :
    w.cell? ⟨g, k * 10, none⟩ = some (.int .i64 r.kind) ∧ w.cell? ⟨g, k * 10 + 1, none⟩ = some (.int .i64 r.txn) ∧ w.cell? ⟨g, k * 10 + 2, none⟩ = some (.int .i64 r.page) ∧ w.cell? ⟨g, k * 10 + 3, none⟩ = some (.int .i64 r.prev) ∧ w.cell? ⟨g, k * 10 + 4, none⟩ = some (.int .i64 r.next) ∧
    w.cell? ⟨g, k * 10 + 5, none⟩ = some (.int .i64 r.key) ∧ w.cell? ⟨g, k * 10 + 6, none⟩ = some (.bool r.had) ∧ w.cell? ⟨g, k * 10 + 7, none⟩ = some (.bool r.has) ∧ w.cell? ⟨g, k * 10 + 8, none⟩ = some (.int .i64 r.old) ∧ w.cell? ⟨g, k * 10 + 9, none⟩ = some (.int .i64 r.new) :=
  ⟨h.cell kindR hx 0 _ rfl, h.cell kindR hx 1 _ rfl, h.cell kindR hx 2 _ rfl, h.cell kindR hx 3 _ rfl, h.cell kindR hx 4 _ rfl, h.cell kindR hx 5 _ rfl, h.cell kindR hx 6 _ rfl, h.cell kindR hx 7 _ rfl, h.cell kindR hx 8 _ rfl, h.cell kindR hx 9 _ rfl⟩

def inR (n lo hi : Int) : Bool := decide (lo ≤ n) && decide (n ≤ hi)
def prevR (r : RecD) : Bool := if r.kind = 1 ∨ r.kind = 7 ∨ r.kind = 10 then decide (r.prev = 0) else if r.kind = 9 then inR r.prev 1 1073741824 else inR r.prev 0 1073741824
def nextR (r : RecD) : Bool := if r.kind = 3 ∨ r.kind = 8 then inR r.next 0 1073741824 else if r.kind = 10 then inR r.next 0 60000 else decide (r.next = 0)
def keyR (r : RecD) : Bool := if r.kind = 2 ∨ r.kind = 3 then inR r.key 0 1048575 else if r.kind = 8 then inR r.key 0 2 else decide (r.key = 0)
def valuesR (r : RecD) : Bool :=
  if (r.has = false ∧ r.new ≠ 0) ∨ (r.had = false ∧ r.old ≠ 0) then false else if r.kind = 2 then r.had || r.has else if r.kind = 3 then r.had && (decide (1 ≤ r.old) && decide (r.old ≤ 1073741824)) else !r.had && !r.has
def txnR (r : RecD) : Int := if (1 ≤ r.kind ∧ r.kind ≤ 6) ∨ r.kind = 8 then 60000 else 0
def pageR (r : RecD) : Int := if r.kind = 2 ∨ r.kind = 3 ∨ r.kind = 9 then 32 else 0
/-- May it be? -/
def goodR (r : RecD) : Bool := inR r.kind 1 10 && inR r.txn (min (txnR r) 1) (txnR r) && inR r.page (min (pageR r) 1) (pageR r) && prevR r && nextR r && keyR r && valuesR r
end Go.Proofs.YtoapihepdallbaaDoor
