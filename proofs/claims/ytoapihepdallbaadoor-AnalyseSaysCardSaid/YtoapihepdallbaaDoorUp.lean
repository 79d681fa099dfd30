/- Blocks behind a call. -/
import Derived.Test.YtoapihepdallbaaDoorBase
namespace Go.Proofs.YtoapihepdallbaaDoor
open Go.RowKit

theorem up {w w' : World} {b : Nat} {o : Obj} (hb : Below w.heap.size w w') (h : w.heap[b]? = some o) : w'.heap[b]? = some o := (hb.block _ (heap_lt h)).trans h
theorem upa {w : World} {b : Nat} {o : Obj} (h : w.heap[b]? = some o) (o' : Obj) : (w.alloc o').heap[b]? = some o := (heap_alloc_old w o' (heap_lt h)).trans h
theorem dn_alloc {w w1 : World} (h : Below w.heap.size w w1) (o : Obj) : Below w.heap.size w (w1.alloc o) := h.alloc h.size o
end Go.Proofs.YtoapihepdallbaaDoor
