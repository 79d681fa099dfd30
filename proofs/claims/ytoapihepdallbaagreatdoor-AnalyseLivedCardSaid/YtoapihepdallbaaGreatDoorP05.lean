import Derived.Test.YtoapihepdallbaaGreatDoorP01
namespace Go.Proofs.YtoapihepdallbaaGreatDoor
open Go.RowKit
theorem up{w w':World}{b:Nat}{o:Obj}(hb:Below w.heap.size w w')(h:w.heap[b]? =some o):w'.heap[b]? =some o:=(hb.block _ (Q6 h)).trans h
theorem upa{w:World}{b:Nat}{o:Obj}(h:w.heap[b]? =some o)(o':Obj):(w.alloc o').heap[b]? =some o:=(heap_alloc_old w o' (Q6 h)).trans h
theorem Q3{w w1:World}(h:Below w.heap.size w w1)(o:Obj):Below w.heap.size w (w1.alloc o):=h.alloc h.size o
end Go.Proofs.YtoapihepdallbaaGreatDoor
