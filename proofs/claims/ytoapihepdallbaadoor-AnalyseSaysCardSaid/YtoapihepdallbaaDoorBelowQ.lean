/- A region that draws its order, whose operations only read and whose callees leave all that was there: one walk serves every order. -/
import Derived.Test.YtoapihepdallbaaDoorLib
import Derived.Deep.QuietTactic
import Derived.BigQuiet
namespace Go.Proofs.YtoapihepdallbaaDoor
open Go.RowKit

/-- A world that has all that w had. -/
structure From (w : World) where
  world : World
  below : Below w.heap.size w world
namespace From
variable {w : World}
instance : Nonempty (From w) := ⟨⟨w, Below.refl _ _⟩⟩
theorem cell (x : From w) {a : Addr} {v : Value} (h : w.cell? a = some v) : x.world.cell? a = some v := by
  have hb := x.below.block a.block (World.block_lt_of_cell? w _ h)
  unfold World.cell? at h ⊢
  rw [hb]
  exact h
theorem call (x : From w) {P : Program} {f : FuncId} {args : Array Value} {v : Value}
    (h : Calls P f args x.world fun e w' => e = .returned v ∧ Below x.world.heap.size x.world w') : Calls P f args x.world fun e w' => e = .returned v ∧ ∃ y : From w, w' = y.world :=
  h.mono fun _ w' ⟨he, hb⟩ => ⟨he, ⟨w', x.below.trans (hb.mono x.below.size)⟩, rfl⟩
theorem call_same (x : From w) {P : Program} {f : FuncId} {args : Array Value} {v : Value}
    (h : Calls P f args x.world fun e w' => e = .returned v ∧ w' = x.world) : Calls P f args x.world fun e w' => e = .returned v ∧ ∃ y : From w, w' = y.world :=
  h.mono fun _ _ ⟨he, hb⟩ => ⟨he, x, hb⟩
theorem of_class {w' : World} (h : ∃ x : From w, w' = x.world) : Below w.heap.size w w' := by
  obtain ⟨x, rfl⟩ := h
  exact x.below
end From
theorem wp_region_below {P : Program} {id : Nat} {Q : Exit → Act → World → Prop} {a : Act} {w : World} {l : List Oper} (hm : P.follows .mixedOrders = true) (hB : Region.lexB .any l.toArray = true)
    (h : wpQuiet P l.toArray (fun w' => ∃ x : From w, w' = x.world) (fun a' => ∀ w', (∃ x : From w, w' = x.world) → Q .normal a' w') l a) : (Code.region id l.toArray true).wp P Q a w :=
  wp_region_quiet (C := fun w' => ∃ x : From w, w' = x.world) hm hB ⟨⟨{ w with drawn := w.drawn + 1 }, ⟨rfl, rfl, rfl, Nat.le_refl _, fun _ _ => rfl⟩⟩, rfl⟩ (by simpa using h)

end Go.Proofs.YtoapihepdallbaaDoor
