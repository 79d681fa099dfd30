/- AnalyseErrors: its literal rows, and what the analysis comes to on each; plain. -/
import Derived.Test.YtoapihepdallbaaDoorLawAnalyseStates
namespace Go.Proofs.YtoapihepdallbaaDoor
open Go.RowKit

abbrev eB : RecD := ⟨1, 1, 0, 0, 0, 0, false, false, 0, 0⟩
abbrev eS : RecD := ⟨2, 1, 1, 1, 0, 0, false, true, 0, 0⟩
abbrev eC : RecD := ⟨4, 1, 0, 1, 0, 0, false, false, 0, 0⟩
abbrev eK : RecD := ⟨7, 0, 0, 0, 0, 0, false, false, 0, 0⟩
abbrev eE : RecD := ⟨10, 0, 0, 0, 0, 0, false, false, 0, 0⟩
/-- The rows without a checkpoint, and where each can't be. -/
def allE : List (List RecD) := [[eB, eB], [eS], [eB, ⟨2, 1, 5, 1, 0, 0, false, true, 0, 0⟩], [eB, ⟨2, 1, 1, 2, 0, 0, false, true, 0, 0⟩], [eB, eC, ⟨2, 1, 1, 2, 0, 0, false, true, 0, 0⟩], [eB, eC, ⟨5, 1, 0, 2, 0, 0, false, false, 0, 0⟩],
  [eB, eC, ⟨6, 1, 0, 1, 0, 0, false, false, 0, 0⟩], [eB, ⟨3, 1, 1, 1, 2, 0, true, false, 1, 0⟩], [⟨6, 2, 0, 0, 0, 0, false, false, 0, 0⟩], [eB, eS, ⟨6, 1, 0, 2, 0, 0, false, false, 0, 0⟩, eS]]
def placesE : List Int := [2, 1, 2, 2, 3, 3, 3, 2, 1, 4]
/-- The rows with one, and where each can't be. -/
def rowsE : List (List RecD) := [[eE], [eK], [eK, eB, eE], [eK, ⟨8, 1, 0, 2, 0, 0, false, false, 0, 0⟩, eE], [eK, ⟨9, 0, 1, 9, 0, 0, false, false, 0, 0⟩, eE], [eK, ⟨9, 0, 5, 1, 0, 0, false, false, 0, 0⟩, eE]]
def atE : List Int := [1, 2, 2, 2, 2, 2]
theorem ansAll {k : Nat} {l : List RecD} {p : Int} (hl : allE[k]? = some l) (hp : placesE[k]? = some p) : (anaP (good l) 0 4 0).1 = some p ∧ l.length ≤ 4 := by
  have hk : k < 10 := (List.getElem?_eq_some_iff.1 hl).1
  rcases (by omega : k = 0 ∨ k = 1 ∨ k = 2 ∨ k = 3 ∨ k = 4 ∨ k = 5 ∨ k = 6 ∨ k = 7 ∨ k = 8 ∨ k = 9) with rfl | rfl | rfl | rfl | rfl | rfl | rfl | rfl | rfl | rfl <;>
    (injection hl with hl; injection hp with hp; subst hl; subst hp; exact ⟨rfl, by simp⟩)
theorem ansRows {k : Nat} {l : List RecD} {p : Int} (hl : rowsE[k]? = some l) (hp : atE[k]? = some p) : (anaP (good l) 0 4 1).1 = some p ∧ l.length ≤ 4 := by
  have hk : k < 6 := (List.getElem?_eq_some_iff.1 hl).1
  rcases (by omega : k = 0 ∨ k = 1 ∨ k = 2 ∨ k = 3 ∨ k = 4 ∨ k = 5) with rfl | rfl | rfl | rfl | rfl | rfl <;>
    (injection hl with hl; injection hp with hp; subst hl; subst hp; exact ⟨rfl, by simp⟩)
end Go.Proofs.YtoapihepdallbaaDoor
