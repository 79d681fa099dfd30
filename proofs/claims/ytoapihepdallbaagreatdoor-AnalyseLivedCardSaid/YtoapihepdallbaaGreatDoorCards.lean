/-
  DERIVED. GIVEN WITH THE SEED: THE CARDS: each row of YtoapihepdallbaaGreatDoorRows.lean that lists a variable, with what it lists TIED to the program's text (the seventh form; the later family's looks); each row that meets fmt, with fmt's text TOLD by the authors' own Lean function (tested against real Go, not proved from fmt's source: count such statements apart). THE CARD IS WHAT COUNTS. Prove the row's statement (the work); the ties are given (YtoapihepdallbaaGreatDoorTie.lean); close each card by the builder's one call (the guide's Derived/Test/ToyasCard.lean, 'card_holds'). Laid BY PROGRAM, IN A SANDBOX (cutbox-door.mjs). By AI agents, Wed Nov 11 2026. No macro, syntax, notation, axiom, sorry.
-/
import Derived.Test.YtoapihepdallbaaGreatDoorRows
import GoSem.ClaimSeven
namespace Go.Proofs.YtoapihepdallbaaGreatDoor
namespace Rows

/-- THE TIED CARD OF 'phoenixlaw20.AnalyseLived'. -/
def analyseLivedCard : Claim7 := { stood := { row := analyseLivedRow, standIns := [], harness := (true, "86e77182ce28c8e3b9f0eb4a03e413b5894efcacc4f62547c6886c6212e04a36"), looks := true }, kinds := [], alts := [], laidByText := true, laidKinds := [.sentinel, .sentinel, .sentinel, .sentinel, .sentinel, .sentinel, .sentinel, .sentinel, .sentinel, .sentinel, .sentinel, .sentinel, .sentinel, .sentinel, .sentinel, .sentinel, .sentinel, .sentinel], laidTests := true, laidLooks := .later }
def AnalyseLivedCardSaid : Prop := Claim7.holds Tryz.pinned (.plain (OpenSpec.ofChange analyseLivedSpec)) analyseLivedCard

/-- THE TIED CARD OF 'phoenixlaw20.AnalyseCuts'. -/
def analyseCutsCard : Claim7 := { stood := { row := analyseCutsRow, standIns := [], harness := (true, "86e77182ce28c8e3b9f0eb4a03e413b5894efcacc4f62547c6886c6212e04a36"), looks := true }, kinds := [], alts := [], laidByText := true, laidKinds := [.sentinel, .sentinel, .sentinel, .sentinel, .sentinel, .sentinel, .sentinel, .sentinel, .sentinel, .sentinel, .sentinel, .sentinel, .sentinel, .sentinel, .sentinel, .sentinel, .sentinel, .sentinel], laidTests := true, laidLooks := .later }
def AnalyseCutsCardSaid : Prop := Claim7.holds Tryz.pinned (.plain (OpenSpec.ofChange analyseCutsSpec)) analyseCutsCard

/-- THE SECOND FORM's CARD OF 'phoenixlaw20.AnalyseLived'. -/
def analyseLivedUptoCard : Claim7 := { stood := { row := analyseLivedUptoRow, standIns := [], harness := (true, "86e77182ce28c8e3b9f0eb4a03e413b5894efcacc4f62547c6886c6212e04a36"), looks := true }, kinds := [], alts := [], laidByText := true, laidKinds := [.sentinel, .sentinel, .sentinel, .sentinel, .sentinel, .sentinel, .sentinel, .sentinel, .sentinel, .sentinel, .sentinel, .sentinel, .sentinel, .sentinel, .sentinel, .sentinel, .sentinel, .sentinel], laidTests := true, laidLooks := .later }
def AnalyseLivedUptoCardSaid : Prop := Claim7.holds Tryz.pinned (.plain (OpenSpec.upto analyseLivedSpec)) analyseLivedUptoCard

/-- THE SECOND FORM's CARD OF 'phoenixlaw20.AnalyseCuts'. -/
def analyseCutsUptoCard : Claim7 := { stood := { row := analyseCutsUptoRow, standIns := [], harness := (true, "86e77182ce28c8e3b9f0eb4a03e413b5894efcacc4f62547c6886c6212e04a36"), looks := true }, kinds := [], alts := [], laidByText := true, laidKinds := [.sentinel, .sentinel, .sentinel, .sentinel, .sentinel, .sentinel, .sentinel, .sentinel, .sentinel, .sentinel, .sentinel, .sentinel, .sentinel, .sentinel, .sentinel, .sentinel, .sentinel, .sentinel], laidTests := true, laidLooks := .later }
def AnalyseCutsUptoCardSaid : Prop := Claim7.holds Tryz.pinned (.plain (OpenSpec.upto analyseCutsSpec)) analyseCutsUptoCard
end Rows
end Go.Proofs.YtoapihepdallbaaGreatDoor
