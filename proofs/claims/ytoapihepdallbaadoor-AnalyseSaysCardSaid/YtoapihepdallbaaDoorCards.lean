/-
  DERIVED. GIVEN WITH THE SEED: THE CARDS: each row of YtoapihepdallbaaDoorRows.lean that lists a variable, with what it lists TIED to the program's text (the seventh form; the later family's looks); each row that meets fmt, with fmt's text TOLD by the authors' own Lean function (tested against real Go, not proved from fmt's source: count such statements apart). THE CARD IS WHAT COUNTS. Prove the row's statement (the work); the ties are given (YtoapihepdallbaaDoorTie.lean); close each card by the builder's one call (the guide's Derived/Test/ToyasCard.lean, 'card_holds'). Laid BY PROGRAM, IN A SANDBOX (cutbox-door.mjs). By AI agents, Wed Nov 11 2026. No macro, syntax, notation, axiom, sorry.
-/
import Derived.Test.YtoapihepdallbaaDoorRows
import GoSem.ClaimSeven
namespace Go.Proofs.YtoapihepdallbaaDoor
namespace Rows

/-- THE TIED CARD OF 'phoenixlaw20.AnalyseSays'. -/
def analyseSaysCard : Claim7 := { stood := { row := analyseSaysRow, standIns := [], harness := (true, "fc56afbf99e7503af8f580f4045436d3eadfe464a8c5e2d755a902adb249ec89"), looks := true }, kinds := [], alts := [], laidByText := true, laidKinds := [.sentinel, .sentinel, .sentinel, .sentinel, .sentinel, .sentinel, .sentinel, .sentinel, .sentinel, .sentinel, .sentinel, .sentinel, .sentinel, .sentinel, .sentinel, .sentinel, .sentinel, .sentinel], laidTests := true, laidLooks := .later }
def AnalyseSaysCardSaid : Prop := Claim7.holds Tryd.pinned (.plain (OpenSpec.ofChange analyseSaysSpec)) analyseSaysCard

/-- THE TIED CARD OF 'phoenixlaw20.AnalyseErrors'. -/
def analyseErrorsCard : Claim7 := { stood := { row := analyseErrorsRow, standIns := [], harness := (true, "fc56afbf99e7503af8f580f4045436d3eadfe464a8c5e2d755a902adb249ec89"), looks := true }, kinds := [], alts := [], laidByText := true, laidKinds := [.sentinel, .sentinel, .sentinel, .sentinel, .sentinel, .sentinel, .sentinel, .sentinel, .sentinel, .sentinel, .sentinel, .sentinel, .sentinel, .sentinel, .sentinel, .sentinel, .sentinel, .sentinel], laidTests := true, laidLooks := .later }
def AnalyseErrorsCardSaid : Prop := Claim7.holds Tryd.pinned (.plain (OpenSpec.ofChange analyseErrorsSpec)) analyseErrorsCard

/-- THE TIED CARD OF 'phoenixlaw20.AnalyseStates'. -/
def analyseStatesCard : Claim7 := { stood := { row := analyseStatesRow, standIns := [], harness := (true, "fc56afbf99e7503af8f580f4045436d3eadfe464a8c5e2d755a902adb249ec89"), looks := true }, kinds := [], alts := [], laidByText := true, laidKinds := [.sentinel, .sentinel, .sentinel, .sentinel, .sentinel, .sentinel, .sentinel, .sentinel, .sentinel, .sentinel, .sentinel, .sentinel, .sentinel, .sentinel, .sentinel, .sentinel, .sentinel, .sentinel], laidTests := true, laidLooks := .later }
def AnalyseStatesCardSaid : Prop := Claim7.holds Tryd.pinned (.plain (OpenSpec.ofChange analyseStatesSpec)) analyseStatesCard

/-- THE SECOND FORM's CARD OF 'phoenixlaw20.AnalyseSays'. -/
def analyseSaysUptoCard : Claim7 := { stood := { row := analyseSaysUptoRow, standIns := [], harness := (true, "fc56afbf99e7503af8f580f4045436d3eadfe464a8c5e2d755a902adb249ec89"), looks := true }, kinds := [], alts := [], laidByText := true, laidKinds := [.sentinel, .sentinel, .sentinel, .sentinel, .sentinel, .sentinel, .sentinel, .sentinel, .sentinel, .sentinel, .sentinel, .sentinel, .sentinel, .sentinel, .sentinel, .sentinel, .sentinel, .sentinel], laidTests := true, laidLooks := .later }
def AnalyseSaysUptoCardSaid : Prop := Claim7.holds Tryd.pinned (.plain (OpenSpec.upto analyseSaysSpec)) analyseSaysUptoCard

/-- THE SECOND FORM's CARD OF 'phoenixlaw20.AnalyseErrors'. -/
def analyseErrorsUptoCard : Claim7 := { stood := { row := analyseErrorsUptoRow, standIns := [], harness := (true, "fc56afbf99e7503af8f580f4045436d3eadfe464a8c5e2d755a902adb249ec89"), looks := true }, kinds := [], alts := [], laidByText := true, laidKinds := [.sentinel, .sentinel, .sentinel, .sentinel, .sentinel, .sentinel, .sentinel, .sentinel, .sentinel, .sentinel, .sentinel, .sentinel, .sentinel, .sentinel, .sentinel, .sentinel, .sentinel, .sentinel], laidTests := true, laidLooks := .later }
def AnalyseErrorsUptoCardSaid : Prop := Claim7.holds Tryd.pinned (.plain (OpenSpec.upto analyseErrorsSpec)) analyseErrorsUptoCard

/-- THE SECOND FORM's CARD OF 'phoenixlaw20.AnalyseStates'. -/
def analyseStatesUptoCard : Claim7 := { stood := { row := analyseStatesUptoRow, standIns := [], harness := (true, "fc56afbf99e7503af8f580f4045436d3eadfe464a8c5e2d755a902adb249ec89"), looks := true }, kinds := [], alts := [], laidByText := true, laidKinds := [.sentinel, .sentinel, .sentinel, .sentinel, .sentinel, .sentinel, .sentinel, .sentinel, .sentinel, .sentinel, .sentinel, .sentinel, .sentinel, .sentinel, .sentinel, .sentinel, .sentinel, .sentinel], laidTests := true, laidLooks := .later }
def AnalyseStatesUptoCardSaid : Prop := Claim7.holds Tryd.pinned (.plain (OpenSpec.upto analyseStatesSpec)) analyseStatesUptoCard
end Rows
end Go.Proofs.YtoapihepdallbaaDoor
