/-
  DERIVED. GIVEN WITH THE SEED: THE CARDS: each row of YtmafogagkjafbaaDoorRows.lean that lists a variable, with what it lists TIED to the program's text (the seventh form; the later family's looks); each row that meets fmt, with fmt's text TOLD by the authors' own Lean function (tested against real Go, not proved from fmt's source: count such statements apart). THE CARD IS WHAT COUNTS. Prove the row's statement (the work); the ties are given (YtmafogagkjafbaaDoorTie.lean); close each card by the builder's one call (the guide's Derived/Test/ToyasCard.lean, 'card_holds'). Laid BY PROGRAM, IN A SANDBOX (cutbox-door.mjs). By AI agents, Wed Nov 11 2026. No macro, syntax, notation, axiom, sorry.
-/
import Derived.Test.YtmafogagkjafbaaDoorRows
import GoSem.ClaimSeven
namespace Go.Proofs.YtmafogagkjafbaaDoor
namespace Rows

/-- THE TIED CARD OF 'phoenixlaw8.ChangeSays'. -/
def changeSaysCard : Claim7 := { stood := { row := changeSaysRow, standIns := [], harness := (true, "59f8cc62d9526b690b310511aa0850ce6cc95e2bdca9b08d305e764147b80e0d"), looks := true }, kinds := [], alts := [], laidByText := true, laidKinds := [.sentinel, .sentinel, .sentinel, .sentinel, .sentinel, .sentinel, .sentinel, .sentinel, .sentinel, .sentinel, .sentinel, .sentinel, .sentinel, .sentinel, .sentinel, .sentinel, .sentinel, .sentinel], laidTests := true, laidLooks := .later }
def ChangeSaysCardSaid : Prop := Claim7.holds Tryd.pinned (.plain (OpenSpec.ofChange changeSaysSpec)) changeSaysCard

/-- THE TIED CARD OF 'phoenixlaw8.ChangeBack'. -/
def changeBackCard : Claim7 := { stood := { row := changeBackRow, standIns := [], harness := (true, "59f8cc62d9526b690b310511aa0850ce6cc95e2bdca9b08d305e764147b80e0d"), looks := true }, kinds := [], alts := [], laidByText := true, laidKinds := [.sentinel], laidTests := true, laidLooks := .later }
def ChangeBackCardSaid : Prop := Claim7.holds Tryd.pinned (.plain (OpenSpec.ofChange changeBackSpec)) changeBackCard

/-- THE TIED CARD OF 'phoenixlaw8.ChangeRows'. -/
def changeRowsCard : Claim7 := { stood := { row := changeRowsRow, standIns := [], harness := (true, "59f8cc62d9526b690b310511aa0850ce6cc95e2bdca9b08d305e764147b80e0d"), looks := true }, kinds := [], alts := [], laidByText := true, laidKinds := [.sentinel], laidTests := true, laidLooks := .later }
def ChangeRowsCardSaid : Prop := Claim7.holds Tryd.pinned (.plain (OpenSpec.ofChange changeRowsSpec)) changeRowsCard

/-- THE TIED CARD OF 'phoenixlaw8.ChangeFull'. -/
def changeFullCard : Claim7 := { stood := { row := changeFullRow, standIns := [], harness := (true, "59f8cc62d9526b690b310511aa0850ce6cc95e2bdca9b08d305e764147b80e0d"), looks := true }, kinds := [], alts := [], laidByText := true, laidKinds := [.sentinel, .sentinel, .sentinel, .sentinel, .sentinel, .sentinel, .sentinel, .sentinel, .sentinel, .sentinel, .sentinel, .sentinel, .sentinel, .sentinel, .sentinel, .sentinel, .sentinel, .sentinel], laidTests := true, laidLooks := .later }
def ChangeFullCardSaid : Prop := Claim7.holds Tryd.pinned (.plain (OpenSpec.ofChange changeFullSpec)) changeFullCard

/-- THE TIED CARD OF 'phoenixlaw8.ChangeApart'. -/
def changeApartCard : Claim7 := { stood := { row := changeApartRow, standIns := [], harness := (true, "59f8cc62d9526b690b310511aa0850ce6cc95e2bdca9b08d305e764147b80e0d"), looks := true }, kinds := [], alts := [], laidByText := true, laidKinds := [.sentinel], laidTests := true, laidLooks := .later }
def ChangeApartCardSaid : Prop := Claim7.holds Tryd.pinned (.plain (OpenSpec.ofChange changeApartSpec)) changeApartCard

/-- THE TIED CARD OF 'phoenixlaw8.ChangeKinds'. -/
def changeKindsCard : Claim7 := { stood := { row := changeKindsRow, standIns := [], harness := (true, "59f8cc62d9526b690b310511aa0850ce6cc95e2bdca9b08d305e764147b80e0d"), looks := true }, kinds := [], alts := [], laidByText := true, laidKinds := [.sentinel], laidTests := true, laidLooks := .later }
def ChangeKindsCardSaid : Prop := Claim7.holds Tryd.pinned (.plain (OpenSpec.ofChange changeKindsSpec)) changeKindsCard

/-- THE TIED CARD OF 'phoenixlaw7.PageBounds'. -/
def pageBoundsCard : Claim7 := { stood := { row := pageBoundsRow, standIns := [], harness := (true, "59f8cc62d9526b690b310511aa0850ce6cc95e2bdca9b08d305e764147b80e0d"), looks := true }, kinds := [], alts := [], laidByText := true, laidKinds := [.sentinel, .sentinel, .sentinel, .sentinel, .sentinel, .sentinel, .sentinel, .sentinel, .sentinel, .sentinel, .sentinel, .sentinel, .sentinel, .sentinel, .sentinel, .sentinel, .sentinel, .sentinel], laidTests := true, laidLooks := .later }
def PageBoundsCardSaid : Prop := Claim7.holds Tryd.pinned (.plain (OpenSpec.ofChange pageBoundsSpec)) pageBoundsCard

/-- THE TIED CARD OF 'phoenixlaw7.PageUnlike'. -/
def pageUnlikeCard : Claim7 := { stood := { row := pageUnlikeRow, standIns := [], harness := (true, "59f8cc62d9526b690b310511aa0850ce6cc95e2bdca9b08d305e764147b80e0d"), looks := true }, kinds := [], alts := [], laidByText := true, laidKinds := [.sentinel, .sentinel, .sentinel, .sentinel, .sentinel, .sentinel, .sentinel, .sentinel, .sentinel, .sentinel, .sentinel, .sentinel, .sentinel, .sentinel, .sentinel, .sentinel, .sentinel, .sentinel], laidTests := true, laidLooks := .later }
def PageUnlikeCardSaid : Prop := Claim7.holds Tryd.pinned (.plain (OpenSpec.ofChange pageUnlikeSpec)) pageUnlikeCard

/-- THE TIED CARD OF 'phoenixlaw7.PageOwn'. -/
def pageOwnCard : Claim7 := { stood := { row := pageOwnRow, standIns := [], harness := (true, "59f8cc62d9526b690b310511aa0850ce6cc95e2bdca9b08d305e764147b80e0d"), looks := true }, kinds := [], alts := [], laidByText := true, laidKinds := [.sentinel, .sentinel, .sentinel], laidTests := true, laidLooks := .later }
def PageOwnCardSaid : Prop := Claim7.holds Tryd.pinned (.plain (OpenSpec.ofChange pageOwnSpec)) pageOwnCard

/-- THE TIED CARD OF 'phoenixlaw7.PageSays'. -/
def pageSaysCard : Claim7 := { stood := { row := pageSaysRow, standIns := [], harness := (true, "59f8cc62d9526b690b310511aa0850ce6cc95e2bdca9b08d305e764147b80e0d"), looks := true }, kinds := [], alts := [], laidByText := true, laidKinds := [.sentinel, .sentinel, .sentinel, .sentinel, .sentinel, .sentinel, .sentinel, .sentinel, .sentinel, .sentinel, .sentinel, .sentinel, .sentinel, .sentinel, .sentinel, .sentinel, .sentinel, .sentinel], laidTests := true, laidLooks := .later }
def PageSaysCardSaid : Prop := Claim7.holds Tryd.pinned (.plain (OpenSpec.ofChange pageSaysSpec)) pageSaysCard

/-- THE TIED CARD OF 'phoenixlaw7.PageKeys'. -/
def pageKeysCard : Claim7 := { stood := { row := pageKeysRow, standIns := [], harness := (true, "59f8cc62d9526b690b310511aa0850ce6cc95e2bdca9b08d305e764147b80e0d"), looks := true }, kinds := [], alts := [], laidByText := true, laidKinds := [.sentinel, .sentinel, .sentinel], laidTests := true, laidLooks := .later }
def PageKeysCardSaid : Prop := Claim7.holds Tryd.pinned (.plain (OpenSpec.ofChange pageKeysSpec)) pageKeysCard

/-- THE SECOND FORM's CARD OF 'phoenixlaw8.ChangeSays'. -/
def changeSaysUptoCard : Claim7 := { stood := { row := changeSaysUptoRow, standIns := [], harness := (true, "59f8cc62d9526b690b310511aa0850ce6cc95e2bdca9b08d305e764147b80e0d"), looks := true }, kinds := [], alts := [], laidByText := true, laidKinds := [.sentinel, .sentinel, .sentinel, .sentinel, .sentinel, .sentinel, .sentinel, .sentinel, .sentinel, .sentinel, .sentinel, .sentinel, .sentinel, .sentinel, .sentinel, .sentinel, .sentinel, .sentinel], laidTests := true, laidLooks := .later }
def ChangeSaysUptoCardSaid : Prop := Claim7.holds Tryd.pinned (.plain (OpenSpec.upto changeSaysSpec)) changeSaysUptoCard

/-- THE SECOND FORM's CARD OF 'phoenixlaw8.ChangeBack'. -/
def changeBackUptoCard : Claim7 := { stood := { row := changeBackUptoRow, standIns := [], harness := (true, "59f8cc62d9526b690b310511aa0850ce6cc95e2bdca9b08d305e764147b80e0d"), looks := true }, kinds := [], alts := [], laidByText := true, laidKinds := [.sentinel], laidTests := true, laidLooks := .later }
def ChangeBackUptoCardSaid : Prop := Claim7.holds Tryd.pinned (.plain (OpenSpec.upto changeBackSpec)) changeBackUptoCard

/-- THE SECOND FORM's CARD OF 'phoenixlaw8.ChangeRows'. -/
def changeRowsUptoCard : Claim7 := { stood := { row := changeRowsUptoRow, standIns := [], harness := (true, "59f8cc62d9526b690b310511aa0850ce6cc95e2bdca9b08d305e764147b80e0d"), looks := true }, kinds := [], alts := [], laidByText := true, laidKinds := [.sentinel], laidTests := true, laidLooks := .later }
def ChangeRowsUptoCardSaid : Prop := Claim7.holds Tryd.pinned (.plain (OpenSpec.upto changeRowsSpec)) changeRowsUptoCard

/-- THE SECOND FORM's CARD OF 'phoenixlaw8.ChangeFull'. -/
def changeFullUptoCard : Claim7 := { stood := { row := changeFullUptoRow, standIns := [], harness := (true, "59f8cc62d9526b690b310511aa0850ce6cc95e2bdca9b08d305e764147b80e0d"), looks := true }, kinds := [], alts := [], laidByText := true, laidKinds := [.sentinel, .sentinel, .sentinel, .sentinel, .sentinel, .sentinel, .sentinel, .sentinel, .sentinel, .sentinel, .sentinel, .sentinel, .sentinel, .sentinel, .sentinel, .sentinel, .sentinel, .sentinel], laidTests := true, laidLooks := .later }
def ChangeFullUptoCardSaid : Prop := Claim7.holds Tryd.pinned (.plain (OpenSpec.upto changeFullSpec)) changeFullUptoCard

/-- THE SECOND FORM's CARD OF 'phoenixlaw8.ChangeApart'. -/
def changeApartUptoCard : Claim7 := { stood := { row := changeApartUptoRow, standIns := [], harness := (true, "59f8cc62d9526b690b310511aa0850ce6cc95e2bdca9b08d305e764147b80e0d"), looks := true }, kinds := [], alts := [], laidByText := true, laidKinds := [.sentinel], laidTests := true, laidLooks := .later }
def ChangeApartUptoCardSaid : Prop := Claim7.holds Tryd.pinned (.plain (OpenSpec.upto changeApartSpec)) changeApartUptoCard

/-- THE SECOND FORM's CARD OF 'phoenixlaw8.ChangeKinds'. -/
def changeKindsUptoCard : Claim7 := { stood := { row := changeKindsUptoRow, standIns := [], harness := (true, "59f8cc62d9526b690b310511aa0850ce6cc95e2bdca9b08d305e764147b80e0d"), looks := true }, kinds := [], alts := [], laidByText := true, laidKinds := [.sentinel], laidTests := true, laidLooks := .later }
def ChangeKindsUptoCardSaid : Prop := Claim7.holds Tryd.pinned (.plain (OpenSpec.upto changeKindsSpec)) changeKindsUptoCard

/-- THE SECOND FORM's CARD OF 'phoenixlaw7.PageBounds'. -/
def pageBoundsUptoCard : Claim7 := { stood := { row := pageBoundsUptoRow, standIns := [], harness := (true, "59f8cc62d9526b690b310511aa0850ce6cc95e2bdca9b08d305e764147b80e0d"), looks := true }, kinds := [], alts := [], laidByText := true, laidKinds := [.sentinel, .sentinel, .sentinel, .sentinel, .sentinel, .sentinel, .sentinel, .sentinel, .sentinel, .sentinel, .sentinel, .sentinel, .sentinel, .sentinel, .sentinel, .sentinel, .sentinel, .sentinel], laidTests := true, laidLooks := .later }
def PageBoundsUptoCardSaid : Prop := Claim7.holds Tryd.pinned (.plain (OpenSpec.upto pageBoundsSpec)) pageBoundsUptoCard

/-- THE SECOND FORM's CARD OF 'phoenixlaw7.PageUnlike'. -/
def pageUnlikeUptoCard : Claim7 := { stood := { row := pageUnlikeUptoRow, standIns := [], harness := (true, "59f8cc62d9526b690b310511aa0850ce6cc95e2bdca9b08d305e764147b80e0d"), looks := true }, kinds := [], alts := [], laidByText := true, laidKinds := [.sentinel, .sentinel, .sentinel, .sentinel, .sentinel, .sentinel, .sentinel, .sentinel, .sentinel, .sentinel, .sentinel, .sentinel, .sentinel, .sentinel, .sentinel, .sentinel, .sentinel, .sentinel], laidTests := true, laidLooks := .later }
def PageUnlikeUptoCardSaid : Prop := Claim7.holds Tryd.pinned (.plain (OpenSpec.upto pageUnlikeSpec)) pageUnlikeUptoCard

/-- THE SECOND FORM's CARD OF 'phoenixlaw7.PageOwn'. -/
def pageOwnUptoCard : Claim7 := { stood := { row := pageOwnUptoRow, standIns := [], harness := (true, "59f8cc62d9526b690b310511aa0850ce6cc95e2bdca9b08d305e764147b80e0d"), looks := true }, kinds := [], alts := [], laidByText := true, laidKinds := [.sentinel, .sentinel, .sentinel], laidTests := true, laidLooks := .later }
def PageOwnUptoCardSaid : Prop := Claim7.holds Tryd.pinned (.plain (OpenSpec.upto pageOwnSpec)) pageOwnUptoCard

/-- THE SECOND FORM's CARD OF 'phoenixlaw7.PageSays'. -/
def pageSaysUptoCard : Claim7 := { stood := { row := pageSaysUptoRow, standIns := [], harness := (true, "59f8cc62d9526b690b310511aa0850ce6cc95e2bdca9b08d305e764147b80e0d"), looks := true }, kinds := [], alts := [], laidByText := true, laidKinds := [.sentinel, .sentinel, .sentinel, .sentinel, .sentinel, .sentinel, .sentinel, .sentinel, .sentinel, .sentinel, .sentinel, .sentinel, .sentinel, .sentinel, .sentinel, .sentinel, .sentinel, .sentinel], laidTests := true, laidLooks := .later }
def PageSaysUptoCardSaid : Prop := Claim7.holds Tryd.pinned (.plain (OpenSpec.upto pageSaysSpec)) pageSaysUptoCard

/-- THE SECOND FORM's CARD OF 'phoenixlaw7.PageKeys'. -/
def pageKeysUptoCard : Claim7 := { stood := { row := pageKeysUptoRow, standIns := [], harness := (true, "59f8cc62d9526b690b310511aa0850ce6cc95e2bdca9b08d305e764147b80e0d"), looks := true }, kinds := [], alts := [], laidByText := true, laidKinds := [.sentinel, .sentinel, .sentinel], laidTests := true, laidLooks := .later }
def PageKeysUptoCardSaid : Prop := Claim7.holds Tryd.pinned (.plain (OpenSpec.upto pageKeysSpec)) pageKeysUptoCard
end Rows
end Go.Proofs.YtmafogagkjafbaaDoor
