/-
  NARROWER THAN 'FOR EVERY INPUT', by the rows' own cells (each row's printed sentence says how): ChangeSays: laid · ChangeBack: laid · ChangeRows: laid · ChangeFull: laid · ChangeApart: laid · ChangeKinds: laid · PageBounds: laid · PageUnlike: laid · PageOwn: laid · PageSays: laid · PageKeys: laid.
  DERIVED. THE GIVEN ROWS OF THIS SEAT. 11 by the template 'for every input the law returns true; each argument reads behind the call as it read before'; 0 by the template 'total and deterministic' (their statements: YtmafogagkjafbaaDoorTotals.lean).
  GIVEN WITH THE SEED: the statements are not yours to turn. If you find one false, say at which input.
  Laid BY PROGRAM, IN A SANDBOX (cutbox-rows.mjs): the forced cells as the released guide's own fill.sh prints them over the translation d69ed640c4d03fb3… (all of the seat's roots in one cut). By AI agents, Wed Nov 11 2026. No macro, syntax, notation, axiom, sorry.
-/
import Derived.Test.YtmafogagkjafbaaDoorChecked
import GoSem.Claim
import GoSem.ClaimJoined
import GoSem.ClaimMapViews
import Derived.JoinedTies
import Derived.KernelRfl
namespace Go.Proofs.YtmafogagkjafbaaDoor
/- THE CELL 'sum', in the pinned program and in every row, IS THE sha256 OF THE DUMP (.gsa) THAT YtmafogagkjafbaaDoorProg.lean LOADS. Nothing in Lean hashes anything: it is a label: what it is worth is what the hold of that sum in a sandbox is worth. -/
noncomputable def Tryd.pinned : Pinned := { name := "ytmafogagkjafbaadoor", sum := "d69ed640c4d03fb3e3e13858261136b59a8bb9efb6dd86a4f84ee5a39a395cf5", checked := Tryd.checked }
namespace Rows
def none {H : Type} : Left H := { results := [], args := [] }

/- WHAT THE LISTED PACKAGE-LEVEL VARIABLES READ AS WHEN THE CALL BEGINS. Each datum BY PROGRAM (the guide's laid-datum.mjs) off the statement by which the dump's own 'gosem.cut.vars' lays the variable. In a bare row this is a premise. The card (YtmafogagkjafbaaDoorCards.lean) ties it to the program's text. -/
def laid_phoenix_api_ErrOff {H : Type} : DataW H := .iface "*errors.errorString" (.ptr (.agg [.lit (.string [116, 104, 101, 114, 101, 32, 105, 115, 32, 110, 111, 32, 112, 111, 119, 101, 114])]))
def laid_phoenix_api_ErrRange {H : Type} : DataW H := .iface "*errors.errorString" (.ptr (.agg [.lit (.string [97, 32, 110, 117, 109, 98, 101, 114, 32, 111, 117, 116, 32, 111, 102, 32, 105, 116, 115, 32, 114, 97, 110, 103, 101])]))
def laid_phoenix_api_ErrShort {H : Type} : DataW H := .iface "*errors.errorString" (.ptr (.agg [.lit (.string [98, 121, 116, 101, 115, 32, 111, 102, 32, 97, 110, 111, 116, 104, 101, 114, 32, 108, 101, 110, 103, 116, 104])]))
def laid_phoenix_api_ErrRec {H : Type} : DataW H := .iface "*errors.errorString" (.ptr (.agg [.lit (.string [110, 111, 116, 32, 97, 32, 114, 101, 99, 111, 114, 100])]))
def laid_phoenix_api_ErrBlock {H : Type} : DataW H := .iface "*errors.errorString" (.ptr (.agg [.lit (.string [110, 111, 116, 32, 97, 32, 98, 108, 111, 99, 107])]))
def laid_phoenix_api_ErrMaster {H : Type} : DataW H := .iface "*errors.errorString" (.ptr (.agg [.lit (.string [110, 111, 116, 32, 97, 32, 109, 97, 115, 116, 101, 114])]))
def laid_phoenix_api_ErrPage {H : Type} : DataW H := .iface "*errors.errorString" (.ptr (.agg [.lit (.string [110, 111, 116, 32, 97, 32, 112, 97, 103, 101])]))
def laid_phoenix_api_ErrLog {H : Type} : DataW H := .iface "*errors.errorString" (.ptr (.agg [.lit (.string [97, 32, 108, 111, 103, 32, 116, 104, 97, 116, 32, 99, 97, 110, 39, 116, 32, 98, 101])]))
def laid_phoenix_api_ErrLogFull {H : Type} : DataW H := .iface "*errors.errorString" (.ptr (.agg [.lit (.string [116, 104, 101, 32, 108, 111, 103, 32, 105, 115, 32, 102, 117, 108, 108])]))
def laid_phoenix_api_ErrFull {H : Type} : DataW H := .iface "*errors.errorString" (.ptr (.agg [.lit (.string [116, 104, 101, 32, 112, 97, 103, 101, 32, 105, 115, 32, 102, 117, 108, 108])]))
def laid_phoenix_api_ErrLocked {H : Type} : DataW H := .iface "*errors.errorString" (.ptr (.agg [.lit (.string [97, 110, 111, 116, 104, 101, 114, 32, 111, 110, 101, 32, 104, 111, 108, 100, 115, 32, 105, 116])]))
def laid_phoenix_api_ErrDeadlock {H : Type} : DataW H := .iface "*errors.errorString" (.ptr (.agg [.lit (.string [101, 97, 99, 104, 32, 119, 97, 105, 116, 115, 32, 102, 111, 114, 32, 97, 110, 111, 116, 104, 101, 114, 32, 111, 110, 101])]))
def laid_phoenix_api_ErrNoTxn {H : Type} : DataW H := .iface "*errors.errorString" (.ptr (.agg [.lit (.string [110, 111, 32, 116, 114, 97, 110, 115, 97, 99, 116, 105, 111, 110])]))
def laid_phoenix_api_ErrOpen {H : Type} : DataW H := .iface "*errors.errorString" (.ptr (.agg [.lit (.string [97, 32, 116, 114, 97, 110, 115, 97, 99, 116, 105, 111, 110, 32, 97, 108, 114, 101, 97, 100, 121])]))
def laid_phoenix_api_ErrSave {H : Type} : DataW H := .iface "*errors.errorString" (.ptr (.agg [.lit (.string [110, 111, 32, 115, 117, 99, 104, 32, 115, 97, 118, 101, 112, 111, 105, 110, 116])]))
def laid_phoenix_api_ErrBusy {H : Type} : DataW H := .iface "*errors.errorString" (.ptr (.agg [.lit (.string [116, 114, 97, 110, 115, 97, 99, 116, 105, 111, 110, 115, 32, 97, 114, 101, 32, 111, 112, 101, 110])]))
def laid_phoenix_api_ErrLimit {H : Type} : DataW H := .iface "*errors.errorString" (.ptr (.agg [.lit (.string [109, 111, 114, 101, 32, 116, 104, 97, 110, 32, 109, 97, 121, 32, 98, 101])]))
def laid_phoenix_api_ErrClosed {H : Type} : DataW H := .iface "*errors.errorString" (.ptr (.agg [.lit (.string [99, 108, 111, 115, 101, 100])]))

/-- 'phoenixlaw8.ChangeSays': WHATEVER THE INPUT: true; the input reads as it did. -/
def changeSaysSpec : ChangeSpec := { name := "changeSays", fn := fun _ => fun
  | [d1, d2, d3, d4] => { results := [.lit (.bool true)], args := [d1, d2, d3, d4] }
  | _ => none }
def changeSaysRow : OpenClaim := { program := "ytmafogagkjafbaadoor", sum := "d69ed640c4d03fb3e3e13858261136b59a8bb9efb6dd86a4f84ee5a39a395cf5", func := "phoenix/phoenixlaw8.ChangeSays", spec := "changeSays", inPlace := ["slices.overlaps[phoenix/api.Entry]"], unfollowed := true, recurses := true, named := ["phoenix/api.ErrPage", "phoenix/api.ErrOff", "phoenix/api.ErrRange", "phoenix/api.ErrShort", "phoenix/api.ErrRec", "phoenix/api.ErrBlock", "phoenix/api.ErrMaster", "phoenix/api.ErrLog", "phoenix/api.ErrLogFull", "phoenix/api.ErrFull", "phoenix/api.ErrLocked", "phoenix/api.ErrDeadlock", "phoenix/api.ErrNoTxn", "phoenix/api.ErrOpen", "phoenix/api.ErrSave", "phoenix/api.ErrBusy", "phoenix/api.ErrLimit", "phoenix/api.ErrClosed"], apart := false, laid := [("phoenix/api.ErrOff", laid_phoenix_api_ErrOff), ("phoenix/api.ErrRange", laid_phoenix_api_ErrRange), ("phoenix/api.ErrShort", laid_phoenix_api_ErrShort), ("phoenix/api.ErrRec", laid_phoenix_api_ErrRec), ("phoenix/api.ErrBlock", laid_phoenix_api_ErrBlock), ("phoenix/api.ErrMaster", laid_phoenix_api_ErrMaster), ("phoenix/api.ErrPage", laid_phoenix_api_ErrPage), ("phoenix/api.ErrLog", laid_phoenix_api_ErrLog), ("phoenix/api.ErrLogFull", laid_phoenix_api_ErrLogFull), ("phoenix/api.ErrFull", laid_phoenix_api_ErrFull), ("phoenix/api.ErrLocked", laid_phoenix_api_ErrLocked), ("phoenix/api.ErrDeadlock", laid_phoenix_api_ErrDeadlock), ("phoenix/api.ErrNoTxn", laid_phoenix_api_ErrNoTxn), ("phoenix/api.ErrOpen", laid_phoenix_api_ErrOpen), ("phoenix/api.ErrSave", laid_phoenix_api_ErrSave), ("phoenix/api.ErrBusy", laid_phoenix_api_ErrBusy), ("phoenix/api.ErrLimit", laid_phoenix_api_ErrLimit), ("phoenix/api.ErrClosed", laid_phoenix_api_ErrClosed)] }
def ChangeSaysSaid : Prop := changeSaysRow.holds Tryd.pinned (OpenSpec.ofChange changeSaysSpec)

/-- ITS FALSE NEIGHBOUR: 'it returns false'. Refute it at one input. -/
def changeSaysWrong : ChangeSpec := { name := "changeSays", fn := fun _ => fun
  | [d1, d2, d3, d4] => { results := [.lit (.bool false)], args := [d1, d2, d3, d4] }
  | _ => none }
def ChangeSaysWrongFalsely : Prop := changeSaysRow.holds Tryd.pinned (OpenSpec.ofChange changeSaysWrong)

/-- 'phoenixlaw8.ChangeBack': WHATEVER THE INPUT: true; the input reads as it did. -/
def changeBackSpec : ChangeSpec := { name := "changeBack", fn := fun _ => fun
  | [d1, d2, d3, d4] => { results := [.lit (.bool true)], args := [d1, d2, d3, d4] }
  | _ => none }
def changeBackRow : OpenClaim := { program := "ytmafogagkjafbaadoor", sum := "d69ed640c4d03fb3e3e13858261136b59a8bb9efb6dd86a4f84ee5a39a395cf5", func := "phoenix/phoenixlaw8.ChangeBack", spec := "changeBack", inPlace := ["slices.overlaps[phoenix/api.Entry]"], unfollowed := true, recurses := true, named := ["phoenix/api.ErrPage"], apart := false, laid := [("phoenix/api.ErrPage", laid_phoenix_api_ErrPage)] }
def ChangeBackSaid : Prop := changeBackRow.holds Tryd.pinned (OpenSpec.ofChange changeBackSpec)

/-- ITS FALSE NEIGHBOUR: 'it returns false'. Refute it at one input. -/
def changeBackWrong : ChangeSpec := { name := "changeBack", fn := fun _ => fun
  | [d1, d2, d3, d4] => { results := [.lit (.bool false)], args := [d1, d2, d3, d4] }
  | _ => none }
def ChangeBackWrongFalsely : Prop := changeBackRow.holds Tryd.pinned (OpenSpec.ofChange changeBackWrong)

/-- 'phoenixlaw8.ChangeRows': WHATEVER THE INPUT: true; the input reads as it did. -/
def changeRowsSpec : ChangeSpec := { name := "changeRows", fn := fun _ => fun
  | [d1, d2] => { results := [.lit (.bool true)], args := [d1, d2] }
  | _ => none }
def changeRowsRow : OpenClaim := { program := "ytmafogagkjafbaadoor", sum := "d69ed640c4d03fb3e3e13858261136b59a8bb9efb6dd86a4f84ee5a39a395cf5", func := "phoenix/phoenixlaw8.ChangeRows", spec := "changeRows", inPlace := ["slices.overlaps[phoenix/api.Entry]"], unfollowed := true, recurses := true, named := ["phoenix/api.ErrPage"], apart := false, laid := [("phoenix/api.ErrPage", laid_phoenix_api_ErrPage)] }
def ChangeRowsSaid : Prop := changeRowsRow.holds Tryd.pinned (OpenSpec.ofChange changeRowsSpec)

/-- ITS FALSE NEIGHBOUR: 'it returns false'. Refute it at one input. -/
def changeRowsWrong : ChangeSpec := { name := "changeRows", fn := fun _ => fun
  | [d1, d2] => { results := [.lit (.bool false)], args := [d1, d2] }
  | _ => none }
def ChangeRowsWrongFalsely : Prop := changeRowsRow.holds Tryd.pinned (OpenSpec.ofChange changeRowsWrong)

/-- 'phoenixlaw8.ChangeFull': WHATEVER THE INPUT: true; the input reads as it did. -/
def changeFullSpec : ChangeSpec := { name := "changeFull", fn := fun _ => fun
  | [d1, d2, d3] => { results := [.lit (.bool true)], args := [d1, d2, d3] }
  | _ => none }
def changeFullRow : OpenClaim := { program := "ytmafogagkjafbaadoor", sum := "d69ed640c4d03fb3e3e13858261136b59a8bb9efb6dd86a4f84ee5a39a395cf5", func := "phoenix/phoenixlaw8.ChangeFull", spec := "changeFull", inPlace := ["slices.overlaps[phoenix/api.Entry]"], unfollowed := true, recurses := true, named := ["phoenix/api.ErrPage", "phoenix/api.ErrOff", "phoenix/api.ErrRange", "phoenix/api.ErrShort", "phoenix/api.ErrRec", "phoenix/api.ErrBlock", "phoenix/api.ErrMaster", "phoenix/api.ErrLog", "phoenix/api.ErrLogFull", "phoenix/api.ErrFull", "phoenix/api.ErrLocked", "phoenix/api.ErrDeadlock", "phoenix/api.ErrNoTxn", "phoenix/api.ErrOpen", "phoenix/api.ErrSave", "phoenix/api.ErrBusy", "phoenix/api.ErrLimit", "phoenix/api.ErrClosed"], apart := false, laid := [("phoenix/api.ErrOff", laid_phoenix_api_ErrOff), ("phoenix/api.ErrRange", laid_phoenix_api_ErrRange), ("phoenix/api.ErrShort", laid_phoenix_api_ErrShort), ("phoenix/api.ErrRec", laid_phoenix_api_ErrRec), ("phoenix/api.ErrBlock", laid_phoenix_api_ErrBlock), ("phoenix/api.ErrMaster", laid_phoenix_api_ErrMaster), ("phoenix/api.ErrPage", laid_phoenix_api_ErrPage), ("phoenix/api.ErrLog", laid_phoenix_api_ErrLog), ("phoenix/api.ErrLogFull", laid_phoenix_api_ErrLogFull), ("phoenix/api.ErrFull", laid_phoenix_api_ErrFull), ("phoenix/api.ErrLocked", laid_phoenix_api_ErrLocked), ("phoenix/api.ErrDeadlock", laid_phoenix_api_ErrDeadlock), ("phoenix/api.ErrNoTxn", laid_phoenix_api_ErrNoTxn), ("phoenix/api.ErrOpen", laid_phoenix_api_ErrOpen), ("phoenix/api.ErrSave", laid_phoenix_api_ErrSave), ("phoenix/api.ErrBusy", laid_phoenix_api_ErrBusy), ("phoenix/api.ErrLimit", laid_phoenix_api_ErrLimit), ("phoenix/api.ErrClosed", laid_phoenix_api_ErrClosed)] }
def ChangeFullSaid : Prop := changeFullRow.holds Tryd.pinned (OpenSpec.ofChange changeFullSpec)

/-- ITS FALSE NEIGHBOUR: 'it returns false'. Refute it at one input. -/
def changeFullWrong : ChangeSpec := { name := "changeFull", fn := fun _ => fun
  | [d1, d2, d3] => { results := [.lit (.bool false)], args := [d1, d2, d3] }
  | _ => none }
def ChangeFullWrongFalsely : Prop := changeFullRow.holds Tryd.pinned (OpenSpec.ofChange changeFullWrong)

/-- 'phoenixlaw8.ChangeApart': WHATEVER THE INPUT: true; the input reads as it did. -/
def changeApartSpec : ChangeSpec := { name := "changeApart", fn := fun _ => fun
  | [d1, d2, d3, d4, d5] => { results := [.lit (.bool true)], args := [d1, d2, d3, d4, d5] }
  | _ => none }
def changeApartRow : OpenClaim := { program := "ytmafogagkjafbaadoor", sum := "d69ed640c4d03fb3e3e13858261136b59a8bb9efb6dd86a4f84ee5a39a395cf5", func := "phoenix/phoenixlaw8.ChangeApart", spec := "changeApart", inPlace := ["slices.overlaps[phoenix/api.Entry]"], unfollowed := true, recurses := true, named := ["phoenix/api.ErrPage"], apart := false, laid := [("phoenix/api.ErrPage", laid_phoenix_api_ErrPage)] }
def ChangeApartSaid : Prop := changeApartRow.holds Tryd.pinned (OpenSpec.ofChange changeApartSpec)

/-- ITS FALSE NEIGHBOUR: 'it returns false'. Refute it at one input. -/
def changeApartWrong : ChangeSpec := { name := "changeApart", fn := fun _ => fun
  | [d1, d2, d3, d4, d5] => { results := [.lit (.bool false)], args := [d1, d2, d3, d4, d5] }
  | _ => none }
def ChangeApartWrongFalsely : Prop := changeApartRow.holds Tryd.pinned (OpenSpec.ofChange changeApartWrong)

/-- 'phoenixlaw8.ChangeKinds': WHATEVER THE INPUT: true; the input reads as it did. -/
def changeKindsSpec : ChangeSpec := { name := "changeKinds", fn := fun _ => fun
  | [d1, d2] => { results := [.lit (.bool true)], args := [d1, d2] }
  | _ => none }
def changeKindsRow : OpenClaim := { program := "ytmafogagkjafbaadoor", sum := "d69ed640c4d03fb3e3e13858261136b59a8bb9efb6dd86a4f84ee5a39a395cf5", func := "phoenix/phoenixlaw8.ChangeKinds", spec := "changeKinds", inPlace := ["slices.overlaps[phoenix/api.Entry]"], unfollowed := true, recurses := true, named := ["phoenix/api.ErrPage"], apart := false, laid := [("phoenix/api.ErrPage", laid_phoenix_api_ErrPage)] }
def ChangeKindsSaid : Prop := changeKindsRow.holds Tryd.pinned (OpenSpec.ofChange changeKindsSpec)

/-- ITS FALSE NEIGHBOUR: 'it returns false'. Refute it at one input. -/
def changeKindsWrong : ChangeSpec := { name := "changeKinds", fn := fun _ => fun
  | [d1, d2] => { results := [.lit (.bool false)], args := [d1, d2] }
  | _ => none }
def ChangeKindsWrongFalsely : Prop := changeKindsRow.holds Tryd.pinned (OpenSpec.ofChange changeKindsWrong)

/-- 'phoenixlaw7.PageBounds': WHATEVER THE INPUT: true; the input reads as it did. -/
def pageBoundsSpec : ChangeSpec := { name := "pageBounds", fn := fun _ => fun
  | [d1, d2, d3] => { results := [.lit (.bool true)], args := [d1, d2, d3] }
  | _ => none }
def pageBoundsRow : OpenClaim := { program := "ytmafogagkjafbaadoor", sum := "d69ed640c4d03fb3e3e13858261136b59a8bb9efb6dd86a4f84ee5a39a395cf5", func := "phoenix/phoenixlaw7.PageBounds", spec := "pageBounds", inPlace := ["slices.overlaps[phoenix/api.Entry]"], unfollowed := true, recurses := true, named := ["phoenix/api.ErrShort", "phoenix/api.ErrPage", "phoenix/api.ErrRange", "phoenix/api.ErrOff", "phoenix/api.ErrRec", "phoenix/api.ErrBlock", "phoenix/api.ErrMaster", "phoenix/api.ErrLog", "phoenix/api.ErrLogFull", "phoenix/api.ErrFull", "phoenix/api.ErrLocked", "phoenix/api.ErrDeadlock", "phoenix/api.ErrNoTxn", "phoenix/api.ErrOpen", "phoenix/api.ErrSave", "phoenix/api.ErrBusy", "phoenix/api.ErrLimit", "phoenix/api.ErrClosed"], apart := false, laid := [("phoenix/api.ErrOff", laid_phoenix_api_ErrOff), ("phoenix/api.ErrRange", laid_phoenix_api_ErrRange), ("phoenix/api.ErrShort", laid_phoenix_api_ErrShort), ("phoenix/api.ErrRec", laid_phoenix_api_ErrRec), ("phoenix/api.ErrBlock", laid_phoenix_api_ErrBlock), ("phoenix/api.ErrMaster", laid_phoenix_api_ErrMaster), ("phoenix/api.ErrPage", laid_phoenix_api_ErrPage), ("phoenix/api.ErrLog", laid_phoenix_api_ErrLog), ("phoenix/api.ErrLogFull", laid_phoenix_api_ErrLogFull), ("phoenix/api.ErrFull", laid_phoenix_api_ErrFull), ("phoenix/api.ErrLocked", laid_phoenix_api_ErrLocked), ("phoenix/api.ErrDeadlock", laid_phoenix_api_ErrDeadlock), ("phoenix/api.ErrNoTxn", laid_phoenix_api_ErrNoTxn), ("phoenix/api.ErrOpen", laid_phoenix_api_ErrOpen), ("phoenix/api.ErrSave", laid_phoenix_api_ErrSave), ("phoenix/api.ErrBusy", laid_phoenix_api_ErrBusy), ("phoenix/api.ErrLimit", laid_phoenix_api_ErrLimit), ("phoenix/api.ErrClosed", laid_phoenix_api_ErrClosed)] }
def PageBoundsSaid : Prop := pageBoundsRow.holds Tryd.pinned (OpenSpec.ofChange pageBoundsSpec)

/-- ITS FALSE NEIGHBOUR: 'it returns false'. Refute it at one input. -/
def pageBoundsWrong : ChangeSpec := { name := "pageBounds", fn := fun _ => fun
  | [d1, d2, d3] => { results := [.lit (.bool false)], args := [d1, d2, d3] }
  | _ => none }
def PageBoundsWrongFalsely : Prop := pageBoundsRow.holds Tryd.pinned (OpenSpec.ofChange pageBoundsWrong)

/-- 'phoenixlaw7.PageUnlike': WHATEVER THE INPUT: true; the input reads as it did. -/
def pageUnlikeSpec : ChangeSpec := { name := "pageUnlike", fn := fun _ => fun
  | [d1, d2, d3] => { results := [.lit (.bool true)], args := [d1, d2, d3] }
  | _ => none }
def pageUnlikeRow : OpenClaim := { program := "ytmafogagkjafbaadoor", sum := "d69ed640c4d03fb3e3e13858261136b59a8bb9efb6dd86a4f84ee5a39a395cf5", func := "phoenix/phoenixlaw7.PageUnlike", spec := "pageUnlike", inPlace := ["slices.overlaps[phoenix/api.Entry]"], unfollowed := true, recurses := true, named := ["phoenix/api.ErrShort", "phoenix/api.ErrPage", "phoenix/api.ErrRange", "phoenix/api.ErrOff", "phoenix/api.ErrRec", "phoenix/api.ErrBlock", "phoenix/api.ErrMaster", "phoenix/api.ErrLog", "phoenix/api.ErrLogFull", "phoenix/api.ErrFull", "phoenix/api.ErrLocked", "phoenix/api.ErrDeadlock", "phoenix/api.ErrNoTxn", "phoenix/api.ErrOpen", "phoenix/api.ErrSave", "phoenix/api.ErrBusy", "phoenix/api.ErrLimit", "phoenix/api.ErrClosed"], apart := false, laid := [("phoenix/api.ErrOff", laid_phoenix_api_ErrOff), ("phoenix/api.ErrRange", laid_phoenix_api_ErrRange), ("phoenix/api.ErrShort", laid_phoenix_api_ErrShort), ("phoenix/api.ErrRec", laid_phoenix_api_ErrRec), ("phoenix/api.ErrBlock", laid_phoenix_api_ErrBlock), ("phoenix/api.ErrMaster", laid_phoenix_api_ErrMaster), ("phoenix/api.ErrPage", laid_phoenix_api_ErrPage), ("phoenix/api.ErrLog", laid_phoenix_api_ErrLog), ("phoenix/api.ErrLogFull", laid_phoenix_api_ErrLogFull), ("phoenix/api.ErrFull", laid_phoenix_api_ErrFull), ("phoenix/api.ErrLocked", laid_phoenix_api_ErrLocked), ("phoenix/api.ErrDeadlock", laid_phoenix_api_ErrDeadlock), ("phoenix/api.ErrNoTxn", laid_phoenix_api_ErrNoTxn), ("phoenix/api.ErrOpen", laid_phoenix_api_ErrOpen), ("phoenix/api.ErrSave", laid_phoenix_api_ErrSave), ("phoenix/api.ErrBusy", laid_phoenix_api_ErrBusy), ("phoenix/api.ErrLimit", laid_phoenix_api_ErrLimit), ("phoenix/api.ErrClosed", laid_phoenix_api_ErrClosed)] }
def PageUnlikeSaid : Prop := pageUnlikeRow.holds Tryd.pinned (OpenSpec.ofChange pageUnlikeSpec)

/-- ITS FALSE NEIGHBOUR: 'it returns false'. Refute it at one input. -/
def pageUnlikeWrong : ChangeSpec := { name := "pageUnlike", fn := fun _ => fun
  | [d1, d2, d3] => { results := [.lit (.bool false)], args := [d1, d2, d3] }
  | _ => none }
def PageUnlikeWrongFalsely : Prop := pageUnlikeRow.holds Tryd.pinned (OpenSpec.ofChange pageUnlikeWrong)

/-- 'phoenixlaw7.PageOwn': WHATEVER THE INPUT: true; the input reads as it did. -/
def pageOwnSpec : ChangeSpec := { name := "pageOwn", fn := fun _ => fun
  | [d1, d2, d3] => { results := [.lit (.bool true)], args := [d1, d2, d3] }
  | _ => none }
def pageOwnRow : OpenClaim := { program := "ytmafogagkjafbaadoor", sum := "d69ed640c4d03fb3e3e13858261136b59a8bb9efb6dd86a4f84ee5a39a395cf5", func := "phoenix/phoenixlaw7.PageOwn", spec := "pageOwn", inPlace := ["slices.overlaps[phoenix/api.Entry]"], unfollowed := true, recurses := true, named := ["phoenix/api.ErrShort", "phoenix/api.ErrPage", "phoenix/api.ErrRange"], apart := false, laid := [("phoenix/api.ErrRange", laid_phoenix_api_ErrRange), ("phoenix/api.ErrShort", laid_phoenix_api_ErrShort), ("phoenix/api.ErrPage", laid_phoenix_api_ErrPage)] }
def PageOwnSaid : Prop := pageOwnRow.holds Tryd.pinned (OpenSpec.ofChange pageOwnSpec)

/-- ITS FALSE NEIGHBOUR: 'it returns false'. Refute it at one input. -/
def pageOwnWrong : ChangeSpec := { name := "pageOwn", fn := fun _ => fun
  | [d1, d2, d3] => { results := [.lit (.bool false)], args := [d1, d2, d3] }
  | _ => none }
def PageOwnWrongFalsely : Prop := pageOwnRow.holds Tryd.pinned (OpenSpec.ofChange pageOwnWrong)

/-- 'phoenixlaw7.PageSays': WHATEVER THE INPUT: true; the input reads as it did. -/
def pageSaysSpec : ChangeSpec := { name := "pageSays", fn := fun _ => fun
  | [d1, d2, d3, d4, d5, d6, d7] => { results := [.lit (.bool true)], args := [d1, d2, d3, d4, d5, d6, d7] }
  | _ => none }
def pageSaysRow : OpenClaim := { program := "ytmafogagkjafbaadoor", sum := "d69ed640c4d03fb3e3e13858261136b59a8bb9efb6dd86a4f84ee5a39a395cf5", func := "phoenix/phoenixlaw7.PageSays", spec := "pageSays", inPlace := ["slices.overlaps[phoenix/api.Entry]"], unfollowed := true, recurses := true, named := ["phoenix/api.ErrShort", "phoenix/api.ErrPage", "phoenix/api.ErrRange", "phoenix/api.ErrOff", "phoenix/api.ErrRec", "phoenix/api.ErrBlock", "phoenix/api.ErrMaster", "phoenix/api.ErrLog", "phoenix/api.ErrLogFull", "phoenix/api.ErrFull", "phoenix/api.ErrLocked", "phoenix/api.ErrDeadlock", "phoenix/api.ErrNoTxn", "phoenix/api.ErrOpen", "phoenix/api.ErrSave", "phoenix/api.ErrBusy", "phoenix/api.ErrLimit", "phoenix/api.ErrClosed"], apart := false, laid := [("phoenix/api.ErrOff", laid_phoenix_api_ErrOff), ("phoenix/api.ErrRange", laid_phoenix_api_ErrRange), ("phoenix/api.ErrShort", laid_phoenix_api_ErrShort), ("phoenix/api.ErrRec", laid_phoenix_api_ErrRec), ("phoenix/api.ErrBlock", laid_phoenix_api_ErrBlock), ("phoenix/api.ErrMaster", laid_phoenix_api_ErrMaster), ("phoenix/api.ErrPage", laid_phoenix_api_ErrPage), ("phoenix/api.ErrLog", laid_phoenix_api_ErrLog), ("phoenix/api.ErrLogFull", laid_phoenix_api_ErrLogFull), ("phoenix/api.ErrFull", laid_phoenix_api_ErrFull), ("phoenix/api.ErrLocked", laid_phoenix_api_ErrLocked), ("phoenix/api.ErrDeadlock", laid_phoenix_api_ErrDeadlock), ("phoenix/api.ErrNoTxn", laid_phoenix_api_ErrNoTxn), ("phoenix/api.ErrOpen", laid_phoenix_api_ErrOpen), ("phoenix/api.ErrSave", laid_phoenix_api_ErrSave), ("phoenix/api.ErrBusy", laid_phoenix_api_ErrBusy), ("phoenix/api.ErrLimit", laid_phoenix_api_ErrLimit), ("phoenix/api.ErrClosed", laid_phoenix_api_ErrClosed)] }
def PageSaysSaid : Prop := pageSaysRow.holds Tryd.pinned (OpenSpec.ofChange pageSaysSpec)

/-- ITS FALSE NEIGHBOUR: 'it returns false'. Refute it at one input. -/
def pageSaysWrong : ChangeSpec := { name := "pageSays", fn := fun _ => fun
  | [d1, d2, d3, d4, d5, d6, d7] => { results := [.lit (.bool false)], args := [d1, d2, d3, d4, d5, d6, d7] }
  | _ => none }
def PageSaysWrongFalsely : Prop := pageSaysRow.holds Tryd.pinned (OpenSpec.ofChange pageSaysWrong)

/-- 'phoenixlaw7.PageKeys': WHATEVER THE INPUT: true; the input reads as it did. -/
def pageKeysSpec : ChangeSpec := { name := "pageKeys", fn := fun _ => fun
  | [d1, d2] => { results := [.lit (.bool true)], args := [d1, d2] }
  | _ => none }
def pageKeysRow : OpenClaim := { program := "ytmafogagkjafbaadoor", sum := "d69ed640c4d03fb3e3e13858261136b59a8bb9efb6dd86a4f84ee5a39a395cf5", func := "phoenix/phoenixlaw7.PageKeys", spec := "pageKeys", inPlace := ["slices.overlaps[phoenix/api.Entry]"], unfollowed := true, recurses := true, named := ["phoenix/api.ErrShort", "phoenix/api.ErrPage", "phoenix/api.ErrRange"], apart := false, laid := [("phoenix/api.ErrRange", laid_phoenix_api_ErrRange), ("phoenix/api.ErrShort", laid_phoenix_api_ErrShort), ("phoenix/api.ErrPage", laid_phoenix_api_ErrPage)] }
def PageKeysSaid : Prop := pageKeysRow.holds Tryd.pinned (OpenSpec.ofChange pageKeysSpec)

/-- ITS FALSE NEIGHBOUR: 'it returns false'. Refute it at one input. -/
def pageKeysWrong : ChangeSpec := { name := "pageKeys", fn := fun _ => fun
  | [d1, d2] => { results := [.lit (.bool false)], args := [d1, d2] }
  | _ => none }
def PageKeysWrongFalsely : Prop := pageKeysRow.holds Tryd.pinned (OpenSpec.ofChange pageKeysWrong)

/- THE SECOND FORM. 'bulk': how many values and letters a reading holds, each counted each time it is reached (what is shared counts as often as it is met; a slice's spare places count too). A statement '..UptoSaid' is the law's where the arguments, and the package variables that the reading takes, are together of bulk at most 1048576: NARROWER than '..Said'. Prove '..Said' where nothing that the law and all that it calls make is longer than what came in: it says more and counts as full. Else prove '..UptoSaid'. A law counts once. -/
mutual
def uptoBulk {H : Type} : DataW H → Nat
  | .lit (.string bytes) => bytes.length + 1
  | .lit _ => 1
  | .nil => 1
  | .ptr d => uptoBulk d + 1
  | .slice elems spare => uptoBulkAll elems + uptoBulkAll spare + 1
  | .agg parts => uptoBulkAll parts + 1
  | .iface _ d => uptoBulk d + 1
  | .map entries => uptoBulkEntries entries + 1
  | .held _ => 1
def uptoBulkAll {H : Type} : List (DataW H) → Nat
  | [] => 0
  | d :: r => uptoBulk d + uptoBulkAll r
def uptoBulkEntries {H : Type} : List (Lit × DataW H) → Nat
  | [] => 0
  | x :: r => uptoBulkEntry x + uptoBulkEntries r
def uptoBulkEntry {H : Type} : Lit × DataW H → Nat
  | (.string bytes, d) => bytes.length + uptoBulk d + 1
  | (_, d) => uptoBulk d + 1
 end
def uptoSmall : (H : Type) → List (DataW H) → Bool := fun _ ds => decide (uptoBulkAll ds ≤ 1048576)
def OpenSpec.upto (s : _root_.Go.ChangeSpec) : _root_.Go.OpenSpec := { _root_.Go.OpenSpec.ofChange s with cond := some uptoSmall }

/-- 'phoenixlaw8.ChangeSays', WHERE WHAT IT READS IS OF BULK AT MOST 1048576: true; the input reads as it did. -/
def changeSaysUptoRow : OpenClaim := { program := "ytmafogagkjafbaadoor", sum := "d69ed640c4d03fb3e3e13858261136b59a8bb9efb6dd86a4f84ee5a39a395cf5", func := "phoenix/phoenixlaw8.ChangeSays", spec := "changeSays", inPlace := ["slices.overlaps[phoenix/api.Entry]"], unfollowed := true, recurses := true, named := ["phoenix/api.ErrPage", "phoenix/api.ErrOff", "phoenix/api.ErrRange", "phoenix/api.ErrShort", "phoenix/api.ErrRec", "phoenix/api.ErrBlock", "phoenix/api.ErrMaster", "phoenix/api.ErrLog", "phoenix/api.ErrLogFull", "phoenix/api.ErrFull", "phoenix/api.ErrLocked", "phoenix/api.ErrDeadlock", "phoenix/api.ErrNoTxn", "phoenix/api.ErrOpen", "phoenix/api.ErrSave", "phoenix/api.ErrBusy", "phoenix/api.ErrLimit", "phoenix/api.ErrClosed"], apart := false, laid := [("phoenix/api.ErrOff", laid_phoenix_api_ErrOff), ("phoenix/api.ErrRange", laid_phoenix_api_ErrRange), ("phoenix/api.ErrShort", laid_phoenix_api_ErrShort), ("phoenix/api.ErrRec", laid_phoenix_api_ErrRec), ("phoenix/api.ErrBlock", laid_phoenix_api_ErrBlock), ("phoenix/api.ErrMaster", laid_phoenix_api_ErrMaster), ("phoenix/api.ErrPage", laid_phoenix_api_ErrPage), ("phoenix/api.ErrLog", laid_phoenix_api_ErrLog), ("phoenix/api.ErrLogFull", laid_phoenix_api_ErrLogFull), ("phoenix/api.ErrFull", laid_phoenix_api_ErrFull), ("phoenix/api.ErrLocked", laid_phoenix_api_ErrLocked), ("phoenix/api.ErrDeadlock", laid_phoenix_api_ErrDeadlock), ("phoenix/api.ErrNoTxn", laid_phoenix_api_ErrNoTxn), ("phoenix/api.ErrOpen", laid_phoenix_api_ErrOpen), ("phoenix/api.ErrSave", laid_phoenix_api_ErrSave), ("phoenix/api.ErrBusy", laid_phoenix_api_ErrBusy), ("phoenix/api.ErrLimit", laid_phoenix_api_ErrLimit), ("phoenix/api.ErrClosed", laid_phoenix_api_ErrClosed)], narrowed := true }
def ChangeSaysUptoSaid : Prop := changeSaysUptoRow.holds Tryd.pinned (OpenSpec.upto changeSaysSpec)

/-- 'phoenixlaw8.ChangeBack', WHERE WHAT IT READS IS OF BULK AT MOST 1048576: true; the input reads as it did. -/
def changeBackUptoRow : OpenClaim := { program := "ytmafogagkjafbaadoor", sum := "d69ed640c4d03fb3e3e13858261136b59a8bb9efb6dd86a4f84ee5a39a395cf5", func := "phoenix/phoenixlaw8.ChangeBack", spec := "changeBack", inPlace := ["slices.overlaps[phoenix/api.Entry]"], unfollowed := true, recurses := true, named := ["phoenix/api.ErrPage"], apart := false, laid := [("phoenix/api.ErrPage", laid_phoenix_api_ErrPage)], narrowed := true }
def ChangeBackUptoSaid : Prop := changeBackUptoRow.holds Tryd.pinned (OpenSpec.upto changeBackSpec)

/-- 'phoenixlaw8.ChangeRows', WHERE WHAT IT READS IS OF BULK AT MOST 1048576: true; the input reads as it did. -/
def changeRowsUptoRow : OpenClaim := { program := "ytmafogagkjafbaadoor", sum := "d69ed640c4d03fb3e3e13858261136b59a8bb9efb6dd86a4f84ee5a39a395cf5", func := "phoenix/phoenixlaw8.ChangeRows", spec := "changeRows", inPlace := ["slices.overlaps[phoenix/api.Entry]"], unfollowed := true, recurses := true, named := ["phoenix/api.ErrPage"], apart := false, laid := [("phoenix/api.ErrPage", laid_phoenix_api_ErrPage)], narrowed := true }
def ChangeRowsUptoSaid : Prop := changeRowsUptoRow.holds Tryd.pinned (OpenSpec.upto changeRowsSpec)

/-- 'phoenixlaw8.ChangeFull', WHERE WHAT IT READS IS OF BULK AT MOST 1048576: true; the input reads as it did. -/
def changeFullUptoRow : OpenClaim := { program := "ytmafogagkjafbaadoor", sum := "d69ed640c4d03fb3e3e13858261136b59a8bb9efb6dd86a4f84ee5a39a395cf5", func := "phoenix/phoenixlaw8.ChangeFull", spec := "changeFull", inPlace := ["slices.overlaps[phoenix/api.Entry]"], unfollowed := true, recurses := true, named := ["phoenix/api.ErrPage", "phoenix/api.ErrOff", "phoenix/api.ErrRange", "phoenix/api.ErrShort", "phoenix/api.ErrRec", "phoenix/api.ErrBlock", "phoenix/api.ErrMaster", "phoenix/api.ErrLog", "phoenix/api.ErrLogFull", "phoenix/api.ErrFull", "phoenix/api.ErrLocked", "phoenix/api.ErrDeadlock", "phoenix/api.ErrNoTxn", "phoenix/api.ErrOpen", "phoenix/api.ErrSave", "phoenix/api.ErrBusy", "phoenix/api.ErrLimit", "phoenix/api.ErrClosed"], apart := false, laid := [("phoenix/api.ErrOff", laid_phoenix_api_ErrOff), ("phoenix/api.ErrRange", laid_phoenix_api_ErrRange), ("phoenix/api.ErrShort", laid_phoenix_api_ErrShort), ("phoenix/api.ErrRec", laid_phoenix_api_ErrRec), ("phoenix/api.ErrBlock", laid_phoenix_api_ErrBlock), ("phoenix/api.ErrMaster", laid_phoenix_api_ErrMaster), ("phoenix/api.ErrPage", laid_phoenix_api_ErrPage), ("phoenix/api.ErrLog", laid_phoenix_api_ErrLog), ("phoenix/api.ErrLogFull", laid_phoenix_api_ErrLogFull), ("phoenix/api.ErrFull", laid_phoenix_api_ErrFull), ("phoenix/api.ErrLocked", laid_phoenix_api_ErrLocked), ("phoenix/api.ErrDeadlock", laid_phoenix_api_ErrDeadlock), ("phoenix/api.ErrNoTxn", laid_phoenix_api_ErrNoTxn), ("phoenix/api.ErrOpen", laid_phoenix_api_ErrOpen), ("phoenix/api.ErrSave", laid_phoenix_api_ErrSave), ("phoenix/api.ErrBusy", laid_phoenix_api_ErrBusy), ("phoenix/api.ErrLimit", laid_phoenix_api_ErrLimit), ("phoenix/api.ErrClosed", laid_phoenix_api_ErrClosed)], narrowed := true }
def ChangeFullUptoSaid : Prop := changeFullUptoRow.holds Tryd.pinned (OpenSpec.upto changeFullSpec)

/-- 'phoenixlaw8.ChangeApart', WHERE WHAT IT READS IS OF BULK AT MOST 1048576: true; the input reads as it did. -/
def changeApartUptoRow : OpenClaim := { program := "ytmafogagkjafbaadoor", sum := "d69ed640c4d03fb3e3e13858261136b59a8bb9efb6dd86a4f84ee5a39a395cf5", func := "phoenix/phoenixlaw8.ChangeApart", spec := "changeApart", inPlace := ["slices.overlaps[phoenix/api.Entry]"], unfollowed := true, recurses := true, named := ["phoenix/api.ErrPage"], apart := false, laid := [("phoenix/api.ErrPage", laid_phoenix_api_ErrPage)], narrowed := true }
def ChangeApartUptoSaid : Prop := changeApartUptoRow.holds Tryd.pinned (OpenSpec.upto changeApartSpec)

/-- 'phoenixlaw8.ChangeKinds', WHERE WHAT IT READS IS OF BULK AT MOST 1048576: true; the input reads as it did. -/
def changeKindsUptoRow : OpenClaim := { program := "ytmafogagkjafbaadoor", sum := "d69ed640c4d03fb3e3e13858261136b59a8bb9efb6dd86a4f84ee5a39a395cf5", func := "phoenix/phoenixlaw8.ChangeKinds", spec := "changeKinds", inPlace := ["slices.overlaps[phoenix/api.Entry]"], unfollowed := true, recurses := true, named := ["phoenix/api.ErrPage"], apart := false, laid := [("phoenix/api.ErrPage", laid_phoenix_api_ErrPage)], narrowed := true }
def ChangeKindsUptoSaid : Prop := changeKindsUptoRow.holds Tryd.pinned (OpenSpec.upto changeKindsSpec)

/-- 'phoenixlaw7.PageBounds', WHERE WHAT IT READS IS OF BULK AT MOST 1048576: true; the input reads as it did. -/
def pageBoundsUptoRow : OpenClaim := { program := "ytmafogagkjafbaadoor", sum := "d69ed640c4d03fb3e3e13858261136b59a8bb9efb6dd86a4f84ee5a39a395cf5", func := "phoenix/phoenixlaw7.PageBounds", spec := "pageBounds", inPlace := ["slices.overlaps[phoenix/api.Entry]"], unfollowed := true, recurses := true, named := ["phoenix/api.ErrShort", "phoenix/api.ErrPage", "phoenix/api.ErrRange", "phoenix/api.ErrOff", "phoenix/api.ErrRec", "phoenix/api.ErrBlock", "phoenix/api.ErrMaster", "phoenix/api.ErrLog", "phoenix/api.ErrLogFull", "phoenix/api.ErrFull", "phoenix/api.ErrLocked", "phoenix/api.ErrDeadlock", "phoenix/api.ErrNoTxn", "phoenix/api.ErrOpen", "phoenix/api.ErrSave", "phoenix/api.ErrBusy", "phoenix/api.ErrLimit", "phoenix/api.ErrClosed"], apart := false, laid := [("phoenix/api.ErrOff", laid_phoenix_api_ErrOff), ("phoenix/api.ErrRange", laid_phoenix_api_ErrRange), ("phoenix/api.ErrShort", laid_phoenix_api_ErrShort), ("phoenix/api.ErrRec", laid_phoenix_api_ErrRec), ("phoenix/api.ErrBlock", laid_phoenix_api_ErrBlock), ("phoenix/api.ErrMaster", laid_phoenix_api_ErrMaster), ("phoenix/api.ErrPage", laid_phoenix_api_ErrPage), ("phoenix/api.ErrLog", laid_phoenix_api_ErrLog), ("phoenix/api.ErrLogFull", laid_phoenix_api_ErrLogFull), ("phoenix/api.ErrFull", laid_phoenix_api_ErrFull), ("phoenix/api.ErrLocked", laid_phoenix_api_ErrLocked), ("phoenix/api.ErrDeadlock", laid_phoenix_api_ErrDeadlock), ("phoenix/api.ErrNoTxn", laid_phoenix_api_ErrNoTxn), ("phoenix/api.ErrOpen", laid_phoenix_api_ErrOpen), ("phoenix/api.ErrSave", laid_phoenix_api_ErrSave), ("phoenix/api.ErrBusy", laid_phoenix_api_ErrBusy), ("phoenix/api.ErrLimit", laid_phoenix_api_ErrLimit), ("phoenix/api.ErrClosed", laid_phoenix_api_ErrClosed)], narrowed := true }
def PageBoundsUptoSaid : Prop := pageBoundsUptoRow.holds Tryd.pinned (OpenSpec.upto pageBoundsSpec)

/-- 'phoenixlaw7.PageUnlike', WHERE WHAT IT READS IS OF BULK AT MOST 1048576: true; the input reads as it did. -/
def pageUnlikeUptoRow : OpenClaim := { program := "ytmafogagkjafbaadoor", sum := "d69ed640c4d03fb3e3e13858261136b59a8bb9efb6dd86a4f84ee5a39a395cf5", func := "phoenix/phoenixlaw7.PageUnlike", spec := "pageUnlike", inPlace := ["slices.overlaps[phoenix/api.Entry]"], unfollowed := true, recurses := true, named := ["phoenix/api.ErrShort", "phoenix/api.ErrPage", "phoenix/api.ErrRange", "phoenix/api.ErrOff", "phoenix/api.ErrRec", "phoenix/api.ErrBlock", "phoenix/api.ErrMaster", "phoenix/api.ErrLog", "phoenix/api.ErrLogFull", "phoenix/api.ErrFull", "phoenix/api.ErrLocked", "phoenix/api.ErrDeadlock", "phoenix/api.ErrNoTxn", "phoenix/api.ErrOpen", "phoenix/api.ErrSave", "phoenix/api.ErrBusy", "phoenix/api.ErrLimit", "phoenix/api.ErrClosed"], apart := false, laid := [("phoenix/api.ErrOff", laid_phoenix_api_ErrOff), ("phoenix/api.ErrRange", laid_phoenix_api_ErrRange), ("phoenix/api.ErrShort", laid_phoenix_api_ErrShort), ("phoenix/api.ErrRec", laid_phoenix_api_ErrRec), ("phoenix/api.ErrBlock", laid_phoenix_api_ErrBlock), ("phoenix/api.ErrMaster", laid_phoenix_api_ErrMaster), ("phoenix/api.ErrPage", laid_phoenix_api_ErrPage), ("phoenix/api.ErrLog", laid_phoenix_api_ErrLog), ("phoenix/api.ErrLogFull", laid_phoenix_api_ErrLogFull), ("phoenix/api.ErrFull", laid_phoenix_api_ErrFull), ("phoenix/api.ErrLocked", laid_phoenix_api_ErrLocked), ("phoenix/api.ErrDeadlock", laid_phoenix_api_ErrDeadlock), ("phoenix/api.ErrNoTxn", laid_phoenix_api_ErrNoTxn), ("phoenix/api.ErrOpen", laid_phoenix_api_ErrOpen), ("phoenix/api.ErrSave", laid_phoenix_api_ErrSave), ("phoenix/api.ErrBusy", laid_phoenix_api_ErrBusy), ("phoenix/api.ErrLimit", laid_phoenix_api_ErrLimit), ("phoenix/api.ErrClosed", laid_phoenix_api_ErrClosed)], narrowed := true }
def PageUnlikeUptoSaid : Prop := pageUnlikeUptoRow.holds Tryd.pinned (OpenSpec.upto pageUnlikeSpec)

/-- 'phoenixlaw7.PageOwn', WHERE WHAT IT READS IS OF BULK AT MOST 1048576: true; the input reads as it did. -/
def pageOwnUptoRow : OpenClaim := { program := "ytmafogagkjafbaadoor", sum := "d69ed640c4d03fb3e3e13858261136b59a8bb9efb6dd86a4f84ee5a39a395cf5", func := "phoenix/phoenixlaw7.PageOwn", spec := "pageOwn", inPlace := ["slices.overlaps[phoenix/api.Entry]"], unfollowed := true, recurses := true, named := ["phoenix/api.ErrShort", "phoenix/api.ErrPage", "phoenix/api.ErrRange"], apart := false, laid := [("phoenix/api.ErrRange", laid_phoenix_api_ErrRange), ("phoenix/api.ErrShort", laid_phoenix_api_ErrShort), ("phoenix/api.ErrPage", laid_phoenix_api_ErrPage)], narrowed := true }
def PageOwnUptoSaid : Prop := pageOwnUptoRow.holds Tryd.pinned (OpenSpec.upto pageOwnSpec)

/-- 'phoenixlaw7.PageSays', WHERE WHAT IT READS IS OF BULK AT MOST 1048576: true; the input reads as it did. -/
def pageSaysUptoRow : OpenClaim := { program := "ytmafogagkjafbaadoor", sum := "d69ed640c4d03fb3e3e13858261136b59a8bb9efb6dd86a4f84ee5a39a395cf5", func := "phoenix/phoenixlaw7.PageSays", spec := "pageSays", inPlace := ["slices.overlaps[phoenix/api.Entry]"], unfollowed := true, recurses := true, named := ["phoenix/api.ErrShort", "phoenix/api.ErrPage", "phoenix/api.ErrRange", "phoenix/api.ErrOff", "phoenix/api.ErrRec", "phoenix/api.ErrBlock", "phoenix/api.ErrMaster", "phoenix/api.ErrLog", "phoenix/api.ErrLogFull", "phoenix/api.ErrFull", "phoenix/api.ErrLocked", "phoenix/api.ErrDeadlock", "phoenix/api.ErrNoTxn", "phoenix/api.ErrOpen", "phoenix/api.ErrSave", "phoenix/api.ErrBusy", "phoenix/api.ErrLimit", "phoenix/api.ErrClosed"], apart := false, laid := [("phoenix/api.ErrOff", laid_phoenix_api_ErrOff), ("phoenix/api.ErrRange", laid_phoenix_api_ErrRange), ("phoenix/api.ErrShort", laid_phoenix_api_ErrShort), ("phoenix/api.ErrRec", laid_phoenix_api_ErrRec), ("phoenix/api.ErrBlock", laid_phoenix_api_ErrBlock), ("phoenix/api.ErrMaster", laid_phoenix_api_ErrMaster), ("phoenix/api.ErrPage", laid_phoenix_api_ErrPage), ("phoenix/api.ErrLog", laid_phoenix_api_ErrLog), ("phoenix/api.ErrLogFull", laid_phoenix_api_ErrLogFull), ("phoenix/api.ErrFull", laid_phoenix_api_ErrFull), ("phoenix/api.ErrLocked", laid_phoenix_api_ErrLocked), ("phoenix/api.ErrDeadlock", laid_phoenix_api_ErrDeadlock), ("phoenix/api.ErrNoTxn", laid_phoenix_api_ErrNoTxn), ("phoenix/api.ErrOpen", laid_phoenix_api_ErrOpen), ("phoenix/api.ErrSave", laid_phoenix_api_ErrSave), ("phoenix/api.ErrBusy", laid_phoenix_api_ErrBusy), ("phoenix/api.ErrLimit", laid_phoenix_api_ErrLimit), ("phoenix/api.ErrClosed", laid_phoenix_api_ErrClosed)], narrowed := true }
def PageSaysUptoSaid : Prop := pageSaysUptoRow.holds Tryd.pinned (OpenSpec.upto pageSaysSpec)

/-- 'phoenixlaw7.PageKeys', WHERE WHAT IT READS IS OF BULK AT MOST 1048576: true; the input reads as it did. -/
def pageKeysUptoRow : OpenClaim := { program := "ytmafogagkjafbaadoor", sum := "d69ed640c4d03fb3e3e13858261136b59a8bb9efb6dd86a4f84ee5a39a395cf5", func := "phoenix/phoenixlaw7.PageKeys", spec := "pageKeys", inPlace := ["slices.overlaps[phoenix/api.Entry]"], unfollowed := true, recurses := true, named := ["phoenix/api.ErrShort", "phoenix/api.ErrPage", "phoenix/api.ErrRange"], apart := false, laid := [("phoenix/api.ErrRange", laid_phoenix_api_ErrRange), ("phoenix/api.ErrShort", laid_phoenix_api_ErrShort), ("phoenix/api.ErrPage", laid_phoenix_api_ErrPage)], narrowed := true }
def PageKeysUptoSaid : Prop := pageKeysUptoRow.holds Tryd.pinned (OpenSpec.upto pageKeysSpec)

end Rows
end Go.Proofs.YtmafogagkjafbaaDoor
