/-
  No cell of these rows narrows 'for every input' (looked for: loops, veiled, ifaces, maps, wideKeys, modest, calm, conditions, laid).
  DERIVED. THE GIVEN ROWS OF THIS SEAT. 9 by the template 'for every input the law returns true; each argument reads behind the call as it read before'; 0 by the template 'total and deterministic' (their statements: YtmaknknldegmhaaTotals.lean).
  GIVEN WITH THE SEED: the statements are not yours to turn. If you find one false, say at which input.
  Laid BY PROGRAM, IN A SANDBOX (cutbox-rows.mjs): the forced cells as the released guide's own fill.sh prints them over the translation f60c69b94b643d77… (all of the seat's roots in one cut). By AI agents, Wed Nov 11 2026. No macro, syntax, notation, axiom, sorry.
-/
import Derived.Test.YtmaknknldegmhaaChecked
import GoSem.Claim
import GoSem.ClaimJoined
import GoSem.ClaimMapViews
import Derived.JoinedTies
import Derived.KernelRfl
namespace Go.Proofs.Ytmaknknldegmhaa
/- THE CELL 'sum', in the pinned program and in every row, IS THE sha256 OF THE DUMP (.gsa) THAT YtmaknknldegmhaaProg.lean LOADS. Nothing in Lean hashes anything: it is a label: what it is worth is what the hold of that sum in a sandbox is worth. -/
noncomputable def Try.pinned : Pinned := { name := "ytmaknknldegmhaa", sum := "f60c69b94b643d77bcc534553839c17b68d1b6fc5ed90e38546166772f225603", checked := Try.checked }
namespace Rows
def none {H : Type} : Left H := { results := [], args := [] }

/-- 'phoenixlaw10.DirtyOwn': WHATEVER THE INPUT: true; the input reads as it did. -/
def dirtyOwnSpec : ChangeSpec := { name := "dirtyOwn", fn := fun _ => fun
  | [d] => { results := [.lit (.bool true)], args := [d] }
  | _ => none }
def dirtyOwnRow : OpenClaim := { program := "ytmaknknldegmhaa", sum := "f60c69b94b643d77bcc534553839c17b68d1b6fc5ed90e38546166772f225603", func := "phoenix/phoenixlaw10.DirtyOwn", spec := "dirtyOwn", inPlace := ["slices.overlaps[phoenix/api.Dirty]"], unfollowed := true, recurses := true, apart := false }
def DirtyOwnSaid : Prop := dirtyOwnRow.holds Try.pinned (OpenSpec.ofChange dirtyOwnSpec)

/-- ITS FALSE NEIGHBOUR: 'it returns false'. Refute it at one input. -/
def dirtyOwnWrong : ChangeSpec := { name := "dirtyOwn", fn := fun _ => fun
  | [d] => { results := [.lit (.bool false)], args := [d] }
  | _ => none }
def DirtyOwnWrongFalsely : Prop := dirtyOwnRow.holds Try.pinned (OpenSpec.ofChange dirtyOwnWrong)

/-- 'phoenixlaw14.TransSeen': WHATEVER THE INPUT: true; the input reads as it did. -/
def transSeenSpec : ChangeSpec := { name := "transSeen", fn := fun _ => fun
  | [d] => { results := [.lit (.bool true)], args := [d] }
  | _ => none }
def transSeenRow : OpenClaim := { program := "ytmaknknldegmhaa", sum := "f60c69b94b643d77bcc534553839c17b68d1b6fc5ed90e38546166772f225603", func := "phoenix/phoenixlaw14.TransSeen", spec := "transSeen", inPlace := ["slices.overlaps[phoenix/api.Txn]"], unfollowed := true, recurses := true, apart := false }
def TransSeenSaid : Prop := transSeenRow.holds Try.pinned (OpenSpec.ofChange transSeenSpec)

/-- ITS FALSE NEIGHBOUR: 'it returns false'. Refute it at one input. -/
def transSeenWrong : ChangeSpec := { name := "transSeen", fn := fun _ => fun
  | [d] => { results := [.lit (.bool false)], args := [d] }
  | _ => none }
def TransSeenWrongFalsely : Prop := transSeenRow.holds Try.pinned (OpenSpec.ofChange transSeenWrong)

/-- 'phoenixlaw14.TransStates': WHATEVER THE INPUT: true; the input reads as it did. -/
def transStatesSpec : ChangeSpec := { name := "transStates", fn := fun _ => fun
  | [d1, d2, d3, d4] => { results := [.lit (.bool true)], args := [d1, d2, d3, d4] }
  | _ => none }
def transStatesRow : OpenClaim := { program := "ytmaknknldegmhaa", sum := "f60c69b94b643d77bcc534553839c17b68d1b6fc5ed90e38546166772f225603", func := "phoenix/phoenixlaw14.TransStates", spec := "transStates", inPlace := ["slices.overlaps[phoenix/api.Txn]"], unfollowed := true, recurses := true, apart := false }
def TransStatesSaid : Prop := transStatesRow.holds Try.pinned (OpenSpec.ofChange transStatesSpec)

/-- ITS FALSE NEIGHBOUR: 'it returns false'. Refute it at one input. -/
def transStatesWrong : ChangeSpec := { name := "transStates", fn := fun _ => fun
  | [d1, d2, d3, d4] => { results := [.lit (.bool false)], args := [d1, d2, d3, d4] }
  | _ => none }
def TransStatesWrongFalsely : Prop := transStatesRow.holds Try.pinned (OpenSpec.ofChange transStatesWrong)

/-- 'phoenixlaw14.TransNumbers': WHATEVER THE INPUT: true; the input reads as it did. -/
def transNumbersSpec : ChangeSpec := { name := "transNumbers", fn := fun _ => fun
  | [d1, d2] => { results := [.lit (.bool true)], args := [d1, d2] }
  | _ => none }
def transNumbersRow : OpenClaim := { program := "ytmaknknldegmhaa", sum := "f60c69b94b643d77bcc534553839c17b68d1b6fc5ed90e38546166772f225603", func := "phoenix/phoenixlaw14.TransNumbers", spec := "transNumbers", inPlace := ["slices.overlaps[phoenix/api.Txn]"], unfollowed := true, recurses := true, apart := false }
def TransNumbersSaid : Prop := transNumbersRow.holds Try.pinned (OpenSpec.ofChange transNumbersSpec)

/-- ITS FALSE NEIGHBOUR: 'it returns false'. Refute it at one input. -/
def transNumbersWrong : ChangeSpec := { name := "transNumbers", fn := fun _ => fun
  | [d1, d2] => { results := [.lit (.bool false)], args := [d1, d2] }
  | _ => none }
def TransNumbersWrongFalsely : Prop := transNumbersRow.holds Try.pinned (OpenSpec.ofChange transNumbersWrong)

/-- 'phoenixlaw10.DirtyPlays': WHATEVER THE INPUT: true; the input reads as it did. -/
def dirtyPlaysSpec : ChangeSpec := { name := "dirtyPlays", fn := fun _ => fun
  | [d] => { results := [.lit (.bool true)], args := [d] }
  | _ => none }
def dirtyPlaysRow : OpenClaim := { program := "ytmaknknldegmhaa", sum := "f60c69b94b643d77bcc534553839c17b68d1b6fc5ed90e38546166772f225603", func := "phoenix/phoenixlaw10.DirtyPlays", spec := "dirtyPlays", inPlace := ["slices.overlaps[phoenix/api.Dirty]"], unfollowed := true, recurses := true, apart := false }
def DirtyPlaysSaid : Prop := dirtyPlaysRow.holds Try.pinned (OpenSpec.ofChange dirtyPlaysSpec)

/-- ITS FALSE NEIGHBOUR: 'it returns false'. Refute it at one input. -/
def dirtyPlaysWrong : ChangeSpec := { name := "dirtyPlays", fn := fun _ => fun
  | [d] => { results := [.lit (.bool false)], args := [d] }
  | _ => none }
def DirtyPlaysWrongFalsely : Prop := dirtyPlaysRow.holds Try.pinned (OpenSpec.ofChange dirtyPlaysWrong)

/-- 'phoenixlaw10.DirtyFirst': WHATEVER THE INPUT: true; the input reads as it did. -/
def dirtyFirstSpec : ChangeSpec := { name := "dirtyFirst", fn := fun _ => fun
  | [d1, d2] => { results := [.lit (.bool true)], args := [d1, d2] }
  | _ => none }
def dirtyFirstRow : OpenClaim := { program := "ytmaknknldegmhaa", sum := "f60c69b94b643d77bcc534553839c17b68d1b6fc5ed90e38546166772f225603", func := "phoenix/phoenixlaw10.DirtyFirst", spec := "dirtyFirst", inPlace := ["slices.overlaps[phoenix/api.Dirty]"], unfollowed := true, recurses := true, apart := false }
def DirtyFirstSaid : Prop := dirtyFirstRow.holds Try.pinned (OpenSpec.ofChange dirtyFirstSpec)

/-- ITS FALSE NEIGHBOUR: 'it returns false'. Refute it at one input. -/
def dirtyFirstWrong : ChangeSpec := { name := "dirtyFirst", fn := fun _ => fun
  | [d1, d2] => { results := [.lit (.bool false)], args := [d1, d2] }
  | _ => none }
def DirtyFirstWrongFalsely : Prop := dirtyFirstRow.holds Try.pinned (OpenSpec.ofChange dirtyFirstWrong)

/-- 'phoenixlaw10.DirtyLeast': WHATEVER THE INPUT: true; the input reads as it did. -/
def dirtyLeastSpec : ChangeSpec := { name := "dirtyLeast", fn := fun _ => fun
  | [d1, d2] => { results := [.lit (.bool true)], args := [d1, d2] }
  | _ => none }
def dirtyLeastRow : OpenClaim := { program := "ytmaknknldegmhaa", sum := "f60c69b94b643d77bcc534553839c17b68d1b6fc5ed90e38546166772f225603", func := "phoenix/phoenixlaw10.DirtyLeast", spec := "dirtyLeast", inPlace := ["slices.overlaps[phoenix/api.Dirty]"], unfollowed := true, recurses := true, apart := false }
def DirtyLeastSaid : Prop := dirtyLeastRow.holds Try.pinned (OpenSpec.ofChange dirtyLeastSpec)

/-- ITS FALSE NEIGHBOUR: 'it returns false'. Refute it at one input. -/
def dirtyLeastWrong : ChangeSpec := { name := "dirtyLeast", fn := fun _ => fun
  | [d1, d2] => { results := [.lit (.bool false)], args := [d1, d2] }
  | _ => none }
def DirtyLeastWrongFalsely : Prop := dirtyLeastRow.holds Try.pinned (OpenSpec.ofChange dirtyLeastWrong)

/-- 'phoenixlaw14.TransAll': WHATEVER THE INPUT: true; the input reads as it did. -/
def transAllSpec : ChangeSpec := { name := "transAll", fn := fun _ => fun
  | [d1, d2] => { results := [.lit (.bool true)], args := [d1, d2] }
  | _ => none }
def transAllRow : OpenClaim := { program := "ytmaknknldegmhaa", sum := "f60c69b94b643d77bcc534553839c17b68d1b6fc5ed90e38546166772f225603", func := "phoenix/phoenixlaw14.TransAll", spec := "transAll", inPlace := ["slices.overlaps[phoenix/api.Txn]"], unfollowed := true, recurses := true, apart := false }
def TransAllSaid : Prop := transAllRow.holds Try.pinned (OpenSpec.ofChange transAllSpec)

/-- ITS FALSE NEIGHBOUR: 'it returns false'. Refute it at one input. -/
def transAllWrong : ChangeSpec := { name := "transAll", fn := fun _ => fun
  | [d1, d2] => { results := [.lit (.bool false)], args := [d1, d2] }
  | _ => none }
def TransAllWrongFalsely : Prop := transAllRow.holds Try.pinned (OpenSpec.ofChange transAllWrong)

/-- 'phoenixlaw14.TransPlays': WHATEVER THE INPUT: true; the input reads as it did. -/
def transPlaysSpec : ChangeSpec := { name := "transPlays", fn := fun _ => fun
  | [d] => { results := [.lit (.bool true)], args := [d] }
  | _ => none }
def transPlaysRow : OpenClaim := { program := "ytmaknknldegmhaa", sum := "f60c69b94b643d77bcc534553839c17b68d1b6fc5ed90e38546166772f225603", func := "phoenix/phoenixlaw14.TransPlays", spec := "transPlays", inPlace := ["slices.overlaps[phoenix/api.Txn]"], unfollowed := true, recurses := true, apart := false }
def TransPlaysSaid : Prop := transPlaysRow.holds Try.pinned (OpenSpec.ofChange transPlaysSpec)

/-- ITS FALSE NEIGHBOUR: 'it returns false'. Refute it at one input. -/
def transPlaysWrong : ChangeSpec := { name := "transPlays", fn := fun _ => fun
  | [d] => { results := [.lit (.bool false)], args := [d] }
  | _ => none }
def TransPlaysWrongFalsely : Prop := transPlaysRow.holds Try.pinned (OpenSpec.ofChange transPlaysWrong)

/- THE SECOND FORM. 'bulk': how many values and letters a reading holds, each counted each time it is reached (what is shared counts as often as it is met; a slice's spare places count too). A statement '..UptoSaid' is the law's where the arguments, and the package variables that the reading takes, are together of bulk at most 1048576: NARROWER than '..Said'. Prove '..Said' where nothing that the law and all that it calls make is longer than what came in: it says more and counts as full. Else prove '..UptoSaid'. A law counts once. -/
mutual
def uptoBulk {H : Type} : DataW H → Nat
  | .lit (.string bytes) => bytes.length + 1
  | .lit _ => 1
  | .nil => 1
  | .ptr d => uptoBulk d + 1
  | .slice elems spare => uptoBulkAll elems + uptoBulkAll spare + 1
  | .agg parts => uptoBulkAll parts + 1
  | .iface _ d => uptoBulk d + 1
  | .map entries => uptoBulkEntries entries + 1
  | .held _ => 1
def uptoBulkAll {H : Type} : List (DataW H) → Nat
  | [] => 0
  | d :: r => uptoBulk d + uptoBulkAll r
def uptoBulkEntries {H : Type} : List (Lit × DataW H) → Nat
  | [] => 0
  | x :: r => uptoBulkEntry x + uptoBulkEntries r
def uptoBulkEntry {H : Type} : Lit × DataW H → Nat
  | (.string bytes, d) => bytes.length + uptoBulk d + 1
  | (_, d) => uptoBulk d + 1
 end
def uptoSmall : (H : Type) → List (DataW H) → Bool := fun _ ds => decide (uptoBulkAll ds ≤ 1048576)
def OpenSpec.upto (s : _root_.Go.ChangeSpec) : _root_.Go.OpenSpec := { _root_.Go.OpenSpec.ofChange s with cond := some uptoSmall }

/-- 'phoenixlaw10.DirtyOwn', WHERE WHAT IT READS IS OF BULK AT MOST 1048576: true; the input reads as it did. -/
def dirtyOwnUptoRow : OpenClaim := { program := "ytmaknknldegmhaa", sum := "f60c69b94b643d77bcc534553839c17b68d1b6fc5ed90e38546166772f225603", func := "phoenix/phoenixlaw10.DirtyOwn", spec := "dirtyOwn", inPlace := ["slices.overlaps[phoenix/api.Dirty]"], unfollowed := true, recurses := true, apart := false, narrowed := true }
def DirtyOwnUptoSaid : Prop := dirtyOwnUptoRow.holds Try.pinned (OpenSpec.upto dirtyOwnSpec)

/-- 'phoenixlaw14.TransSeen', WHERE WHAT IT READS IS OF BULK AT MOST 1048576: true; the input reads as it did. -/
def transSeenUptoRow : OpenClaim := { program := "ytmaknknldegmhaa", sum := "f60c69b94b643d77bcc534553839c17b68d1b6fc5ed90e38546166772f225603", func := "phoenix/phoenixlaw14.TransSeen", spec := "transSeen", inPlace := ["slices.overlaps[phoenix/api.Txn]"], unfollowed := true, recurses := true, apart := false, narrowed := true }
def TransSeenUptoSaid : Prop := transSeenUptoRow.holds Try.pinned (OpenSpec.upto transSeenSpec)

/-- 'phoenixlaw14.TransStates', WHERE WHAT IT READS IS OF BULK AT MOST 1048576: true; the input reads as it did. -/
def transStatesUptoRow : OpenClaim := { program := "ytmaknknldegmhaa", sum := "f60c69b94b643d77bcc534553839c17b68d1b6fc5ed90e38546166772f225603", func := "phoenix/phoenixlaw14.TransStates", spec := "transStates", inPlace := ["slices.overlaps[phoenix/api.Txn]"], unfollowed := true, recurses := true, apart := false, narrowed := true }
def TransStatesUptoSaid : Prop := transStatesUptoRow.holds Try.pinned (OpenSpec.upto transStatesSpec)

/-- 'phoenixlaw14.TransNumbers', WHERE WHAT IT READS IS OF BULK AT MOST 1048576: true; the input reads as it did. -/
def transNumbersUptoRow : OpenClaim := { program := "ytmaknknldegmhaa", sum := "f60c69b94b643d77bcc534553839c17b68d1b6fc5ed90e38546166772f225603", func := "phoenix/phoenixlaw14.TransNumbers", spec := "transNumbers", inPlace := ["slices.overlaps[phoenix/api.Txn]"], unfollowed := true, recurses := true, apart := false, narrowed := true }
def TransNumbersUptoSaid : Prop := transNumbersUptoRow.holds Try.pinned (OpenSpec.upto transNumbersSpec)

/-- 'phoenixlaw10.DirtyPlays', WHERE WHAT IT READS IS OF BULK AT MOST 1048576: true; the input reads as it did. -/
def dirtyPlaysUptoRow : OpenClaim := { program := "ytmaknknldegmhaa", sum := "f60c69b94b643d77bcc534553839c17b68d1b6fc5ed90e38546166772f225603", func := "phoenix/phoenixlaw10.DirtyPlays", spec := "dirtyPlays", inPlace := ["slices.overlaps[phoenix/api.Dirty]"], unfollowed := true, recurses := true, apart := false, narrowed := true }
def DirtyPlaysUptoSaid : Prop := dirtyPlaysUptoRow.holds Try.pinned (OpenSpec.upto dirtyPlaysSpec)

/-- 'phoenixlaw10.DirtyFirst', WHERE WHAT IT READS IS OF BULK AT MOST 1048576: true; the input reads as it did. -/
def dirtyFirstUptoRow : OpenClaim := { program := "ytmaknknldegmhaa", sum := "f60c69b94b643d77bcc534553839c17b68d1b6fc5ed90e38546166772f225603", func := "phoenix/phoenixlaw10.DirtyFirst", spec := "dirtyFirst", inPlace := ["slices.overlaps[phoenix/api.Dirty]"], unfollowed := true, recurses := true, apart := false, narrowed := true }
def DirtyFirstUptoSaid : Prop := dirtyFirstUptoRow.holds Try.pinned (OpenSpec.upto dirtyFirstSpec)

/-- 'phoenixlaw10.DirtyLeast', WHERE WHAT IT READS IS OF BULK AT MOST 1048576: true; the input reads as it did. -/
def dirtyLeastUptoRow : OpenClaim := { program := "ytmaknknldegmhaa", sum := "f60c69b94b643d77bcc534553839c17b68d1b6fc5ed90e38546166772f225603", func := "phoenix/phoenixlaw10.DirtyLeast", spec := "dirtyLeast", inPlace := ["slices.overlaps[phoenix/api.Dirty]"], unfollowed := true, recurses := true, apart := false, narrowed := true }
def DirtyLeastUptoSaid : Prop := dirtyLeastUptoRow.holds Try.pinned (OpenSpec.upto dirtyLeastSpec)

/-- 'phoenixlaw14.TransAll', WHERE WHAT IT READS IS OF BULK AT MOST 1048576: true; the input reads as it did. -/
def transAllUptoRow : OpenClaim := { program := "ytmaknknldegmhaa", sum := "f60c69b94b643d77bcc534553839c17b68d1b6fc5ed90e38546166772f225603", func := "phoenix/phoenixlaw14.TransAll", spec := "transAll", inPlace := ["slices.overlaps[phoenix/api.Txn]"], unfollowed := true, recurses := true, apart := false, narrowed := true }
def TransAllUptoSaid : Prop := transAllUptoRow.holds Try.pinned (OpenSpec.upto transAllSpec)

/-- 'phoenixlaw14.TransPlays', WHERE WHAT IT READS IS OF BULK AT MOST 1048576: true; the input reads as it did. -/
def transPlaysUptoRow : OpenClaim := { program := "ytmaknknldegmhaa", sum := "f60c69b94b643d77bcc534553839c17b68d1b6fc5ed90e38546166772f225603", func := "phoenix/phoenixlaw14.TransPlays", spec := "transPlays", inPlace := ["slices.overlaps[phoenix/api.Txn]"], unfollowed := true, recurses := true, apart := false, narrowed := true }
def TransPlaysUptoSaid : Prop := transPlaysUptoRow.holds Try.pinned (OpenSpec.upto transPlaysSpec)

end Rows
end Go.Proofs.Ytmaknknldegmhaa
