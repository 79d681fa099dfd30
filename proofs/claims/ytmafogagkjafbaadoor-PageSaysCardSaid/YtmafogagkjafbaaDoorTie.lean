/-
  DERIVED. GIVEN WITH THE SEED: THE PROGRAM's TIES (one call each: nine closed facts by the kernel) AND EACH ROW's TIE, after the 31st guide's Derived/Test/Toyas{Tie, Card}.lean. No idea stands in it: it is a product of the set-up. Laid BY PROGRAM, IN A SANDBOX (cutbox-door.mjs). By AI agents, Wed Nov 11 2026. No macro, syntax, notation, axiom, sorry.
-/
import Derived.Test.YtmafogagkjafbaaDoorRows
import Derived.LaidByTextLater
import Derived.SevenTiedAt
import Derived.LaidSub
import Derived.LaidOnce
namespace Go.Proofs.YtmafogagkjafbaaDoor
open Go
set_option maxRecDepth 100000
theorem seatTie1 : Tryd.prog.laidByTextLater [("phoenix/api.ErrOff", Rows.laid_phoenix_api_ErrOff), ("phoenix/api.ErrRange", Rows.laid_phoenix_api_ErrRange), ("phoenix/api.ErrShort", Rows.laid_phoenix_api_ErrShort), ("phoenix/api.ErrRec", Rows.laid_phoenix_api_ErrRec), ("phoenix/api.ErrBlock", Rows.laid_phoenix_api_ErrBlock), ("phoenix/api.ErrMaster", Rows.laid_phoenix_api_ErrMaster), ("phoenix/api.ErrPage", Rows.laid_phoenix_api_ErrPage), ("phoenix/api.ErrLog", Rows.laid_phoenix_api_ErrLog), ("phoenix/api.ErrLogFull", Rows.laid_phoenix_api_ErrLogFull), ("phoenix/api.ErrFull", Rows.laid_phoenix_api_ErrFull), ("phoenix/api.ErrLocked", Rows.laid_phoenix_api_ErrLocked), ("phoenix/api.ErrDeadlock", Rows.laid_phoenix_api_ErrDeadlock), ("phoenix/api.ErrNoTxn", Rows.laid_phoenix_api_ErrNoTxn), ("phoenix/api.ErrOpen", Rows.laid_phoenix_api_ErrOpen), ("phoenix/api.ErrSave", Rows.laid_phoenix_api_ErrSave), ("phoenix/api.ErrBusy", Rows.laid_phoenix_api_ErrBusy), ("phoenix/api.ErrLimit", Rows.laid_phoenix_api_ErrLimit), ("phoenix/api.ErrClosed", Rows.laid_phoenix_api_ErrClosed)] [.sentinel, .sentinel, .sentinel, .sentinel, .sentinel, .sentinel, .sentinel, .sentinel, .sentinel, .sentinel, .sentinel, .sentinel, .sentinel, .sentinel, .sentinel, .sentinel, .sentinel, .sentinel] true :=
  Program.laidByTextLater_by_one 351 8 2 (by kernel_rfl) (by kernel_rfl) (by kernel_rfl) (by kernel_rfl) (by kernel_rfl) (by kernel_rfl) (fun _ _ => by kernel_rfl)
theorem noOwnUnsafe : Tryd.pinned.checked.prog.headLifts.contains "ownunsafe" = false := by kernel_rfl
theorem tie : Tryd.prog.laidByTextLater [("phoenix/api.ErrOff", Rows.laid_phoenix_api_ErrOff), ("phoenix/api.ErrRange", Rows.laid_phoenix_api_ErrRange), ("phoenix/api.ErrShort", Rows.laid_phoenix_api_ErrShort), ("phoenix/api.ErrRec", Rows.laid_phoenix_api_ErrRec), ("phoenix/api.ErrBlock", Rows.laid_phoenix_api_ErrBlock), ("phoenix/api.ErrMaster", Rows.laid_phoenix_api_ErrMaster), ("phoenix/api.ErrPage", Rows.laid_phoenix_api_ErrPage), ("phoenix/api.ErrLog", Rows.laid_phoenix_api_ErrLog), ("phoenix/api.ErrLogFull", Rows.laid_phoenix_api_ErrLogFull), ("phoenix/api.ErrFull", Rows.laid_phoenix_api_ErrFull), ("phoenix/api.ErrLocked", Rows.laid_phoenix_api_ErrLocked), ("phoenix/api.ErrDeadlock", Rows.laid_phoenix_api_ErrDeadlock), ("phoenix/api.ErrNoTxn", Rows.laid_phoenix_api_ErrNoTxn), ("phoenix/api.ErrOpen", Rows.laid_phoenix_api_ErrOpen), ("phoenix/api.ErrSave", Rows.laid_phoenix_api_ErrSave), ("phoenix/api.ErrBusy", Rows.laid_phoenix_api_ErrBusy), ("phoenix/api.ErrLimit", Rows.laid_phoenix_api_ErrLimit), ("phoenix/api.ErrClosed", Rows.laid_phoenix_api_ErrClosed)] [.sentinel, .sentinel, .sentinel, .sentinel, .sentinel, .sentinel, .sentinel, .sentinel, .sentinel, .sentinel, .sentinel, .sentinel, .sentinel, .sentinel, .sentinel, .sentinel, .sentinel, .sentinel] true :=
  Program.laidByTextLater.sub seatTie1 ["phoenix/api.ErrOff", "phoenix/api.ErrRange", "phoenix/api.ErrShort", "phoenix/api.ErrRec", "phoenix/api.ErrBlock", "phoenix/api.ErrMaster", "phoenix/api.ErrPage", "phoenix/api.ErrLog", "phoenix/api.ErrLogFull", "phoenix/api.ErrFull", "phoenix/api.ErrLocked", "phoenix/api.ErrDeadlock", "phoenix/api.ErrNoTxn", "phoenix/api.ErrOpen", "phoenix/api.ErrSave", "phoenix/api.ErrBusy", "phoenix/api.ErrLimit", "phoenix/api.ErrClosed"] (by kernel_rfl) (by kernel_rfl)
theorem changeSays_row_tie : Rows.changeSaysRow.laidByTextAt .later Tryd.pinned [.sentinel, .sentinel, .sentinel, .sentinel, .sentinel, .sentinel, .sentinel, .sentinel, .sentinel, .sentinel, .sentinel, .sentinel, .sentinel, .sentinel, .sentinel, .sentinel, .sentinel, .sentinel] true :=
  OpenClaim.laidByTextAt_later rfl rfl tie noOwnUnsafe
theorem changeFull_row_tie : Rows.changeFullRow.laidByTextAt .later Tryd.pinned [.sentinel, .sentinel, .sentinel, .sentinel, .sentinel, .sentinel, .sentinel, .sentinel, .sentinel, .sentinel, .sentinel, .sentinel, .sentinel, .sentinel, .sentinel, .sentinel, .sentinel, .sentinel] true :=
  OpenClaim.laidByTextAt_later rfl rfl tie noOwnUnsafe
theorem pageBounds_row_tie : Rows.pageBoundsRow.laidByTextAt .later Tryd.pinned [.sentinel, .sentinel, .sentinel, .sentinel, .sentinel, .sentinel, .sentinel, .sentinel, .sentinel, .sentinel, .sentinel, .sentinel, .sentinel, .sentinel, .sentinel, .sentinel, .sentinel, .sentinel] true :=
  OpenClaim.laidByTextAt_later rfl rfl tie noOwnUnsafe
theorem pageUnlike_row_tie : Rows.pageUnlikeRow.laidByTextAt .later Tryd.pinned [.sentinel, .sentinel, .sentinel, .sentinel, .sentinel, .sentinel, .sentinel, .sentinel, .sentinel, .sentinel, .sentinel, .sentinel, .sentinel, .sentinel, .sentinel, .sentinel, .sentinel, .sentinel] true :=
  OpenClaim.laidByTextAt_later rfl rfl tie noOwnUnsafe
theorem pageSays_row_tie : Rows.pageSaysRow.laidByTextAt .later Tryd.pinned [.sentinel, .sentinel, .sentinel, .sentinel, .sentinel, .sentinel, .sentinel, .sentinel, .sentinel, .sentinel, .sentinel, .sentinel, .sentinel, .sentinel, .sentinel, .sentinel, .sentinel, .sentinel] true :=
  OpenClaim.laidByTextAt_later rfl rfl tie noOwnUnsafe
theorem tie2 : Tryd.prog.laidByTextLater [("phoenix/api.ErrPage", Rows.laid_phoenix_api_ErrPage)] [.sentinel] true :=
  Program.laidByTextLater.sub seatTie1 ["phoenix/api.ErrPage"] (by kernel_rfl) (by kernel_rfl)
theorem changeBack_row_tie : Rows.changeBackRow.laidByTextAt .later Tryd.pinned [.sentinel] true :=
  OpenClaim.laidByTextAt_later rfl rfl tie2 noOwnUnsafe
theorem changeRows_row_tie : Rows.changeRowsRow.laidByTextAt .later Tryd.pinned [.sentinel] true :=
  OpenClaim.laidByTextAt_later rfl rfl tie2 noOwnUnsafe
theorem changeApart_row_tie : Rows.changeApartRow.laidByTextAt .later Tryd.pinned [.sentinel] true :=
  OpenClaim.laidByTextAt_later rfl rfl tie2 noOwnUnsafe
theorem changeKinds_row_tie : Rows.changeKindsRow.laidByTextAt .later Tryd.pinned [.sentinel] true :=
  OpenClaim.laidByTextAt_later rfl rfl tie2 noOwnUnsafe
theorem tie3 : Tryd.prog.laidByTextLater [("phoenix/api.ErrRange", Rows.laid_phoenix_api_ErrRange), ("phoenix/api.ErrShort", Rows.laid_phoenix_api_ErrShort), ("phoenix/api.ErrPage", Rows.laid_phoenix_api_ErrPage)] [.sentinel, .sentinel, .sentinel] true :=
  Program.laidByTextLater.sub seatTie1 ["phoenix/api.ErrRange", "phoenix/api.ErrShort", "phoenix/api.ErrPage"] (by kernel_rfl) (by kernel_rfl)
theorem pageOwn_row_tie : Rows.pageOwnRow.laidByTextAt .later Tryd.pinned [.sentinel, .sentinel, .sentinel] true :=
  OpenClaim.laidByTextAt_later rfl rfl tie3 noOwnUnsafe
theorem pageKeys_row_tie : Rows.pageKeysRow.laidByTextAt .later Tryd.pinned [.sentinel, .sentinel, .sentinel] true :=
  OpenClaim.laidByTextAt_later rfl rfl tie3 noOwnUnsafe
theorem changeSaysUpto_row_tie : Rows.changeSaysUptoRow.laidByTextAt .later Tryd.pinned [.sentinel, .sentinel, .sentinel, .sentinel, .sentinel, .sentinel, .sentinel, .sentinel, .sentinel, .sentinel, .sentinel, .sentinel, .sentinel, .sentinel, .sentinel, .sentinel, .sentinel, .sentinel] true :=
  OpenClaim.laidByTextAt_later rfl rfl tie noOwnUnsafe
theorem changeBackUpto_row_tie : Rows.changeBackUptoRow.laidByTextAt .later Tryd.pinned [.sentinel] true :=
  OpenClaim.laidByTextAt_later rfl rfl tie2 noOwnUnsafe
theorem changeRowsUpto_row_tie : Rows.changeRowsUptoRow.laidByTextAt .later Tryd.pinned [.sentinel] true :=
  OpenClaim.laidByTextAt_later rfl rfl tie2 noOwnUnsafe
theorem changeFullUpto_row_tie : Rows.changeFullUptoRow.laidByTextAt .later Tryd.pinned [.sentinel, .sentinel, .sentinel, .sentinel, .sentinel, .sentinel, .sentinel, .sentinel, .sentinel, .sentinel, .sentinel, .sentinel, .sentinel, .sentinel, .sentinel, .sentinel, .sentinel, .sentinel] true :=
  OpenClaim.laidByTextAt_later rfl rfl tie noOwnUnsafe
theorem changeApartUpto_row_tie : Rows.changeApartUptoRow.laidByTextAt .later Tryd.pinned [.sentinel] true :=
  OpenClaim.laidByTextAt_later rfl rfl tie2 noOwnUnsafe
theorem changeKindsUpto_row_tie : Rows.changeKindsUptoRow.laidByTextAt .later Tryd.pinned [.sentinel] true :=
  OpenClaim.laidByTextAt_later rfl rfl tie2 noOwnUnsafe
theorem pageBoundsUpto_row_tie : Rows.pageBoundsUptoRow.laidByTextAt .later Tryd.pinned [.sentinel, .sentinel, .sentinel, .sentinel, .sentinel, .sentinel, .sentinel, .sentinel, .sentinel, .sentinel, .sentinel, .sentinel, .sentinel, .sentinel, .sentinel, .sentinel, .sentinel, .sentinel] true :=
  OpenClaim.laidByTextAt_later rfl rfl tie noOwnUnsafe
theorem pageUnlikeUpto_row_tie : Rows.pageUnlikeUptoRow.laidByTextAt .later Tryd.pinned [.sentinel, .sentinel, .sentinel, .sentinel, .sentinel, .sentinel, .sentinel, .sentinel, .sentinel, .sentinel, .sentinel, .sentinel, .sentinel, .sentinel, .sentinel, .sentinel, .sentinel, .sentinel] true :=
  OpenClaim.laidByTextAt_later rfl rfl tie noOwnUnsafe
theorem pageOwnUpto_row_tie : Rows.pageOwnUptoRow.laidByTextAt .later Tryd.pinned [.sentinel, .sentinel, .sentinel] true :=
  OpenClaim.laidByTextAt_later rfl rfl tie3 noOwnUnsafe
theorem pageSaysUpto_row_tie : Rows.pageSaysUptoRow.laidByTextAt .later Tryd.pinned [.sentinel, .sentinel, .sentinel, .sentinel, .sentinel, .sentinel, .sentinel, .sentinel, .sentinel, .sentinel, .sentinel, .sentinel, .sentinel, .sentinel, .sentinel, .sentinel, .sentinel, .sentinel] true :=
  OpenClaim.laidByTextAt_later rfl rfl tie noOwnUnsafe
theorem pageKeysUpto_row_tie : Rows.pageKeysUptoRow.laidByTextAt .later Tryd.pinned [.sentinel, .sentinel, .sentinel] true :=
  OpenClaim.laidByTextAt_later rfl rfl tie3 noOwnUnsafe
end Go.Proofs.YtmafogagkjafbaaDoor
