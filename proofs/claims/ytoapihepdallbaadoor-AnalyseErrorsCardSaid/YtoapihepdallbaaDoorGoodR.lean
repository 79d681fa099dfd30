/- Whether a record may be, as the document says it: phoenixref1.GoodRec, of any. (Printed by gen/gengoodrec.py.) -/
import Derived.Test.YtoapihepdallbaaDoorGoodRb
import Derived.Test.YtoapihepdallbaaDoorGoodRc
import Derived.Test.YtoapihepdallbaaDoorGoodRd
namespace Go.Proofs.YtoapihepdallbaaDoor
open Go.RowKit

set_option maxRecDepth 10000 in
set_option maxHeartbeats 4000000 in
theorem goodRec_no (w : World) (kind txn page prev next key : Int) (had has : Bool) (old new : Int) (h : kind < 1 ∨ 10 < kind) : Calls Tryd.prog 45 #[aggR ⟨kind, txn, page, prev, next, key, had, has, old, new⟩] w fun e w' => e = .returned (.bool (goodR ⟨kind, txn, page, prev, next, key, had, has, old, new⟩)) ∧ Below w.heap.size w w' := by
  have HB : Sc (Below w.heap.size w (w.alloc (.cells (cellsR ⟨kind, txn, page, prev, next, key, had, has, old, new⟩) 51))) := ⟨dn_alloc (Below.refl _ _) _⟩
  have h0 : inR kind 1 10 = false := by unfold inR; rw [← Bool.decide_and]; exact decide_eq_false (by omega)
  have h1 : inR kind 1 6 = false := by unfold inR; rw [← Bool.decide_and]; exact decide_eq_false (by omega)
  have HG : Sc (goodR ⟨kind, txn, page, prev, next, key, had, has, old, new⟩ = false) := ⟨by unfold goodR; simp [h0]⟩
  rw [HG.out]
  have b2 := beq_no (show kind ≠ 2 by omega)
  have b3 := beq_no (show kind ≠ 3 by omega)
  have b8 := beq_no (show kind ≠ 8 by omega)
  have b9 := beq_no (show kind ≠ 9 by omega)
  clear h
  go_enter Tryd.func45, Tryd.ntmps45
  go_wp2_with (go_at_call 67; first | (refine (from_is _ (by assumption)).mono ?_; rintro e w' ⟨rfl, rfl⟩) | (refine (from_is _ (show _ = true by decide)).mono ?_; rintro e w' ⟨rfl, rfl⟩) | (refine (from_is _ (show _ = false by decide)).mono ?_; rintro e w' ⟨rfl, rfl⟩))
  go_ret
  exact ⟨rfl, HB.out⟩
theorem goodRec_any (w : World) (r : RecD) : Calls Tryd.prog 45 #[aggR r] w fun e w' => e = .returned (.bool (goodR r)) ∧ Below w.heap.size w w' := by
  obtain ⟨kind, txn, page, prev, next, key, had, has, old, new⟩ := r
  by_cases h : kind < 1 ∨ 10 < kind
  · exact goodRec_no w kind txn page prev next key had has old new h
  · have hk : kind = 1 ∨ kind = 2 ∨ kind = 3 ∨ kind = 4 ∨ kind = 5 ∨ kind = 6 ∨ kind = 7 ∨ kind = 8 ∨ kind = 9 ∨ kind = 10 := by omega
    rcases hk with rfl | rfl | rfl | rfl | rfl | rfl | rfl | rfl | rfl | rfl
    · exact goodRec_1 w txn page prev next key had has old new
    · exact goodRec_2 w txn page prev next key had has old new
    · exact goodRec_3 w txn page prev next key had has old new
    · exact goodRec_4 w txn page prev next key had has old new
    · exact goodRec_5 w txn page prev next key had has old new
    · exact goodRec_6 w txn page prev next key had has old new
    · exact goodRec_7 w txn page prev next key had has old new
    · exact goodRec_8 w txn page prev next key had has old new
    · exact goodRec_9 w txn page prev next key had has old new
    · exact goodRec_10 w txn page prev next key had has old new
end Go.Proofs.YtoapihepdallbaaDoor
