/- Whether a record may be, as the document says it: phoenixref1.GoodRec, more kinds. (Printed by gen/gengoodrec.py.) Whether a record may be, as the document says it: phoenixref1.GoodRec, more kinds. (Printed by gen/gengoodrec.py.) Whether a record may be, as the document says it: phoenixref1.GoodRec, of any. (Printed by gen/gengoodrec.py.) -/
import Derived.Test.YtoapihepdallbaaDoorGoodM1
namespace Go.Proofs.YtoapihepdallbaaDoor
section
open Go.RowKit

theorem goodR_7 (txn page prev next key : Int) (had has : Bool) (old new : Int) : goodR ⟨7, txn, page, prev, next, key, had, has, old, new⟩ = ((txn == 0) && ((page == 0) && ((prev == 0) && (inR next 0 0 && (inR key 0 0 && valuesR ⟨7, txn, page, prev, next, key, had, has, old, new⟩))))) := by
  have hp : prevR ⟨7, txn, page, prev, next, key, had, has, old, new⟩ = (prev == 0) := by simp [prevR, beq_dec]
  have hn : nextR ⟨7, txn, page, prev, next, key, had, has, old, new⟩ = inR next 0 0 := by simp [nextR, inR_zero, beq_dec]
  have hk : keyR ⟨7, txn, page, prev, next, key, had, has, old, new⟩ = inR key 0 0 := by simp [keyR, inR_zero, beq_dec]
  have ht : inR txn (min (txnR ⟨7, txn, page, prev, next, key, had, has, old, new⟩) 1) (txnR ⟨7, txn, page, prev, next, key, had, has, old, new⟩) = (txn == 0) := by rw [show txnR ⟨7, txn, page, prev, next, key, had, has, old, new⟩ = 0 by simp [txnR]]; exact inR_zero txn
  have hg : inR page (min (pageR ⟨7, txn, page, prev, next, key, had, has, old, new⟩) 1) (pageR ⟨7, txn, page, prev, next, key, had, has, old, new⟩) = (page == 0) := by rw [show pageR ⟨7, txn, page, prev, next, key, had, has, old, new⟩ = 0 by simp [pageR]]; exact inR_zero page
  have h0 : inR (7 : Int) 1 10 = true := by decide
  unfold goodR
  rw [hp, hn, hk, ht, hg]
  simp only [h0, Bool.true_and, Bool.and_assoc]
set_option maxRecDepth 10000 in
set_option maxHeartbeats 4000000 in
theorem goodRec_7 (w : World) (txn page prev next key : Int) (had has : Bool) (old new : Int) : Calls Tryd.prog 45 #[aggR ⟨7, txn, page, prev, next, key, had, has, old, new⟩] w fun e w' => e = .returned (.bool (goodR ⟨7, txn, page, prev, next, key, had, has, old, new⟩)) ∧ Below w.heap.size w w' := by
  have HB : Sc (Below w.heap.size w (w.alloc (.cells (cellsR ⟨7, txn, page, prev, next, key, had, has, old, new⟩) 51))) := ⟨dn_alloc (Below.refl _ _) _⟩
  rw [goodR_7]
  by_cases ze1 : txn = 0
  · subst ze1
    by_cases ze2 : page = 0
    · subst ze2
      by_cases ze3 : prev = 0
      · subst ze3
        cases e4 : inR next 0 0 with
        | false =>
          go_enter Tryd.func45, Tryd.ntmps45
          go_wp2_with (go_at_call 67; first | (refine (from_is _ (by assumption)).mono ?_; rintro e w' ⟨rfl, rfl⟩) | (refine (from_is _ (show _ = true by decide)).mono ?_; rintro e w' ⟨rfl, rfl⟩) | (refine (from_is _ (show _ = false by decide)).mono ?_; rintro e w' ⟨rfl, rfl⟩))
          go_ret
          exact ⟨by simp, HB.out⟩
        | true =>
          cases e5 : inR key 0 0 with
          | false =>
            go_enter Tryd.func45, Tryd.ntmps45
            go_wp2_with (go_at_call 67; first | (refine (from_is _ (by assumption)).mono ?_; rintro e w' ⟨rfl, rfl⟩) | (refine (from_is _ (show _ = true by decide)).mono ?_; rintro e w' ⟨rfl, rfl⟩) | (refine (from_is _ (show _ = false by decide)).mono ?_; rintro e w' ⟨rfl, rfl⟩))
            go_ret
            exact ⟨by simp, HB.out⟩
          | true =>
            cases had with
            | true =>
              go_enter Tryd.func45, Tryd.ntmps45
              go_wp2_with (go_at_call 67; first | (refine (from_is _ (by assumption)).mono ?_; rintro e w' ⟨rfl, rfl⟩) | (refine (from_is _ (show _ = true by decide)).mono ?_; rintro e w' ⟨rfl, rfl⟩) | (refine (from_is _ (show _ = false by decide)).mono ?_; rintro e w' ⟨rfl, rfl⟩))
              go_ret
              exact ⟨by simp [valuesR], HB.out⟩
            | false =>
              by_cases ho : old = 0
              · subst ho
                cases has with
                | true =>
                  go_enter Tryd.func45, Tryd.ntmps45
                  go_wp2_with (go_at_call 67; first | (refine (from_is _ (by assumption)).mono ?_; rintro e w' ⟨rfl, rfl⟩) | (refine (from_is _ (show _ = true by decide)).mono ?_; rintro e w' ⟨rfl, rfl⟩) | (refine (from_is _ (show _ = false by decide)).mono ?_; rintro e w' ⟨rfl, rfl⟩))
                  go_ret
                  exact ⟨by simp [valuesR], HB.out⟩
                | false =>
                  by_cases hn : new = 0
                  · subst hn
                    go_enter Tryd.func45, Tryd.ntmps45
                    go_wp2_with (go_at_call 67; first | (refine (from_is _ (by assumption)).mono ?_; rintro e w' ⟨rfl, rfl⟩) | (refine (from_is _ (show _ = true by decide)).mono ?_; rintro e w' ⟨rfl, rfl⟩) | (refine (from_is _ (show _ = false by decide)).mono ?_; rintro e w' ⟨rfl, rfl⟩))
                    go_ret
                    exact ⟨by simp [valuesR], HB.out⟩
                  · have hb := beq_no hn
                    go_enter Tryd.func45, Tryd.ntmps45
                    go_wp2_with (go_at_call 67; first | (refine (from_is _ (by assumption)).mono ?_; rintro e w' ⟨rfl, rfl⟩) | (refine (from_is _ (show _ = true by decide)).mono ?_; rintro e w' ⟨rfl, rfl⟩) | (refine (from_is _ (show _ = false by decide)).mono ?_; rintro e w' ⟨rfl, rfl⟩))
                    go_ret
                    exact ⟨by simp [valuesR, hn], HB.out⟩
              · have hb := beq_no ho
                go_enter Tryd.func45, Tryd.ntmps45
                go_wp2_with (go_at_call 67; first | (refine (from_is _ (by assumption)).mono ?_; rintro e w' ⟨rfl, rfl⟩) | (refine (from_is _ (show _ = true by decide)).mono ?_; rintro e w' ⟨rfl, rfl⟩) | (refine (from_is _ (show _ = false by decide)).mono ?_; rintro e w' ⟨rfl, rfl⟩))
                go_ret
                exact ⟨by simp [valuesR, ho], HB.out⟩
      · have e3 := beq_no ze3
        go_enter Tryd.func45, Tryd.ntmps45
        go_wp2_with (go_at_call 67; first | (refine (from_is _ (by assumption)).mono ?_; rintro e w' ⟨rfl, rfl⟩) | (refine (from_is _ (show _ = true by decide)).mono ?_; rintro e w' ⟨rfl, rfl⟩) | (refine (from_is _ (show _ = false by decide)).mono ?_; rintro e w' ⟨rfl, rfl⟩))
        go_ret
        exact ⟨by simp [ze3], HB.out⟩
    · have e2 := beq_no ze2
      go_enter Tryd.func45, Tryd.ntmps45
      go_wp2_with (go_at_call 67; first | (refine (from_is _ (by assumption)).mono ?_; rintro e w' ⟨rfl, rfl⟩) | (refine (from_is _ (show _ = true by decide)).mono ?_; rintro e w' ⟨rfl, rfl⟩) | (refine (from_is _ (show _ = false by decide)).mono ?_; rintro e w' ⟨rfl, rfl⟩))
      go_ret
      exact ⟨by simp [ze2], HB.out⟩
  · have e1 := beq_no ze1
    go_enter Tryd.func45, Tryd.ntmps45
    go_wp2_with (go_at_call 67; first | (refine (from_is _ (by assumption)).mono ?_; rintro e w' ⟨rfl, rfl⟩) | (refine (from_is _ (show _ = true by decide)).mono ?_; rintro e w' ⟨rfl, rfl⟩) | (refine (from_is _ (show _ = false by decide)).mono ?_; rintro e w' ⟨rfl, rfl⟩))
    go_ret
    exact ⟨by simp [ze1], HB.out⟩
theorem goodR_8 (txn page prev next key : Int) (had has : Bool) (old new : Int) : goodR ⟨8, txn, page, prev, next, key, had, has, old, new⟩ = (inR txn 1 60000 && ((page == 0) && (inR prev 0 1073741824 && (inR next 0 1073741824 && (inR key 0 2 && valuesR ⟨8, txn, page, prev, next, key, had, has, old, new⟩))))) := by
  have hp : prevR ⟨8, txn, page, prev, next, key, had, has, old, new⟩ = inR prev 0 1073741824 := by simp [prevR]
  have hn : nextR ⟨8, txn, page, prev, next, key, had, has, old, new⟩ = inR next 0 1073741824 := by simp [nextR]
  have hk : keyR ⟨8, txn, page, prev, next, key, had, has, old, new⟩ = inR key 0 2 := by simp [keyR]
  have ht : inR txn (min (txnR ⟨8, txn, page, prev, next, key, had, has, old, new⟩) 1) (txnR ⟨8, txn, page, prev, next, key, had, has, old, new⟩) = inR txn 1 60000 := by rw [show txnR ⟨8, txn, page, prev, next, key, had, has, old, new⟩ = 60000 by simp [txnR]]; exact rfl
  have hg : inR page (min (pageR ⟨8, txn, page, prev, next, key, had, has, old, new⟩) 1) (pageR ⟨8, txn, page, prev, next, key, had, has, old, new⟩) = (page == 0) := by rw [show pageR ⟨8, txn, page, prev, next, key, had, has, old, new⟩ = 0 by simp [pageR]]; exact inR_zero page
  have h0 : inR (8 : Int) 1 10 = true := by decide
  unfold goodR
  rw [hp, hn, hk, ht, hg]
  simp only [h0, Bool.true_and, Bool.and_assoc]
set_option maxRecDepth 10000 in
set_option maxHeartbeats 4000000 in
theorem goodRec_8 (w : World) (txn page prev next key : Int) (had has : Bool) (old new : Int) : Calls Tryd.prog 45 #[aggR ⟨8, txn, page, prev, next, key, had, has, old, new⟩] w fun e w' => e = .returned (.bool (goodR ⟨8, txn, page, prev, next, key, had, has, old, new⟩)) ∧ Below w.heap.size w w' := by
  have HB : Sc (Below w.heap.size w (w.alloc (.cells (cellsR ⟨8, txn, page, prev, next, key, had, has, old, new⟩) 51))) := ⟨dn_alloc (Below.refl _ _) _⟩
  rw [goodR_8]
  cases e1 : inR txn 1 60000 with
  | false =>
    go_enter Tryd.func45, Tryd.ntmps45
    go_wp2_with (go_at_call 67; first | (refine (from_is _ (by assumption)).mono ?_; rintro e w' ⟨rfl, rfl⟩) | (refine (from_is _ (show _ = true by decide)).mono ?_; rintro e w' ⟨rfl, rfl⟩) | (refine (from_is _ (show _ = false by decide)).mono ?_; rintro e w' ⟨rfl, rfl⟩))
    go_ret
    exact ⟨by simp, HB.out⟩
  | true =>
    by_cases ze2 : page = 0
    · subst ze2
      cases e3 : inR prev 0 1073741824 with
      | false =>
        go_enter Tryd.func45, Tryd.ntmps45
        go_wp2_with (go_at_call 67; first | (refine (from_is _ (by assumption)).mono ?_; rintro e w' ⟨rfl, rfl⟩) | (refine (from_is _ (show _ = true by decide)).mono ?_; rintro e w' ⟨rfl, rfl⟩) | (refine (from_is _ (show _ = false by decide)).mono ?_; rintro e w' ⟨rfl, rfl⟩))
        go_ret
        exact ⟨by simp, HB.out⟩
      | true =>
        cases e4 : inR next 0 1073741824 with
        | false =>
          go_enter Tryd.func45, Tryd.ntmps45
          go_wp2_with (go_at_call 67; first | (refine (from_is _ (by assumption)).mono ?_; rintro e w' ⟨rfl, rfl⟩) | (refine (from_is _ (show _ = true by decide)).mono ?_; rintro e w' ⟨rfl, rfl⟩) | (refine (from_is _ (show _ = false by decide)).mono ?_; rintro e w' ⟨rfl, rfl⟩))
          go_ret
          exact ⟨by simp, HB.out⟩
        | true =>
          cases e5 : inR key 0 2 with
          | false =>
            go_enter Tryd.func45, Tryd.ntmps45
            go_wp2_with (go_at_call 67; first | (refine (from_is _ (by assumption)).mono ?_; rintro e w' ⟨rfl, rfl⟩) | (refine (from_is _ (show _ = true by decide)).mono ?_; rintro e w' ⟨rfl, rfl⟩) | (refine (from_is _ (show _ = false by decide)).mono ?_; rintro e w' ⟨rfl, rfl⟩))
            go_ret
            exact ⟨by simp, HB.out⟩
          | true =>
            cases had with
            | true =>
              go_enter Tryd.func45, Tryd.ntmps45
              go_wp2_with (go_at_call 67; first | (refine (from_is _ (by assumption)).mono ?_; rintro e w' ⟨rfl, rfl⟩) | (refine (from_is _ (show _ = true by decide)).mono ?_; rintro e w' ⟨rfl, rfl⟩) | (refine (from_is _ (show _ = false by decide)).mono ?_; rintro e w' ⟨rfl, rfl⟩))
              go_ret
              exact ⟨by simp [valuesR], HB.out⟩
            | false =>
              by_cases ho : old = 0
              · subst ho
                cases has with
                | true =>
                  go_enter Tryd.func45, Tryd.ntmps45
                  go_wp2_with (go_at_call 67; first | (refine (from_is _ (by assumption)).mono ?_; rintro e w' ⟨rfl, rfl⟩) | (refine (from_is _ (show _ = true by decide)).mono ?_; rintro e w' ⟨rfl, rfl⟩) | (refine (from_is _ (show _ = false by decide)).mono ?_; rintro e w' ⟨rfl, rfl⟩))
                  go_ret
                  exact ⟨by simp [valuesR], HB.out⟩
                | false =>
                  by_cases hn : new = 0
                  · subst hn
                    go_enter Tryd.func45, Tryd.ntmps45
                    go_wp2_with (go_at_call 67; first | (refine (from_is _ (by assumption)).mono ?_; rintro e w' ⟨rfl, rfl⟩) | (refine (from_is _ (show _ = true by decide)).mono ?_; rintro e w' ⟨rfl, rfl⟩) | (refine (from_is _ (show _ = false by decide)).mono ?_; rintro e w' ⟨rfl, rfl⟩))
                    go_ret
                    exact ⟨by simp [valuesR], HB.out⟩
                  · have hb := beq_no hn
                    go_enter Tryd.func45, Tryd.ntmps45
                    go_wp2_with (go_at_call 67; first | (refine (from_is _ (by assumption)).mono ?_; rintro e w' ⟨rfl, rfl⟩) | (refine (from_is _ (show _ = true by decide)).mono ?_; rintro e w' ⟨rfl, rfl⟩) | (refine (from_is _ (show _ = false by decide)).mono ?_; rintro e w' ⟨rfl, rfl⟩))
                    go_ret
                    exact ⟨by simp [valuesR, hn], HB.out⟩
              · have hb := beq_no ho
                go_enter Tryd.func45, Tryd.ntmps45
                go_wp2_with (go_at_call 67; first | (refine (from_is _ (by assumption)).mono ?_; rintro e w' ⟨rfl, rfl⟩) | (refine (from_is _ (show _ = true by decide)).mono ?_; rintro e w' ⟨rfl, rfl⟩) | (refine (from_is _ (show _ = false by decide)).mono ?_; rintro e w' ⟨rfl, rfl⟩))
                go_ret
                exact ⟨by simp [valuesR, ho], HB.out⟩
    · have e2 := beq_no ze2
      go_enter Tryd.func45, Tryd.ntmps45
      go_wp2_with (go_at_call 67; first | (refine (from_is _ (by assumption)).mono ?_; rintro e w' ⟨rfl, rfl⟩) | (refine (from_is _ (show _ = true by decide)).mono ?_; rintro e w' ⟨rfl, rfl⟩) | (refine (from_is _ (show _ = false by decide)).mono ?_; rintro e w' ⟨rfl, rfl⟩))
      go_ret
      exact ⟨by simp [ze2], HB.out⟩
end
section
open Go.RowKit

theorem goodR_9 (txn page prev next key : Int) (had has : Bool) (old new : Int) : goodR ⟨9, txn, page, prev, next, key, had, has, old, new⟩ = ((txn == 0) && (inR page 1 32 && (inR prev 1 1073741824 && (inR next 0 0 && (inR key 0 0 && valuesR ⟨9, txn, page, prev, next, key, had, has, old, new⟩))))) := by
  have hp : prevR ⟨9, txn, page, prev, next, key, had, has, old, new⟩ = inR prev 1 1073741824 := by simp [prevR]
  have hn : nextR ⟨9, txn, page, prev, next, key, had, has, old, new⟩ = inR next 0 0 := by simp [nextR, inR_zero, beq_dec]
  have hk : keyR ⟨9, txn, page, prev, next, key, had, has, old, new⟩ = inR key 0 0 := by simp [keyR, inR_zero, beq_dec]
  have ht : inR txn (min (txnR ⟨9, txn, page, prev, next, key, had, has, old, new⟩) 1) (txnR ⟨9, txn, page, prev, next, key, had, has, old, new⟩) = (txn == 0) := by rw [show txnR ⟨9, txn, page, prev, next, key, had, has, old, new⟩ = 0 by simp [txnR]]; exact inR_zero txn
  have hg : inR page (min (pageR ⟨9, txn, page, prev, next, key, had, has, old, new⟩) 1) (pageR ⟨9, txn, page, prev, next, key, had, has, old, new⟩) = inR page 1 32 := by rw [show pageR ⟨9, txn, page, prev, next, key, had, has, old, new⟩ = 32 by simp [pageR]]; exact rfl
  have h0 : inR (9 : Int) 1 10 = true := by decide
  unfold goodR
  rw [hp, hn, hk, ht, hg]
  simp only [h0, Bool.true_and, Bool.and_assoc]
set_option maxRecDepth 10000 in
set_option maxHeartbeats 4000000 in
theorem goodRec_9 (w : World) (txn page prev next key : Int) (had has : Bool) (old new : Int) : Calls Tryd.prog 45 #[aggR ⟨9, txn, page, prev, next, key, had, has, old, new⟩] w fun e w' => e = .returned (.bool (goodR ⟨9, txn, page, prev, next, key, had, has, old, new⟩)) ∧ Below w.heap.size w w' := by
  have HB : Sc (Below w.heap.size w (w.alloc (.cells (cellsR ⟨9, txn, page, prev, next, key, had, has, old, new⟩) 51))) := ⟨dn_alloc (Below.refl _ _) _⟩
  rw [goodR_9]
  by_cases ze1 : txn = 0
  · subst ze1
    cases e2 : inR page 1 32 with
    | false =>
      go_enter Tryd.func45, Tryd.ntmps45
      go_wp2_with (go_at_call 67; first | (refine (from_is _ (by assumption)).mono ?_; rintro e w' ⟨rfl, rfl⟩) | (refine (from_is _ (show _ = true by decide)).mono ?_; rintro e w' ⟨rfl, rfl⟩) | (refine (from_is _ (show _ = false by decide)).mono ?_; rintro e w' ⟨rfl, rfl⟩))
      go_ret
      exact ⟨by simp, HB.out⟩
    | true =>
      cases e3 : inR prev 1 1073741824 with
      | false =>
        go_enter Tryd.func45, Tryd.ntmps45
        go_wp2_with (go_at_call 67; first | (refine (from_is _ (by assumption)).mono ?_; rintro e w' ⟨rfl, rfl⟩) | (refine (from_is _ (show _ = true by decide)).mono ?_; rintro e w' ⟨rfl, rfl⟩) | (refine (from_is _ (show _ = false by decide)).mono ?_; rintro e w' ⟨rfl, rfl⟩))
        go_ret
        exact ⟨by simp, HB.out⟩
      | true =>
        cases e4 : inR next 0 0 with
        | false =>
          go_enter Tryd.func45, Tryd.ntmps45
          go_wp2_with (go_at_call 67; first | (refine (from_is _ (by assumption)).mono ?_; rintro e w' ⟨rfl, rfl⟩) | (refine (from_is _ (show _ = true by decide)).mono ?_; rintro e w' ⟨rfl, rfl⟩) | (refine (from_is _ (show _ = false by decide)).mono ?_; rintro e w' ⟨rfl, rfl⟩))
          go_ret
          exact ⟨by simp, HB.out⟩
        | true =>
          cases e5 : inR key 0 0 with
          | false =>
            go_enter Tryd.func45, Tryd.ntmps45
            go_wp2_with (go_at_call 67; first | (refine (from_is _ (by assumption)).mono ?_; rintro e w' ⟨rfl, rfl⟩) | (refine (from_is _ (show _ = true by decide)).mono ?_; rintro e w' ⟨rfl, rfl⟩) | (refine (from_is _ (show _ = false by decide)).mono ?_; rintro e w' ⟨rfl, rfl⟩))
            go_ret
            exact ⟨by simp, HB.out⟩
          | true =>
            cases had with
            | true =>
              go_enter Tryd.func45, Tryd.ntmps45
              go_wp2_with (go_at_call 67; first | (refine (from_is _ (by assumption)).mono ?_; rintro e w' ⟨rfl, rfl⟩) | (refine (from_is _ (show _ = true by decide)).mono ?_; rintro e w' ⟨rfl, rfl⟩) | (refine (from_is _ (show _ = false by decide)).mono ?_; rintro e w' ⟨rfl, rfl⟩))
              go_ret
              exact ⟨by simp [valuesR], HB.out⟩
            | false =>
              by_cases ho : old = 0
              · subst ho
                cases has with
                | true =>
                  go_enter Tryd.func45, Tryd.ntmps45
                  go_wp2_with (go_at_call 67; first | (refine (from_is _ (by assumption)).mono ?_; rintro e w' ⟨rfl, rfl⟩) | (refine (from_is _ (show _ = true by decide)).mono ?_; rintro e w' ⟨rfl, rfl⟩) | (refine (from_is _ (show _ = false by decide)).mono ?_; rintro e w' ⟨rfl, rfl⟩))
                  go_ret
                  exact ⟨by simp [valuesR], HB.out⟩
                | false =>
                  by_cases hn : new = 0
                  · subst hn
                    go_enter Tryd.func45, Tryd.ntmps45
                    go_wp2_with (go_at_call 67; first | (refine (from_is _ (by assumption)).mono ?_; rintro e w' ⟨rfl, rfl⟩) | (refine (from_is _ (show _ = true by decide)).mono ?_; rintro e w' ⟨rfl, rfl⟩) | (refine (from_is _ (show _ = false by decide)).mono ?_; rintro e w' ⟨rfl, rfl⟩))
                    go_ret
                    exact ⟨by simp [valuesR], HB.out⟩
                  · have hb := beq_no hn
                    go_enter Tryd.func45, Tryd.ntmps45
                    go_wp2_with (go_at_call 67; first | (refine (from_is _ (by assumption)).mono ?_; rintro e w' ⟨rfl, rfl⟩) | (refine (from_is _ (show _ = true by decide)).mono ?_; rintro e w' ⟨rfl, rfl⟩) | (refine (from_is _ (show _ = false by decide)).mono ?_; rintro e w' ⟨rfl, rfl⟩))
                    go_ret
                    exact ⟨by simp [valuesR, hn], HB.out⟩
              · have hb := beq_no ho
                go_enter Tryd.func45, Tryd.ntmps45
                go_wp2_with (go_at_call 67; first | (refine (from_is _ (by assumption)).mono ?_; rintro e w' ⟨rfl, rfl⟩) | (refine (from_is _ (show _ = true by decide)).mono ?_; rintro e w' ⟨rfl, rfl⟩) | (refine (from_is _ (show _ = false by decide)).mono ?_; rintro e w' ⟨rfl, rfl⟩))
                go_ret
                exact ⟨by simp [valuesR, ho], HB.out⟩
  · have e1 := beq_no ze1
    go_enter Tryd.func45, Tryd.ntmps45
    go_wp2_with (go_at_call 67; first | (refine (from_is _ (by assumption)).mono ?_; rintro e w' ⟨rfl, rfl⟩) | (refine (from_is _ (show _ = true by decide)).mono ?_; rintro e w' ⟨rfl, rfl⟩) | (refine (from_is _ (show _ = false by decide)).mono ?_; rintro e w' ⟨rfl, rfl⟩))
    go_ret
    exact ⟨by simp [ze1], HB.out⟩
theorem goodR_10 (txn page prev next key : Int) (had has : Bool) (old new : Int) : goodR ⟨10, txn, page, prev, next, key, had, has, old, new⟩ = ((txn == 0) && ((page == 0) && ((prev == 0) && (inR next 0 60000 && (inR key 0 0 && valuesR ⟨10, txn, page, prev, next, key, had, has, old, new⟩))))) := by
  have hp : prevR ⟨10, txn, page, prev, next, key, had, has, old, new⟩ = (prev == 0) := by simp [prevR, beq_dec]
  have hn : nextR ⟨10, txn, page, prev, next, key, had, has, old, new⟩ = inR next 0 60000 := by simp [nextR]
  have hk : keyR ⟨10, txn, page, prev, next, key, had, has, old, new⟩ = inR key 0 0 := by simp [keyR, inR_zero, beq_dec]
  have ht : inR txn (min (txnR ⟨10, txn, page, prev, next, key, had, has, old, new⟩) 1) (txnR ⟨10, txn, page, prev, next, key, had, has, old, new⟩) = (txn == 0) := by rw [show txnR ⟨10, txn, page, prev, next, key, had, has, old, new⟩ = 0 by simp [txnR]]; exact inR_zero txn
  have hg : inR page (min (pageR ⟨10, txn, page, prev, next, key, had, has, old, new⟩) 1) (pageR ⟨10, txn, page, prev, next, key, had, has, old, new⟩) = (page == 0) := by rw [show pageR ⟨10, txn, page, prev, next, key, had, has, old, new⟩ = 0 by simp [pageR]]; exact inR_zero page
  have h0 : inR (10 : Int) 1 10 = true := by decide
  unfold goodR
  rw [hp, hn, hk, ht, hg]
  simp only [h0, Bool.true_and, Bool.and_assoc]
set_option maxRecDepth 10000 in
set_option maxHeartbeats 4000000 in
theorem goodRec_10 (w : World) (txn page prev next key : Int) (had has : Bool) (old new : Int) : Calls Tryd.prog 45 #[aggR ⟨10, txn, page, prev, next, key, had, has, old, new⟩] w fun e w' => e = .returned (.bool (goodR ⟨10, txn, page, prev, next, key, had, has, old, new⟩)) ∧ Below w.heap.size w w' := by
  have HB : Sc (Below w.heap.size w (w.alloc (.cells (cellsR ⟨10, txn, page, prev, next, key, had, has, old, new⟩) 51))) := ⟨dn_alloc (Below.refl _ _) _⟩
  rw [goodR_10]
  by_cases ze1 : txn = 0
  · subst ze1
    by_cases ze2 : page = 0
    · subst ze2
      by_cases ze3 : prev = 0
      · subst ze3
        cases e4 : inR next 0 60000 with
        | false =>
          go_enter Tryd.func45, Tryd.ntmps45
          go_wp2_with (go_at_call 67; first | (refine (from_is _ (by assumption)).mono ?_; rintro e w' ⟨rfl, rfl⟩) | (refine (from_is _ (show _ = true by decide)).mono ?_; rintro e w' ⟨rfl, rfl⟩) | (refine (from_is _ (show _ = false by decide)).mono ?_; rintro e w' ⟨rfl, rfl⟩))
          go_ret
          exact ⟨by simp, HB.out⟩
        | true =>
          cases e5 : inR key 0 0 with
          | false =>
            go_enter Tryd.func45, Tryd.ntmps45
            go_wp2_with (go_at_call 67; first | (refine (from_is _ (by assumption)).mono ?_; rintro e w' ⟨rfl, rfl⟩) | (refine (from_is _ (show _ = true by decide)).mono ?_; rintro e w' ⟨rfl, rfl⟩) | (refine (from_is _ (show _ = false by decide)).mono ?_; rintro e w' ⟨rfl, rfl⟩))
            go_ret
            exact ⟨by simp, HB.out⟩
          | true =>
            cases had with
            | true =>
              go_enter Tryd.func45, Tryd.ntmps45
              go_wp2_with (go_at_call 67; first | (refine (from_is _ (by assumption)).mono ?_; rintro e w' ⟨rfl, rfl⟩) | (refine (from_is _ (show _ = true by decide)).mono ?_; rintro e w' ⟨rfl, rfl⟩) | (refine (from_is _ (show _ = false by decide)).mono ?_; rintro e w' ⟨rfl, rfl⟩))
              go_ret
              exact ⟨by simp [valuesR], HB.out⟩
            | false =>
              by_cases ho : old = 0
              · subst ho
                cases has with
                | true =>
                  go_enter Tryd.func45, Tryd.ntmps45
                  go_wp2_with (go_at_call 67; first | (refine (from_is _ (by assumption)).mono ?_; rintro e w' ⟨rfl, rfl⟩) | (refine (from_is _ (show _ = true by decide)).mono ?_; rintro e w' ⟨rfl, rfl⟩) | (refine (from_is _ (show _ = false by decide)).mono ?_; rintro e w' ⟨rfl, rfl⟩))
                  go_ret
                  exact ⟨by simp [valuesR], HB.out⟩
                | false =>
                  by_cases hn : new = 0
                  · subst hn
                    go_enter Tryd.func45, Tryd.ntmps45
                    go_wp2_with (go_at_call 67; first | (refine (from_is _ (by assumption)).mono ?_; rintro e w' ⟨rfl, rfl⟩) | (refine (from_is _ (show _ = true by decide)).mono ?_; rintro e w' ⟨rfl, rfl⟩) | (refine (from_is _ (show _ = false by decide)).mono ?_; rintro e w' ⟨rfl, rfl⟩))
                    go_ret
                    exact ⟨by simp [valuesR], HB.out⟩
                  · have hb := beq_no hn
                    go_enter Tryd.func45, Tryd.ntmps45
                    go_wp2_with (go_at_call 67; first | (refine (from_is _ (by assumption)).mono ?_; rintro e w' ⟨rfl, rfl⟩) | (refine (from_is _ (show _ = true by decide)).mono ?_; rintro e w' ⟨rfl, rfl⟩) | (refine (from_is _ (show _ = false by decide)).mono ?_; rintro e w' ⟨rfl, rfl⟩))
                    go_ret
                    exact ⟨by simp [valuesR, hn], HB.out⟩
              · have hb := beq_no ho
                go_enter Tryd.func45, Tryd.ntmps45
                go_wp2_with (go_at_call 67; first | (refine (from_is _ (by assumption)).mono ?_; rintro e w' ⟨rfl, rfl⟩) | (refine (from_is _ (show _ = true by decide)).mono ?_; rintro e w' ⟨rfl, rfl⟩) | (refine (from_is _ (show _ = false by decide)).mono ?_; rintro e w' ⟨rfl, rfl⟩))
                go_ret
                exact ⟨by simp [valuesR, ho], HB.out⟩
      · have e3 := beq_no ze3
        go_enter Tryd.func45, Tryd.ntmps45
        go_wp2_with (go_at_call 67; first | (refine (from_is _ (by assumption)).mono ?_; rintro e w' ⟨rfl, rfl⟩) | (refine (from_is _ (show _ = true by decide)).mono ?_; rintro e w' ⟨rfl, rfl⟩) | (refine (from_is _ (show _ = false by decide)).mono ?_; rintro e w' ⟨rfl, rfl⟩))
        go_ret
        exact ⟨by simp [ze3], HB.out⟩
    · have e2 := beq_no ze2
      go_enter Tryd.func45, Tryd.ntmps45
      go_wp2_with (go_at_call 67; first | (refine (from_is _ (by assumption)).mono ?_; rintro e w' ⟨rfl, rfl⟩) | (refine (from_is _ (show _ = true by decide)).mono ?_; rintro e w' ⟨rfl, rfl⟩) | (refine (from_is _ (show _ = false by decide)).mono ?_; rintro e w' ⟨rfl, rfl⟩))
      go_ret
      exact ⟨by simp [ze2], HB.out⟩
  · have e1 := beq_no ze1
    go_enter Tryd.func45, Tryd.ntmps45
    go_wp2_with (go_at_call 67; first | (refine (from_is _ (by assumption)).mono ?_; rintro e w' ⟨rfl, rfl⟩) | (refine (from_is _ (show _ = true by decide)).mono ?_; rintro e w' ⟨rfl, rfl⟩) | (refine (from_is _ (show _ = false by decide)).mono ?_; rintro e w' ⟨rfl, rfl⟩))
    go_ret
    exact ⟨by simp [ze1], HB.out⟩
end
section
open Go.RowKit

set_option maxRecDepth 10000 in
set_option maxHeartbeats 4000000 in
theorem goodRec_no (w : World) (kind txn page prev next key : Int) (had has : Bool) (old new : Int) (h : kind < 1 ∨ 10 < kind) : Calls Tryd.prog 45 #[aggR ⟨kind, txn, page, prev, next, key, had, has, old, new⟩] w fun e w' => e = .returned (.bool (goodR ⟨kind, txn, page, prev, next, key, had, has, old, new⟩)) ∧ Below w.heap.size w w' := by
  have HB : Sc (Below w.heap.size w (w.alloc (.cells (cellsR ⟨kind, txn, page, prev, next, key, had, has, old, new⟩) 51))) := ⟨dn_alloc (Below.refl _ _) _⟩
  have h0 : inR kind 1 10 = false := by unfold inR; rw [← Bool.decide_and]; exact decide_eq_false (by omega)
  have h1 : inR kind 1 6 = false := by unfold inR; rw [← Bool.decide_and]; exact decide_eq_false (by omega)
  have HG : Sc (goodR ⟨kind, txn, page, prev, next, key, had, has, old, new⟩ = false) := ⟨by unfold goodR; simp [h0]⟩
  rw [HG.out]
  have b2 := beq_no (show kind ≠ 2 by omega)
  have b3 := beq_no (show kind ≠ 3 by omega)
  have b8 := beq_no (show kind ≠ 8 by omega)
  have b9 := beq_no (show kind ≠ 9 by omega)
  clear h
  go_enter Tryd.func45, Tryd.ntmps45
  go_wp2_with (go_at_call 67; first | (refine (from_is _ (by assumption)).mono ?_; rintro e w' ⟨rfl, rfl⟩) | (refine (from_is _ (show _ = true by decide)).mono ?_; rintro e w' ⟨rfl, rfl⟩) | (refine (from_is _ (show _ = false by decide)).mono ?_; rintro e w' ⟨rfl, rfl⟩))
  go_ret
  exact ⟨rfl, HB.out⟩
theorem goodRec_any (w : World) (r : RecD) : Calls Tryd.prog 45 #[aggR r] w fun e w' => e = .returned (.bool (goodR r)) ∧ Below w.heap.size w w' := by
  obtain ⟨kind, txn, page, prev, next, key, had, has, old, new⟩ := r
  by_cases h : kind < 1 ∨ 10 < kind
  · exact goodRec_no w kind txn page prev next key had has old new h
  · have hk : kind = 1 ∨ kind = 2 ∨ kind = 3 ∨ kind = 4 ∨ kind = 5 ∨ kind = 6 ∨ kind = 7 ∨ kind = 8 ∨ kind = 9 ∨ kind = 10 := by omega
    rcases hk with rfl | rfl | rfl | rfl | rfl | rfl | rfl | rfl | rfl | rfl
    · exact goodRec_1 w txn page prev next key had has old new
    · exact goodRec_2 w txn page prev next key had has old new
    · exact goodRec_3 w txn page prev next key had has old new
    · exact goodRec_4 w txn page prev next key had has old new
    · exact goodRec_5 w txn page prev next key had has old new
    · exact goodRec_6 w txn page prev next key had has old new
    · exact goodRec_7 w txn page prev next key had has old new
    · exact goodRec_8 w txn page prev next key had has old new
    · exact goodRec_9 w txn page prev next key had has old new
    · exact goodRec_10 w txn page prev next key had has old new
end
end Go.Proofs.YtoapihepdallbaaDoor
