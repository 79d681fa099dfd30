/- Whether a record may be, as the document says it: phoenixref1.GoodRec. (Printed by gen/gengoodrec.py.) Whether a record may be, as the document says it: phoenixref1.GoodRec, more kinds. (Printed by gen/gengoodrec.py.) -/
import Derived.Test.YtoapihepdallbaaDoorRecC
namespace Go.Proofs.YtoapihepdallbaaDoor
section
open Go.RowKit

set_option maxHeartbeats 400000 in
theorem from_any (w : World) (n lo hi : Int) : Calls Tryd.prog 67 #[.int .i64 n, .int .i64 lo, .int .i64 hi] w fun e w' => e = .returned (.bool (inR n lo hi)) ∧ w' = w := by
  by_cases h : lo ≤ n
  · have h1 : decide (lo ≤ n) = true := decide_eq_true h
    have HI : Sc (inR n lo hi = decide (n ≤ hi)) := ⟨by unfold inR; rw [h1, Bool.true_and]⟩
    rw [HI.out]
    clear h
    go_enter Tryd.func67, Tryd.ntmps67
    go_wp2
    go_ret
    exact ⟨rfl, rfl⟩
  · have h1 : decide (lo ≤ n) = false := decide_eq_false h
    have HI : Sc (inR n lo hi = false) := ⟨by unfold inR; rw [h1, Bool.false_and]⟩
    rw [HI.out]
    clear h
    go_enter Tryd.func67, Tryd.ntmps67
    go_wp2
    go_ret
    exact ⟨rfl, rfl⟩
theorem inR_zero (x : Int) : inR x 0 0 = (x == 0) := by
  unfold inR
  rw [beq_dec, ← Bool.decide_and]
  exact decide_eq_decide.2 ⟨fun h => by omega, fun h => by omega⟩
theorem from_is {n lo hi : Int} {b : Bool} (w : World) (h : inR n lo hi = b) : Calls Tryd.prog 67 #[.int .i64 n, .int .i64 lo, .int .i64 hi] w fun e w' => e = .returned (.bool b) ∧ w' = w := h ▸ from_any w n lo hi

theorem goodR_1 (txn page prev next key : Int) (had has : Bool) (old new : Int) : goodR ⟨1, txn, page, prev, next, key, had, has, old, new⟩ = (inR txn 1 60000 && ((page == 0) && ((prev == 0) && (inR next 0 0 && (inR key 0 0 && valuesR ⟨1, txn, page, prev, next, key, had, has, old, new⟩))))) := by
  have hp : prevR ⟨1, txn, page, prev, next, key, had, has, old, new⟩ = (prev == 0) := by simp [prevR, beq_dec]
  have hn : nextR ⟨1, txn, page, prev, next, key, had, has, old, new⟩ = inR next 0 0 := by simp [nextR, inR_zero, beq_dec]
  have hk : keyR ⟨1, txn, page, prev, next, key, had, has, old, new⟩ = inR key 0 0 := by simp [keyR, inR_zero, beq_dec]
  have ht : inR txn (min (txnR ⟨1, txn, page, prev, next, key, had, has, old, new⟩) 1) (txnR ⟨1, txn, page, prev, next, key, had, has, old, new⟩) = inR txn 1 60000 := by rw [show txnR ⟨1, txn, page, prev, next, key, had, has, old, new⟩ = 60000 by simp [txnR]]; exact rfl
  have hg : inR page (min (pageR ⟨1, txn, page, prev, next, key, had, has, old, new⟩) 1) (pageR ⟨1, txn, page, prev, next, key, had, has, old, new⟩) = (page == 0) := by rw [show pageR ⟨1, txn, page, prev, next, key, had, has, old, new⟩ = 0 by simp [pageR]]; exact inR_zero page
  have h0 : inR (1 : Int) 1 10 = true := by decide
  unfold goodR
  rw [hp, hn, hk, ht, hg]
  simp only [h0, Bool.true_and, Bool.and_assoc]
set_option maxRecDepth 10000 in
set_option maxHeartbeats 4000000 in
theorem goodRec_1 (w : World) (txn page prev next key : Int) (had has : Bool) (old new : Int) : Calls Tryd.prog 45 #[aggR ⟨1, txn, page, prev, next, key, had, has, old, new⟩] w fun e w' => e = .returned (.bool (goodR ⟨1, txn, page, prev, next, key, had, has, old, new⟩)) ∧ Below w.heap.size w w' := by
  have HB : Sc (Below w.heap.size w (w.alloc (.cells (cellsR ⟨1, txn, page, prev, next, key, had, has, old, new⟩) 51))) := ⟨dn_alloc (Below.refl _ _) _⟩
  rw [goodR_1]
  cases e1 : inR txn 1 60000 with
  | false =>
    go_enter Tryd.func45, Tryd.ntmps45
    go_wp2_with (go_at_call 67; first | (refine (from_is _ (by assumption)).mono ?_; rintro e w' ⟨rfl, rfl⟩) | (refine (from_is _ (show _ = true by decide)).mono ?_; rintro e w' ⟨rfl, rfl⟩) | (refine (from_is _ (show _ = false by decide)).mono ?_; rintro e w' ⟨rfl, rfl⟩))
    go_ret
    exact ⟨by simp, HB.out⟩
  | true =>
    by_cases ze2 : page = 0
    · subst ze2
      by_cases ze3 : prev = 0
      · subst ze3
        cases e4 : inR next 0 0 with
        | false =>
          go_enter Tryd.func45, Tryd.ntmps45
          go_wp2_with (go_at_call 67; first | (refine (from_is _ (by assumption)).mono ?_; rintro e w' ⟨rfl, rfl⟩) | (refine (from_is _ (show _ = true by decide)).mono ?_; rintro e w' ⟨rfl, rfl⟩) | (refine (from_is _ (show _ = false by decide)).mono ?_; rintro e w' ⟨rfl, rfl⟩))
          go_ret
          exact ⟨by simp, HB.out⟩
        | true =>
          cases e5 : inR key 0 0 with
          | false =>
            go_enter Tryd.func45, Tryd.ntmps45
            go_wp2_with (go_at_call 67; first | (refine (from_is _ (by assumption)).mono ?_; rintro e w' ⟨rfl, rfl⟩) | (refine (from_is _ (show _ = true by decide)).mono ?_; rintro e w' ⟨rfl, rfl⟩) | (refine (from_is _ (show _ = false by decide)).mono ?_; rintro e w' ⟨rfl, rfl⟩))
            go_ret
            exact ⟨by simp, HB.out⟩
          | true =>
            cases had with
            | true =>
              go_enter Tryd.func45, Tryd.ntmps45
              go_wp2_with (go_at_call 67; first | (refine (from_is _ (by assumption)).mono ?_; rintro e w' ⟨rfl, rfl⟩) | (refine (from_is _ (show _ = true by decide)).mono ?_; rintro e w' ⟨rfl, rfl⟩) | (refine (from_is _ (show _ = false by decide)).mono ?_; rintro e w' ⟨rfl, rfl⟩))
              go_ret
              exact ⟨by simp [valuesR], HB.out⟩
            | false =>
              by_cases ho : old = 0
              · subst ho
                cases has with
                | true =>
                  go_enter Tryd.func45, Tryd.ntmps45
                  go_wp2_with (go_at_call 67; first | (refine (from_is _ (by assumption)).mono ?_; rintro e w' ⟨rfl, rfl⟩) | (refine (from_is _ (show _ = true by decide)).mono ?_; rintro e w' ⟨rfl, rfl⟩) | (refine (from_is _ (show _ = false by decide)).mono ?_; rintro e w' ⟨rfl, rfl⟩))
                  go_ret
                  exact ⟨by simp [valuesR], HB.out⟩
                | false =>
                  by_cases hn : new = 0
                  · subst hn
                    go_enter Tryd.func45, Tryd.ntmps45
                    go_wp2_with (go_at_call 67; first | (refine (from_is _ (by assumption)).mono ?_; rintro e w' ⟨rfl, rfl⟩) | (refine (from_is _ (show _ = true by decide)).mono ?_; rintro e w' ⟨rfl, rfl⟩) | (refine (from_is _ (show _ = false by decide)).mono ?_; rintro e w' ⟨rfl, rfl⟩))
                    go_ret
                    exact ⟨by simp [valuesR], HB.out⟩
                  · have hb := beq_no hn
                    go_enter Tryd.func45, Tryd.ntmps45
                    go_wp2_with (go_at_call 67; first | (refine (from_is _ (by assumption)).mono ?_; rintro e w' ⟨rfl, rfl⟩) | (refine (from_is _ (show _ = true by decide)).mono ?_; rintro e w' ⟨rfl, rfl⟩) | (refine (from_is _ (show _ = false by decide)).mono ?_; rintro e w' ⟨rfl, rfl⟩))
                    go_ret
                    exact ⟨by simp [valuesR, hn], HB.out⟩
              · have hb := beq_no ho
                go_enter Tryd.func45, Tryd.ntmps45
                go_wp2_with (go_at_call 67; first | (refine (from_is _ (by assumption)).mono ?_; rintro e w' ⟨rfl, rfl⟩) | (refine (from_is _ (show _ = true by decide)).mono ?_; rintro e w' ⟨rfl, rfl⟩) | (refine (from_is _ (show _ = false by decide)).mono ?_; rintro e w' ⟨rfl, rfl⟩))
                go_ret
                exact ⟨by simp [valuesR, ho], HB.out⟩
      · have e3 := beq_no ze3
        go_enter Tryd.func45, Tryd.ntmps45
        go_wp2_with (go_at_call 67; first | (refine (from_is _ (by assumption)).mono ?_; rintro e w' ⟨rfl, rfl⟩) | (refine (from_is _ (show _ = true by decide)).mono ?_; rintro e w' ⟨rfl, rfl⟩) | (refine (from_is _ (show _ = false by decide)).mono ?_; rintro e w' ⟨rfl, rfl⟩))
        go_ret
        exact ⟨by simp [ze3], HB.out⟩
    · have e2 := beq_no ze2
      go_enter Tryd.func45, Tryd.ntmps45
      go_wp2_with (go_at_call 67; first | (refine (from_is _ (by assumption)).mono ?_; rintro e w' ⟨rfl, rfl⟩) | (refine (from_is _ (show _ = true by decide)).mono ?_; rintro e w' ⟨rfl, rfl⟩) | (refine (from_is _ (show _ = false by decide)).mono ?_; rintro e w' ⟨rfl, rfl⟩))
      go_ret
      exact ⟨by simp [ze2], HB.out⟩
theorem goodR_2 (txn page prev next key : Int) (had has : Bool) (old new : Int) : goodR ⟨2, txn, page, prev, next, key, had, has, old, new⟩ = (inR txn 1 60000 && (inR page 1 32 && (inR prev 0 1073741824 && (inR next 0 0 && (inR key 0 1048575 && valuesR ⟨2, txn, page, prev, next, key, had, has, old, new⟩))))) := by
  have hp : prevR ⟨2, txn, page, prev, next, key, had, has, old, new⟩ = inR prev 0 1073741824 := by simp [prevR]
  have hn : nextR ⟨2, txn, page, prev, next, key, had, has, old, new⟩ = inR next 0 0 := by simp [nextR, inR_zero, beq_dec]
  have hk : keyR ⟨2, txn, page, prev, next, key, had, has, old, new⟩ = inR key 0 1048575 := by simp [keyR]
  have ht : inR txn (min (txnR ⟨2, txn, page, prev, next, key, had, has, old, new⟩) 1) (txnR ⟨2, txn, page, prev, next, key, had, has, old, new⟩) = inR txn 1 60000 := by rw [show txnR ⟨2, txn, page, prev, next, key, had, has, old, new⟩ = 60000 by simp [txnR]]; exact rfl
  have hg : inR page (min (pageR ⟨2, txn, page, prev, next, key, had, has, old, new⟩) 1) (pageR ⟨2, txn, page, prev, next, key, had, has, old, new⟩) = inR page 1 32 := by rw [show pageR ⟨2, txn, page, prev, next, key, had, has, old, new⟩ = 32 by simp [pageR]]; exact rfl
  have h0 : inR (2 : Int) 1 10 = true := by decide
  unfold goodR
  rw [hp, hn, hk, ht, hg]
  simp only [h0, Bool.true_and, Bool.and_assoc]
set_option maxRecDepth 10000 in
set_option maxHeartbeats 4000000 in
theorem goodRec_2 (w : World) (txn page prev next key : Int) (had has : Bool) (old new : Int) : Calls Tryd.prog 45 #[aggR ⟨2, txn, page, prev, next, key, had, has, old, new⟩] w fun e w' => e = .returned (.bool (goodR ⟨2, txn, page, prev, next, key, had, has, old, new⟩)) ∧ Below w.heap.size w w' := by
  have HB : Sc (Below w.heap.size w (w.alloc (.cells (cellsR ⟨2, txn, page, prev, next, key, had, has, old, new⟩) 51))) := ⟨dn_alloc (Below.refl _ _) _⟩
  rw [goodR_2]
  cases e1 : inR txn 1 60000 with
  | false =>
    go_enter Tryd.func45, Tryd.ntmps45
    go_wp2_with (go_at_call 67; first | (refine (from_is _ (by assumption)).mono ?_; rintro e w' ⟨rfl, rfl⟩) | (refine (from_is _ (show _ = true by decide)).mono ?_; rintro e w' ⟨rfl, rfl⟩) | (refine (from_is _ (show _ = false by decide)).mono ?_; rintro e w' ⟨rfl, rfl⟩))
    go_ret
    exact ⟨by simp, HB.out⟩
  | true =>
    cases e2 : inR page 1 32 with
    | false =>
      go_enter Tryd.func45, Tryd.ntmps45
      go_wp2_with (go_at_call 67; first | (refine (from_is _ (by assumption)).mono ?_; rintro e w' ⟨rfl, rfl⟩) | (refine (from_is _ (show _ = true by decide)).mono ?_; rintro e w' ⟨rfl, rfl⟩) | (refine (from_is _ (show _ = false by decide)).mono ?_; rintro e w' ⟨rfl, rfl⟩))
      go_ret
      exact ⟨by simp, HB.out⟩
    | true =>
      cases e3 : inR prev 0 1073741824 with
      | false =>
        go_enter Tryd.func45, Tryd.ntmps45
        go_wp2_with (go_at_call 67; first | (refine (from_is _ (by assumption)).mono ?_; rintro e w' ⟨rfl, rfl⟩) | (refine (from_is _ (show _ = true by decide)).mono ?_; rintro e w' ⟨rfl, rfl⟩) | (refine (from_is _ (show _ = false by decide)).mono ?_; rintro e w' ⟨rfl, rfl⟩))
        go_ret
        exact ⟨by simp, HB.out⟩
      | true =>
        cases e4 : inR next 0 0 with
        | false =>
          go_enter Tryd.func45, Tryd.ntmps45
          go_wp2_with (go_at_call 67; first | (refine (from_is _ (by assumption)).mono ?_; rintro e w' ⟨rfl, rfl⟩) | (refine (from_is _ (show _ = true by decide)).mono ?_; rintro e w' ⟨rfl, rfl⟩) | (refine (from_is _ (show _ = false by decide)).mono ?_; rintro e w' ⟨rfl, rfl⟩))
          go_ret
          exact ⟨by simp, HB.out⟩
        | true =>
          cases e5 : inR key 0 1048575 with
          | false =>
            go_enter Tryd.func45, Tryd.ntmps45
            go_wp2_with (go_at_call 67; first | (refine (from_is _ (by assumption)).mono ?_; rintro e w' ⟨rfl, rfl⟩) | (refine (from_is _ (show _ = true by decide)).mono ?_; rintro e w' ⟨rfl, rfl⟩) | (refine (from_is _ (show _ = false by decide)).mono ?_; rintro e w' ⟨rfl, rfl⟩))
            go_ret
            exact ⟨by simp, HB.out⟩
          | true =>
            cases had with
            | true =>
              cases has with
              | true =>
                go_enter Tryd.func45, Tryd.ntmps45
                go_wp2_with (go_at_call 67; first | (refine (from_is _ (by assumption)).mono ?_; rintro e w' ⟨rfl, rfl⟩) | (refine (from_is _ (show _ = true by decide)).mono ?_; rintro e w' ⟨rfl, rfl⟩) | (refine (from_is _ (show _ = false by decide)).mono ?_; rintro e w' ⟨rfl, rfl⟩))
                go_ret
                exact ⟨by simp [valuesR], HB.out⟩
              | false =>
                by_cases hn : new = 0
                · subst hn
                  go_enter Tryd.func45, Tryd.ntmps45
                  go_wp2_with (go_at_call 67; first | (refine (from_is _ (by assumption)).mono ?_; rintro e w' ⟨rfl, rfl⟩) | (refine (from_is _ (show _ = true by decide)).mono ?_; rintro e w' ⟨rfl, rfl⟩) | (refine (from_is _ (show _ = false by decide)).mono ?_; rintro e w' ⟨rfl, rfl⟩))
                  go_ret
                  exact ⟨by simp [valuesR], HB.out⟩
                · have hb := beq_no hn
                  go_enter Tryd.func45, Tryd.ntmps45
                  go_wp2_with (go_at_call 67; first | (refine (from_is _ (by assumption)).mono ?_; rintro e w' ⟨rfl, rfl⟩) | (refine (from_is _ (show _ = true by decide)).mono ?_; rintro e w' ⟨rfl, rfl⟩) | (refine (from_is _ (show _ = false by decide)).mono ?_; rintro e w' ⟨rfl, rfl⟩))
                  go_ret
                  exact ⟨by simp [valuesR, hn], HB.out⟩
            | false =>
              by_cases ho : old = 0
              · subst ho
                cases has with
                | true =>
                  go_enter Tryd.func45, Tryd.ntmps45
                  go_wp2_with (go_at_call 67; first | (refine (from_is _ (by assumption)).mono ?_; rintro e w' ⟨rfl, rfl⟩) | (refine (from_is _ (show _ = true by decide)).mono ?_; rintro e w' ⟨rfl, rfl⟩) | (refine (from_is _ (show _ = false by decide)).mono ?_; rintro e w' ⟨rfl, rfl⟩))
                  go_ret
                  exact ⟨by simp [valuesR], HB.out⟩
                | false =>
                  by_cases hn : new = 0
                  · subst hn
                    go_enter Tryd.func45, Tryd.ntmps45
                    go_wp2_with (go_at_call 67; first | (refine (from_is _ (by assumption)).mono ?_; rintro e w' ⟨rfl, rfl⟩) | (refine (from_is _ (show _ = true by decide)).mono ?_; rintro e w' ⟨rfl, rfl⟩) | (refine (from_is _ (show _ = false by decide)).mono ?_; rintro e w' ⟨rfl, rfl⟩))
                    go_ret
                    exact ⟨by simp [valuesR], HB.out⟩
                  · have hb := beq_no hn
                    go_enter Tryd.func45, Tryd.ntmps45
                    go_wp2_with (go_at_call 67; first | (refine (from_is _ (by assumption)).mono ?_; rintro e w' ⟨rfl, rfl⟩) | (refine (from_is _ (show _ = true by decide)).mono ?_; rintro e w' ⟨rfl, rfl⟩) | (refine (from_is _ (show _ = false by decide)).mono ?_; rintro e w' ⟨rfl, rfl⟩))
                    go_ret
                    exact ⟨by simp [valuesR, hn], HB.out⟩
              · have hb := beq_no ho
                cases has with
                | true =>
                  go_enter Tryd.func45, Tryd.ntmps45
                  go_wp2_with (go_at_call 67; first | (refine (from_is _ (by assumption)).mono ?_; rintro e w' ⟨rfl, rfl⟩) | (refine (from_is _ (show _ = true by decide)).mono ?_; rintro e w' ⟨rfl, rfl⟩) | (refine (from_is _ (show _ = false by decide)).mono ?_; rintro e w' ⟨rfl, rfl⟩))
                  go_ret
                  exact ⟨by simp [valuesR, ho], HB.out⟩
                | false =>
                  go_enter Tryd.func45, Tryd.ntmps45
                  go_wp2_with (go_at_call 67; first | (refine (from_is _ (by assumption)).mono ?_; rintro e w' ⟨rfl, rfl⟩) | (refine (from_is _ (show _ = true by decide)).mono ?_; rintro e w' ⟨rfl, rfl⟩) | (refine (from_is _ (show _ = false by decide)).mono ?_; rintro e w' ⟨rfl, rfl⟩))
                  go_ret
                  exact ⟨by simp [valuesR, ho], HB.out⟩
theorem goodR_3 (txn page prev next key : Int) (had has : Bool) (old new : Int) : goodR ⟨3, txn, page, prev, next, key, had, has, old, new⟩ = (inR txn 1 60000 && (inR page 1 32 && (inR prev 0 1073741824 && (inR next 0 1073741824 && (inR key 0 1048575 && valuesR ⟨3, txn, page, prev, next, key, had, has, old, new⟩))))) := by
  have hp : prevR ⟨3, txn, page, prev, next, key, had, has, old, new⟩ = inR prev 0 1073741824 := by simp [prevR]
  have hn : nextR ⟨3, txn, page, prev, next, key, had, has, old, new⟩ = inR next 0 1073741824 := by simp [nextR]
  have hk : keyR ⟨3, txn, page, prev, next, key, had, has, old, new⟩ = inR key 0 1048575 := by simp [keyR]
  have ht : inR txn (min (txnR ⟨3, txn, page, prev, next, key, had, has, old, new⟩) 1) (txnR ⟨3, txn, page, prev, next, key, had, has, old, new⟩) = inR txn 1 60000 := by rw [show txnR ⟨3, txn, page, prev, next, key, had, has, old, new⟩ = 60000 by simp [txnR]]; exact rfl
  have hg : inR page (min (pageR ⟨3, txn, page, prev, next, key, had, has, old, new⟩) 1) (pageR ⟨3, txn, page, prev, next, key, had, has, old, new⟩) = inR page 1 32 := by rw [show pageR ⟨3, txn, page, prev, next, key, had, has, old, new⟩ = 32 by simp [pageR]]; exact rfl
  have h0 : inR (3 : Int) 1 10 = true := by decide
  unfold goodR
  rw [hp, hn, hk, ht, hg]
  simp only [h0, Bool.true_and, Bool.and_assoc]
set_option maxRecDepth 10000 in
set_option maxHeartbeats 4000000 in
theorem goodRec_3 (w : World) (txn page prev next key : Int) (had has : Bool) (old new : Int) : Calls Tryd.prog 45 #[aggR ⟨3, txn, page, prev, next, key, had, has, old, new⟩] w fun e w' => e = .returned (.bool (goodR ⟨3, txn, page, prev, next, key, had, has, old, new⟩)) ∧ Below w.heap.size w w' := by
  have HB : Sc (Below w.heap.size w (w.alloc (.cells (cellsR ⟨3, txn, page, prev, next, key, had, has, old, new⟩) 51))) := ⟨dn_alloc (Below.refl _ _) _⟩
  rw [goodR_3]
  cases e1 : inR txn 1 60000 with
  | false =>
    go_enter Tryd.func45, Tryd.ntmps45
    go_wp2_with (go_at_call 67; first | (refine (from_is _ (by assumption)).mono ?_; rintro e w' ⟨rfl, rfl⟩) | (refine (from_is _ (show _ = true by decide)).mono ?_; rintro e w' ⟨rfl, rfl⟩) | (refine (from_is _ (show _ = false by decide)).mono ?_; rintro e w' ⟨rfl, rfl⟩))
    go_ret
    exact ⟨by simp, HB.out⟩
  | true =>
    cases e2 : inR page 1 32 with
    | false =>
      go_enter Tryd.func45, Tryd.ntmps45
      go_wp2_with (go_at_call 67; first | (refine (from_is _ (by assumption)).mono ?_; rintro e w' ⟨rfl, rfl⟩) | (refine (from_is _ (show _ = true by decide)).mono ?_; rintro e w' ⟨rfl, rfl⟩) | (refine (from_is _ (show _ = false by decide)).mono ?_; rintro e w' ⟨rfl, rfl⟩))
      go_ret
      exact ⟨by simp, HB.out⟩
    | true =>
      cases e3 : inR prev 0 1073741824 with
      | false =>
        go_enter Tryd.func45, Tryd.ntmps45
        go_wp2_with (go_at_call 67; first | (refine (from_is _ (by assumption)).mono ?_; rintro e w' ⟨rfl, rfl⟩) | (refine (from_is _ (show _ = true by decide)).mono ?_; rintro e w' ⟨rfl, rfl⟩) | (refine (from_is _ (show _ = false by decide)).mono ?_; rintro e w' ⟨rfl, rfl⟩))
        go_ret
        exact ⟨by simp, HB.out⟩
      | true =>
        cases e4 : inR next 0 1073741824 with
        | false =>
          go_enter Tryd.func45, Tryd.ntmps45
          go_wp2_with (go_at_call 67; first | (refine (from_is _ (by assumption)).mono ?_; rintro e w' ⟨rfl, rfl⟩) | (refine (from_is _ (show _ = true by decide)).mono ?_; rintro e w' ⟨rfl, rfl⟩) | (refine (from_is _ (show _ = false by decide)).mono ?_; rintro e w' ⟨rfl, rfl⟩))
          go_ret
          exact ⟨by simp, HB.out⟩
        | true =>
          cases e5 : inR key 0 1048575 with
          | false =>
            go_enter Tryd.func45, Tryd.ntmps45
            go_wp2_with (go_at_call 67; first | (refine (from_is _ (by assumption)).mono ?_; rintro e w' ⟨rfl, rfl⟩) | (refine (from_is _ (show _ = true by decide)).mono ?_; rintro e w' ⟨rfl, rfl⟩) | (refine (from_is _ (show _ = false by decide)).mono ?_; rintro e w' ⟨rfl, rfl⟩))
            go_ret
            exact ⟨by simp, HB.out⟩
          | true =>
            by_cases h1 : 1 ≤ old
            · have h1a : decide (old < 1) = false := decide_eq_false (by omega)
              have h1b : ¬ old = 0 := by omega
              by_cases h2 : old ≤ 1073741824
              · have h2a : decide (1073741824 < old) = false := decide_eq_false (by omega)
                cases had with
                | false =>
                  cases has with
                  | false =>
                    go_enter Tryd.func45, Tryd.ntmps45
                    go_wp2_with (go_at_call 67; first | (refine (from_is _ (by assumption)).mono ?_; rintro e w' ⟨rfl, rfl⟩) | (refine (from_is _ (show _ = true by decide)).mono ?_; rintro e w' ⟨rfl, rfl⟩) | (refine (from_is _ (show _ = false by decide)).mono ?_; rintro e w' ⟨rfl, rfl⟩))
                    go_ret
                    exact ⟨by simp [valuesR, h1b], HB.out⟩
                  | true =>
                    go_enter Tryd.func45, Tryd.ntmps45
                    go_wp2_with (go_at_call 67; first | (refine (from_is _ (by assumption)).mono ?_; rintro e w' ⟨rfl, rfl⟩) | (refine (from_is _ (show _ = true by decide)).mono ?_; rintro e w' ⟨rfl, rfl⟩) | (refine (from_is _ (show _ = false by decide)).mono ?_; rintro e w' ⟨rfl, rfl⟩))
                    go_ret
                    exact ⟨by simp [valuesR, h1b], HB.out⟩
                | true =>
                  cases has with
                  | true =>
                    go_enter Tryd.func45, Tryd.ntmps45
                    go_wp2_with (go_at_call 67; first | (refine (from_is _ (by assumption)).mono ?_; rintro e w' ⟨rfl, rfl⟩) | (refine (from_is _ (show _ = true by decide)).mono ?_; rintro e w' ⟨rfl, rfl⟩) | (refine (from_is _ (show _ = false by decide)).mono ?_; rintro e w' ⟨rfl, rfl⟩))
                    go_ret
                    exact ⟨by simp [valuesR, h1, h2], HB.out⟩
                  | false =>
                    by_cases hn : new = 0
                    · subst hn
                      go_enter Tryd.func45, Tryd.ntmps45
                      go_wp2_with (go_at_call 67; first | (refine (from_is _ (by assumption)).mono ?_; rintro e w' ⟨rfl, rfl⟩) | (refine (from_is _ (show _ = true by decide)).mono ?_; rintro e w' ⟨rfl, rfl⟩) | (refine (from_is _ (show _ = false by decide)).mono ?_; rintro e w' ⟨rfl, rfl⟩))
                      go_ret
                      exact ⟨by simp [valuesR, h1, h2], HB.out⟩
                    · have hb := beq_no hn
                      go_enter Tryd.func45, Tryd.ntmps45
                      go_wp2_with (go_at_call 67; first | (refine (from_is _ (by assumption)).mono ?_; rintro e w' ⟨rfl, rfl⟩) | (refine (from_is _ (show _ = true by decide)).mono ?_; rintro e w' ⟨rfl, rfl⟩) | (refine (from_is _ (show _ = false by decide)).mono ?_; rintro e w' ⟨rfl, rfl⟩))
                      go_ret
                      exact ⟨by simp [valuesR, hn], HB.out⟩
              · have h2a : decide (1073741824 < old) = true := decide_eq_true (by omega)
                cases had with
                | false =>
                  cases has with
                  | false =>
                    go_enter Tryd.func45, Tryd.ntmps45
                    go_wp2_with (go_at_call 67; first | (refine (from_is _ (by assumption)).mono ?_; rintro e w' ⟨rfl, rfl⟩) | (refine (from_is _ (show _ = true by decide)).mono ?_; rintro e w' ⟨rfl, rfl⟩) | (refine (from_is _ (show _ = false by decide)).mono ?_; rintro e w' ⟨rfl, rfl⟩))
                    go_ret
                    exact ⟨by simp [valuesR, h1b], HB.out⟩
                  | true =>
                    go_enter Tryd.func45, Tryd.ntmps45
                    go_wp2_with (go_at_call 67; first | (refine (from_is _ (by assumption)).mono ?_; rintro e w' ⟨rfl, rfl⟩) | (refine (from_is _ (show _ = true by decide)).mono ?_; rintro e w' ⟨rfl, rfl⟩) | (refine (from_is _ (show _ = false by decide)).mono ?_; rintro e w' ⟨rfl, rfl⟩))
                    go_ret
                    exact ⟨by simp [valuesR, h1b], HB.out⟩
                | true =>
                  go_enter Tryd.func45, Tryd.ntmps45
                  go_wp2_with (go_at_call 67; first | (refine (from_is _ (by assumption)).mono ?_; rintro e w' ⟨rfl, rfl⟩) | (refine (from_is _ (show _ = true by decide)).mono ?_; rintro e w' ⟨rfl, rfl⟩) | (refine (from_is _ (show _ = false by decide)).mono ?_; rintro e w' ⟨rfl, rfl⟩))
                  go_ret
                  exact ⟨by simp [valuesR, h2], HB.out⟩
            · have h1a : decide (old < 1) = true := decide_eq_true (by omega)
              cases had with
              | false =>
                go_enter Tryd.func45, Tryd.ntmps45
                go_wp2_with (go_at_call 67; first | (refine (from_is _ (by assumption)).mono ?_; rintro e w' ⟨rfl, rfl⟩) | (refine (from_is _ (show _ = true by decide)).mono ?_; rintro e w' ⟨rfl, rfl⟩) | (refine (from_is _ (show _ = false by decide)).mono ?_; rintro e w' ⟨rfl, rfl⟩))
                go_ret
                exact ⟨by simp [valuesR], HB.out⟩
              | true =>
                have h1c : decide (1 ≤ old) = false := decide_eq_false h1
                go_enter Tryd.func45, Tryd.ntmps45
                go_wp2_with (go_at_call 67; first | (refine (from_is _ (by assumption)).mono ?_; rintro e w' ⟨rfl, rfl⟩) | (refine (from_is _ (show _ = true by decide)).mono ?_; rintro e w' ⟨rfl, rfl⟩) | (refine (from_is _ (show _ = false by decide)).mono ?_; rintro e w' ⟨rfl, rfl⟩))
                go_ret
                exact ⟨by simp only [valuesR, h1c]; simp, HB.out⟩
end
section
open Go.RowKit

theorem goodR_4 (txn page prev next key : Int) (had has : Bool) (old new : Int) : goodR ⟨4, txn, page, prev, next, key, had, has, old, new⟩ = (inR txn 1 60000 && ((page == 0) && (inR prev 0 1073741824 && (inR next 0 0 && (inR key 0 0 && valuesR ⟨4, txn, page, prev, next, key, had, has, old, new⟩))))) := by
  have hp : prevR ⟨4, txn, page, prev, next, key, had, has, old, new⟩ = inR prev 0 1073741824 := by simp [prevR]
  have hn : nextR ⟨4, txn, page, prev, next, key, had, has, old, new⟩ = inR next 0 0 := by simp [nextR, inR_zero, beq_dec]
  have hk : keyR ⟨4, txn, page, prev, next, key, had, has, old, new⟩ = inR key 0 0 := by simp [keyR, inR_zero, beq_dec]
  have ht : inR txn (min (txnR ⟨4, txn, page, prev, next, key, had, has, old, new⟩) 1) (txnR ⟨4, txn, page, prev, next, key, had, has, old, new⟩) = inR txn 1 60000 := by rw [show txnR ⟨4, txn, page, prev, next, key, had, has, old, new⟩ = 60000 by simp [txnR]]; exact rfl
  have hg : inR page (min (pageR ⟨4, txn, page, prev, next, key, had, has, old, new⟩) 1) (pageR ⟨4, txn, page, prev, next, key, had, has, old, new⟩) = (page == 0) := by rw [show pageR ⟨4, txn, page, prev, next, key, had, has, old, new⟩ = 0 by simp [pageR]]; exact inR_zero page
  have h0 : inR (4 : Int) 1 10 = true := by decide
  unfold goodR
  rw [hp, hn, hk, ht, hg]
  simp only [h0, Bool.true_and, Bool.and_assoc]
set_option maxRecDepth 10000 in
set_option maxHeartbeats 4000000 in
theorem goodRec_4 (w : World) (txn page prev next key : Int) (had has : Bool) (old new : Int) : Calls Tryd.prog 45 #[aggR ⟨4, txn, page, prev, next, key, had, has, old, new⟩] w fun e w' => e = .returned (.bool (goodR ⟨4, txn, page, prev, next, key, had, has, old, new⟩)) ∧ Below w.heap.size w w' := by
  have HB : Sc (Below w.heap.size w (w.alloc (.cells (cellsR ⟨4, txn, page, prev, next, key, had, has, old, new⟩) 51))) := ⟨dn_alloc (Below.refl _ _) _⟩
  rw [goodR_4]
  cases e1 : inR txn 1 60000 with
  | false =>
    go_enter Tryd.func45, Tryd.ntmps45
    go_wp2_with (go_at_call 67; first | (refine (from_is _ (by assumption)).mono ?_; rintro e w' ⟨rfl, rfl⟩) | (refine (from_is _ (show _ = true by decide)).mono ?_; rintro e w' ⟨rfl, rfl⟩) | (refine (from_is _ (show _ = false by decide)).mono ?_; rintro e w' ⟨rfl, rfl⟩))
    go_ret
    exact ⟨by simp, HB.out⟩
  | true =>
    by_cases ze2 : page = 0
    · subst ze2
      cases e3 : inR prev 0 1073741824 with
      | false =>
        go_enter Tryd.func45, Tryd.ntmps45
        go_wp2_with (go_at_call 67; first | (refine (from_is _ (by assumption)).mono ?_; rintro e w' ⟨rfl, rfl⟩) | (refine (from_is _ (show _ = true by decide)).mono ?_; rintro e w' ⟨rfl, rfl⟩) | (refine (from_is _ (show _ = false by decide)).mono ?_; rintro e w' ⟨rfl, rfl⟩))
        go_ret
        exact ⟨by simp, HB.out⟩
      | true =>
        cases e4 : inR next 0 0 with
        | false =>
          go_enter Tryd.func45, Tryd.ntmps45
          go_wp2_with (go_at_call 67; first | (refine (from_is _ (by assumption)).mono ?_; rintro e w' ⟨rfl, rfl⟩) | (refine (from_is _ (show _ = true by decide)).mono ?_; rintro e w' ⟨rfl, rfl⟩) | (refine (from_is _ (show _ = false by decide)).mono ?_; rintro e w' ⟨rfl, rfl⟩))
          go_ret
          exact ⟨by simp, HB.out⟩
        | true =>
          cases e5 : inR key 0 0 with
          | false =>
            go_enter Tryd.func45, Tryd.ntmps45
            go_wp2_with (go_at_call 67; first | (refine (from_is _ (by assumption)).mono ?_; rintro e w' ⟨rfl, rfl⟩) | (refine (from_is _ (show _ = true by decide)).mono ?_; rintro e w' ⟨rfl, rfl⟩) | (refine (from_is _ (show _ = false by decide)).mono ?_; rintro e w' ⟨rfl, rfl⟩))
            go_ret
            exact ⟨by simp, HB.out⟩
          | true =>
            cases had with
            | true =>
              go_enter Tryd.func45, Tryd.ntmps45
              go_wp2_with (go_at_call 67; first | (refine (from_is _ (by assumption)).mono ?_; rintro e w' ⟨rfl, rfl⟩) | (refine (from_is _ (show _ = true by decide)).mono ?_; rintro e w' ⟨rfl, rfl⟩) | (refine (from_is _ (show _ = false by decide)).mono ?_; rintro e w' ⟨rfl, rfl⟩))
              go_ret
              exact ⟨by simp [valuesR], HB.out⟩
            | false =>
              by_cases ho : old = 0
              · subst ho
                cases has with
                | true =>
                  go_enter Tryd.func45, Tryd.ntmps45
                  go_wp2_with (go_at_call 67; first | (refine (from_is _ (by assumption)).mono ?_; rintro e w' ⟨rfl, rfl⟩) | (refine (from_is _ (show _ = true by decide)).mono ?_; rintro e w' ⟨rfl, rfl⟩) | (refine (from_is _ (show _ = false by decide)).mono ?_; rintro e w' ⟨rfl, rfl⟩))
                  go_ret
                  exact ⟨by simp [valuesR], HB.out⟩
                | false =>
                  by_cases hn : new = 0
                  · subst hn
                    go_enter Tryd.func45, Tryd.ntmps45
                    go_wp2_with (go_at_call 67; first | (refine (from_is _ (by assumption)).mono ?_; rintro e w' ⟨rfl, rfl⟩) | (refine (from_is _ (show _ = true by decide)).mono ?_; rintro e w' ⟨rfl, rfl⟩) | (refine (from_is _ (show _ = false by decide)).mono ?_; rintro e w' ⟨rfl, rfl⟩))
                    go_ret
                    exact ⟨by simp [valuesR], HB.out⟩
                  · have hb := beq_no hn
                    go_enter Tryd.func45, Tryd.ntmps45
                    go_wp2_with (go_at_call 67; first | (refine (from_is _ (by assumption)).mono ?_; rintro e w' ⟨rfl, rfl⟩) | (refine (from_is _ (show _ = true by decide)).mono ?_; rintro e w' ⟨rfl, rfl⟩) | (refine (from_is _ (show _ = false by decide)).mono ?_; rintro e w' ⟨rfl, rfl⟩))
                    go_ret
                    exact ⟨by simp [valuesR, hn], HB.out⟩
              · have hb := beq_no ho
                go_enter Tryd.func45, Tryd.ntmps45
                go_wp2_with (go_at_call 67; first | (refine (from_is _ (by assumption)).mono ?_; rintro e w' ⟨rfl, rfl⟩) | (refine (from_is _ (show _ = true by decide)).mono ?_; rintro e w' ⟨rfl, rfl⟩) | (refine (from_is _ (show _ = false by decide)).mono ?_; rintro e w' ⟨rfl, rfl⟩))
                go_ret
                exact ⟨by simp [valuesR, ho], HB.out⟩
    · have e2 := beq_no ze2
      go_enter Tryd.func45, Tryd.ntmps45
      go_wp2_with (go_at_call 67; first | (refine (from_is _ (by assumption)).mono ?_; rintro e w' ⟨rfl, rfl⟩) | (refine (from_is _ (show _ = true by decide)).mono ?_; rintro e w' ⟨rfl, rfl⟩) | (refine (from_is _ (show _ = false by decide)).mono ?_; rintro e w' ⟨rfl, rfl⟩))
      go_ret
      exact ⟨by simp [ze2], HB.out⟩
theorem goodR_5 (txn page prev next key : Int) (had has : Bool) (old new : Int) : goodR ⟨5, txn, page, prev, next, key, had, has, old, new⟩ = (inR txn 1 60000 && ((page == 0) && (inR prev 0 1073741824 && (inR next 0 0 && (inR key 0 0 && valuesR ⟨5, txn, page, prev, next, key, had, has, old, new⟩))))) := by
  have hp : prevR ⟨5, txn, page, prev, next, key, had, has, old, new⟩ = inR prev 0 1073741824 := by simp [prevR]
  have hn : nextR ⟨5, txn, page, prev, next, key, had, has, old, new⟩ = inR next 0 0 := by simp [nextR, inR_zero, beq_dec]
  have hk : keyR ⟨5, txn, page, prev, next, key, had, has, old, new⟩ = inR key 0 0 := by simp [keyR, inR_zero, beq_dec]
  have ht : inR txn (min (txnR ⟨5, txn, page, prev, next, key, had, has, old, new⟩) 1) (txnR ⟨5, txn, page, prev, next, key, had, has, old, new⟩) = inR txn 1 60000 := by rw [show txnR ⟨5, txn, page, prev, next, key, had, has, old, new⟩ = 60000 by simp [txnR]]; exact rfl
  have hg : inR page (min (pageR ⟨5, txn, page, prev, next, key, had, has, old, new⟩) 1) (pageR ⟨5, txn, page, prev, next, key, had, has, old, new⟩) = (page == 0) := by rw [show pageR ⟨5, txn, page, prev, next, key, had, has, old, new⟩ = 0 by simp [pageR]]; exact inR_zero page
  have h0 : inR (5 : Int) 1 10 = true := by decide
  unfold goodR
  rw [hp, hn, hk, ht, hg]
  simp only [h0, Bool.true_and, Bool.and_assoc]
set_option maxRecDepth 10000 in
set_option maxHeartbeats 4000000 in
theorem goodRec_5 (w : World) (txn page prev next key : Int) (had has : Bool) (old new : Int) : Calls Tryd.prog 45 #[aggR ⟨5, txn, page, prev, next, key, had, has, old, new⟩] w fun e w' => e = .returned (.bool (goodR ⟨5, txn, page, prev, next, key, had, has, old, new⟩)) ∧ Below w.heap.size w w' := by
  have HB : Sc (Below w.heap.size w (w.alloc (.cells (cellsR ⟨5, txn, page, prev, next, key, had, has, old, new⟩) 51))) := ⟨dn_alloc (Below.refl _ _) _⟩
  rw [goodR_5]
  cases e1 : inR txn 1 60000 with
  | false =>
    go_enter Tryd.func45, Tryd.ntmps45
    go_wp2_with (go_at_call 67; first | (refine (from_is _ (by assumption)).mono ?_; rintro e w' ⟨rfl, rfl⟩) | (refine (from_is _ (show _ = true by decide)).mono ?_; rintro e w' ⟨rfl, rfl⟩) | (refine (from_is _ (show _ = false by decide)).mono ?_; rintro e w' ⟨rfl, rfl⟩))
    go_ret
    exact ⟨by simp, HB.out⟩
  | true =>
    by_cases ze2 : page = 0
    · subst ze2
      cases e3 : inR prev 0 1073741824 with
      | false =>
        go_enter Tryd.func45, Tryd.ntmps45
        go_wp2_with (go_at_call 67; first | (refine (from_is _ (by assumption)).mono ?_; rintro e w' ⟨rfl, rfl⟩) | (refine (from_is _ (show _ = true by decide)).mono ?_; rintro e w' ⟨rfl, rfl⟩) | (refine (from_is _ (show _ = false by decide)).mono ?_; rintro e w' ⟨rfl, rfl⟩))
        go_ret
        exact ⟨by simp, HB.out⟩
      | true =>
        cases e4 : inR next 0 0 with
        | false =>
          go_enter Tryd.func45, Tryd.ntmps45
          go_wp2_with (go_at_call 67; first | (refine (from_is _ (by assumption)).mono ?_; rintro e w' ⟨rfl, rfl⟩) | (refine (from_is _ (show _ = true by decide)).mono ?_; rintro e w' ⟨rfl, rfl⟩) | (refine (from_is _ (show _ = false by decide)).mono ?_; rintro e w' ⟨rfl, rfl⟩))
          go_ret
          exact ⟨by simp, HB.out⟩
        | true =>
          cases e5 : inR key 0 0 with
          | false =>
            go_enter Tryd.func45, Tryd.ntmps45
            go_wp2_with (go_at_call 67; first | (refine (from_is _ (by assumption)).mono ?_; rintro e w' ⟨rfl, rfl⟩) | (refine (from_is _ (show _ = true by decide)).mono ?_; rintro e w' ⟨rfl, rfl⟩) | (refine (from_is _ (show _ = false by decide)).mono ?_; rintro e w' ⟨rfl, rfl⟩))
            go_ret
            exact ⟨by simp, HB.out⟩
          | true =>
            cases had with
            | true =>
              go_enter Tryd.func45, Tryd.ntmps45
              go_wp2_with (go_at_call 67; first | (refine (from_is _ (by assumption)).mono ?_; rintro e w' ⟨rfl, rfl⟩) | (refine (from_is _ (show _ = true by decide)).mono ?_; rintro e w' ⟨rfl, rfl⟩) | (refine (from_is _ (show _ = false by decide)).mono ?_; rintro e w' ⟨rfl, rfl⟩))
              go_ret
              exact ⟨by simp [valuesR], HB.out⟩
            | false =>
              by_cases ho : old = 0
              · subst ho
                cases has with
                | true =>
                  go_enter Tryd.func45, Tryd.ntmps45
                  go_wp2_with (go_at_call 67; first | (refine (from_is _ (by assumption)).mono ?_; rintro e w' ⟨rfl, rfl⟩) | (refine (from_is _ (show _ = true by decide)).mono ?_; rintro e w' ⟨rfl, rfl⟩) | (refine (from_is _ (show _ = false by decide)).mono ?_; rintro e w' ⟨rfl, rfl⟩))
                  go_ret
                  exact ⟨by simp [valuesR], HB.out⟩
                | false =>
                  by_cases hn : new = 0
                  · subst hn
                    go_enter Tryd.func45, Tryd.ntmps45
                    go_wp2_with (go_at_call 67; first | (refine (from_is _ (by assumption)).mono ?_; rintro e w' ⟨rfl, rfl⟩) | (refine (from_is _ (show _ = true by decide)).mono ?_; rintro e w' ⟨rfl, rfl⟩) | (refine (from_is _ (show _ = false by decide)).mono ?_; rintro e w' ⟨rfl, rfl⟩))
                    go_ret
                    exact ⟨by simp [valuesR], HB.out⟩
                  · have hb := beq_no hn
                    go_enter Tryd.func45, Tryd.ntmps45
                    go_wp2_with (go_at_call 67; first | (refine (from_is _ (by assumption)).mono ?_; rintro e w' ⟨rfl, rfl⟩) | (refine (from_is _ (show _ = true by decide)).mono ?_; rintro e w' ⟨rfl, rfl⟩) | (refine (from_is _ (show _ = false by decide)).mono ?_; rintro e w' ⟨rfl, rfl⟩))
                    go_ret
                    exact ⟨by simp [valuesR, hn], HB.out⟩
              · have hb := beq_no ho
                go_enter Tryd.func45, Tryd.ntmps45
                go_wp2_with (go_at_call 67; first | (refine (from_is _ (by assumption)).mono ?_; rintro e w' ⟨rfl, rfl⟩) | (refine (from_is _ (show _ = true by decide)).mono ?_; rintro e w' ⟨rfl, rfl⟩) | (refine (from_is _ (show _ = false by decide)).mono ?_; rintro e w' ⟨rfl, rfl⟩))
                go_ret
                exact ⟨by simp [valuesR, ho], HB.out⟩
    · have e2 := beq_no ze2
      go_enter Tryd.func45, Tryd.ntmps45
      go_wp2_with (go_at_call 67; first | (refine (from_is _ (by assumption)).mono ?_; rintro e w' ⟨rfl, rfl⟩) | (refine (from_is _ (show _ = true by decide)).mono ?_; rintro e w' ⟨rfl, rfl⟩) | (refine (from_is _ (show _ = false by decide)).mono ?_; rintro e w' ⟨rfl, rfl⟩))
      go_ret
      exact ⟨by simp [ze2], HB.out⟩
theorem goodR_6 (txn page prev next key : Int) (had has : Bool) (old new : Int) : goodR ⟨6, txn, page, prev, next, key, had, has, old, new⟩ = (inR txn 1 60000 && ((page == 0) && (inR prev 0 1073741824 && (inR next 0 0 && (inR key 0 0 && valuesR ⟨6, txn, page, prev, next, key, had, has, old, new⟩))))) := by
  have hp : prevR ⟨6, txn, page, prev, next, key, had, has, old, new⟩ = inR prev 0 1073741824 := by simp [prevR]
  have hn : nextR ⟨6, txn, page, prev, next, key, had, has, old, new⟩ = inR next 0 0 := by simp [nextR, inR_zero, beq_dec]
  have hk : keyR ⟨6, txn, page, prev, next, key, had, has, old, new⟩ = inR key 0 0 := by simp [keyR, inR_zero, beq_dec]
  have ht : inR txn (min (txnR ⟨6, txn, page, prev, next, key, had, has, old, new⟩) 1) (txnR ⟨6, txn, page, prev, next, key, had, has, old, new⟩) = inR txn 1 60000 := by rw [show txnR ⟨6, txn, page, prev, next, key, had, has, old, new⟩ = 60000 by simp [txnR]]; exact rfl
  have hg : inR page (min (pageR ⟨6, txn, page, prev, next, key, had, has, old, new⟩) 1) (pageR ⟨6, txn, page, prev, next, key, had, has, old, new⟩) = (page == 0) := by rw [show pageR ⟨6, txn, page, prev, next, key, had, has, old, new⟩ = 0 by simp [pageR]]; exact inR_zero page
  have h0 : inR (6 : Int) 1 10 = true := by decide
  unfold goodR
  rw [hp, hn, hk, ht, hg]
  simp only [h0, Bool.true_and, Bool.and_assoc]
set_option maxRecDepth 10000 in
set_option maxHeartbeats 4000000 in
theorem goodRec_6 (w : World) (txn page prev next key : Int) (had has : Bool) (old new : Int) : Calls Tryd.prog 45 #[aggR ⟨6, txn, page, prev, next, key, had, has, old, new⟩] w fun e w' => e = .returned (.bool (goodR ⟨6, txn, page, prev, next, key, had, has, old, new⟩)) ∧ Below w.heap.size w w' := by
  have HB : Sc (Below w.heap.size w (w.alloc (.cells (cellsR ⟨6, txn, page, prev, next, key, had, has, old, new⟩) 51))) := ⟨dn_alloc (Below.refl _ _) _⟩
  rw [goodR_6]
  cases e1 : inR txn 1 60000 with
  | false =>
    go_enter Tryd.func45, Tryd.ntmps45
    go_wp2_with (go_at_call 67; first | (refine (from_is _ (by assumption)).mono ?_; rintro e w' ⟨rfl, rfl⟩) | (refine (from_is _ (show _ = true by decide)).mono ?_; rintro e w' ⟨rfl, rfl⟩) | (refine (from_is _ (show _ = false by decide)).mono ?_; rintro e w' ⟨rfl, rfl⟩))
    go_ret
    exact ⟨by simp, HB.out⟩
  | true =>
    by_cases ze2 : page = 0
    · subst ze2
      cases e3 : inR prev 0 1073741824 with
      | false =>
        go_enter Tryd.func45, Tryd.ntmps45
        go_wp2_with (go_at_call 67; first | (refine (from_is _ (by assumption)).mono ?_; rintro e w' ⟨rfl, rfl⟩) | (refine (from_is _ (show _ = true by decide)).mono ?_; rintro e w' ⟨rfl, rfl⟩) | (refine (from_is _ (show _ = false by decide)).mono ?_; rintro e w' ⟨rfl, rfl⟩))
        go_ret
        exact ⟨by simp, HB.out⟩
      | true =>
        cases e4 : inR next 0 0 with
        | false =>
          go_enter Tryd.func45, Tryd.ntmps45
          go_wp2_with (go_at_call 67; first | (refine (from_is _ (by assumption)).mono ?_; rintro e w' ⟨rfl, rfl⟩) | (refine (from_is _ (show _ = true by decide)).mono ?_; rintro e w' ⟨rfl, rfl⟩) | (refine (from_is _ (show _ = false by decide)).mono ?_; rintro e w' ⟨rfl, rfl⟩))
          go_ret
          exact ⟨by simp, HB.out⟩
        | true =>
          cases e5 : inR key 0 0 with
          | false =>
            go_enter Tryd.func45, Tryd.ntmps45
            go_wp2_with (go_at_call 67; first | (refine (from_is _ (by assumption)).mono ?_; rintro e w' ⟨rfl, rfl⟩) | (refine (from_is _ (show _ = true by decide)).mono ?_; rintro e w' ⟨rfl, rfl⟩) | (refine (from_is _ (show _ = false by decide)).mono ?_; rintro e w' ⟨rfl, rfl⟩))
            go_ret
            exact ⟨by simp, HB.out⟩
          | true =>
            cases had with
            | true =>
              go_enter Tryd.func45, Tryd.ntmps45
              go_wp2_with (go_at_call 67; first | (refine (from_is _ (by assumption)).mono ?_; rintro e w' ⟨rfl, rfl⟩) | (refine (from_is _ (show _ = true by decide)).mono ?_; rintro e w' ⟨rfl, rfl⟩) | (refine (from_is _ (show _ = false by decide)).mono ?_; rintro e w' ⟨rfl, rfl⟩))
              go_ret
              exact ⟨by simp [valuesR], HB.out⟩
            | false =>
              by_cases ho : old = 0
              · subst ho
                cases has with
                | true =>
                  go_enter Tryd.func45, Tryd.ntmps45
                  go_wp2_with (go_at_call 67; first | (refine (from_is _ (by assumption)).mono ?_; rintro e w' ⟨rfl, rfl⟩) | (refine (from_is _ (show _ = true by decide)).mono ?_; rintro e w' ⟨rfl, rfl⟩) | (refine (from_is _ (show _ = false by decide)).mono ?_; rintro e w' ⟨rfl, rfl⟩))
                  go_ret
                  exact ⟨by simp [valuesR], HB.out⟩
                | false =>
                  by_cases hn : new = 0
                  · subst hn
                    go_enter Tryd.func45, Tryd.ntmps45
                    go_wp2_with (go_at_call 67; first | (refine (from_is _ (by assumption)).mono ?_; rintro e w' ⟨rfl, rfl⟩) | (refine (from_is _ (show _ = true by decide)).mono ?_; rintro e w' ⟨rfl, rfl⟩) | (refine (from_is _ (show _ = false by decide)).mono ?_; rintro e w' ⟨rfl, rfl⟩))
                    go_ret
                    exact ⟨by simp [valuesR], HB.out⟩
                  · have hb := beq_no hn
                    go_enter Tryd.func45, Tryd.ntmps45
                    go_wp2_with (go_at_call 67; first | (refine (from_is _ (by assumption)).mono ?_; rintro e w' ⟨rfl, rfl⟩) | (refine (from_is _ (show _ = true by decide)).mono ?_; rintro e w' ⟨rfl, rfl⟩) | (refine (from_is _ (show _ = false by decide)).mono ?_; rintro e w' ⟨rfl, rfl⟩))
                    go_ret
                    exact ⟨by simp [valuesR, hn], HB.out⟩
              · have hb := beq_no ho
                go_enter Tryd.func45, Tryd.ntmps45
                go_wp2_with (go_at_call 67; first | (refine (from_is _ (by assumption)).mono ?_; rintro e w' ⟨rfl, rfl⟩) | (refine (from_is _ (show _ = true by decide)).mono ?_; rintro e w' ⟨rfl, rfl⟩) | (refine (from_is _ (show _ = false by decide)).mono ?_; rintro e w' ⟨rfl, rfl⟩))
                go_ret
                exact ⟨by simp [valuesR, ho], HB.out⟩
    · have e2 := beq_no ze2
      go_enter Tryd.func45, Tryd.ntmps45
      go_wp2_with (go_at_call 67; first | (refine (from_is _ (by assumption)).mono ?_; rintro e w' ⟨rfl, rfl⟩) | (refine (from_is _ (show _ = true by decide)).mono ?_; rintro e w' ⟨rfl, rfl⟩) | (refine (from_is _ (show _ = false by decide)).mono ?_; rintro e w' ⟨rfl, rfl⟩))
      go_ret
      exact ⟨by simp [ze2], HB.out⟩
end
end Go.Proofs.YtoapihepdallbaaDoor
