/- Whether a record may be: rec.Check, and what it calls. -/
import Derived.Test.YtoapihepdallbaaDoorRecB
import Derived.Test.YtoapihepdallbaaDoorSeeG
namespace Go.Proofs.YtoapihepdallbaaDoor
open Go.RowKit

set_option maxHeartbeats 400000 in
theorem in_any (w : World) (n lo hi : Int) : Calls Tryd.prog 62 #[.int .i64 n, .int .i64 lo, .int .i64 hi] w fun e w' => e = .returned (.bool (inR n lo hi)) ∧ w' = w := by
  by_cases h : lo ≤ n
  · have h1 : decide (lo ≤ n) = true := decide_eq_true h
    have HI : Sc (inR n lo hi = decide (n ≤ hi)) := ⟨by unfold inR; rw [h1, Bool.true_and]⟩
    rw [HI.out]
    clear h
    go_enter Tryd.func62, Tryd.ntmps62
    go_wp2
    go_ret
    exact ⟨rfl, rfl⟩
  · have h1 : decide (lo ≤ n) = false := decide_eq_false h
    have HI : Sc (inR n lo hi = false) := ⟨by unfold inR; rw [h1, Bool.false_and]⟩
    rw [HI.out]
    clear h
    go_enter Tryd.func62, Tryd.ntmps62
    go_wp2
    go_ret
    exact ⟨rfl, rfl⟩
theorem beq_no {x y : Int} (h : x ≠ y) : (x == y) = false := by simp [h]
theorem beq_dec (x y : Int) : (x == y) = decide (x = y) := by
  by_cases h : x = y
  · simp [h]
  · simp [h]

set_option maxRecDepth 4000 in
set_option maxHeartbeats 1000000 in
theorem recPrev_any (w : World) (r : RecD) : Calls Tryd.prog 63 #[aggR r] w fun e w' => e = .returned (.bool (prevR r)) ∧ Below w.heap.size w w' := by
  have HB : Sc (Below w.heap.size w (w.alloc (.cells (cellsR r) 51))) := ⟨dn_alloc (Below.refl _ _) _⟩
  obtain ⟨kind, txn, page, prev, next, key, had, has, old, new⟩ := r
  by_cases h : kind = 1 ∨ kind = 7 ∨ kind = 10
  · have HP : Sc (prevR ⟨kind, txn, page, prev, next, key, had, has, old, new⟩ = (prev == 0)) := ⟨by unfold prevR; rw [if_pos h, beq_dec]⟩
    rw [HP.out]
    rcases h with rfl | rfl | rfl
    all_goals
      go_enter Tryd.func63, Tryd.ntmps63
      go_wp2
      go_ret
      exact ⟨rfl, HB.out⟩
  · have h1 : (kind == 1) = false := beq_no (fun he => h (.inl he))
    have h7 : (kind == 7) = false := beq_no (fun he => h (.inr (.inl he)))
    have h10 : (kind == 10) = false := beq_no (fun he => h (.inr (.inr he)))
    by_cases h9 : kind = 9
    · have HP : Sc (prevR ⟨kind, txn, page, prev, next, key, had, has, old, new⟩ = inR prev 1 1073741824) := ⟨by unfold prevR; rw [if_neg h, if_pos h9]⟩
      rw [HP.out]
      subst h9
      clear h
      go_enter Tryd.func63, Tryd.ntmps63
      go_wp2_with (go_at_call 62; refine (in_any _ _ _ _).mono ?_; rintro e w' ⟨rfl, rfl⟩)
      go_ret
      exact ⟨rfl, HB.out⟩
    · have HP : Sc (prevR ⟨kind, txn, page, prev, next, key, had, has, old, new⟩ = inR prev 0 1073741824) := ⟨by unfold prevR; rw [if_neg h, if_neg h9]⟩
      rw [HP.out]
      have h9' : (kind == 9) = false := beq_no h9
      clear h h9
      go_enter Tryd.func63, Tryd.ntmps63
      go_wp2_with (go_at_call 62; refine (in_any _ _ _ _).mono ?_; rintro e w' ⟨rfl, rfl⟩)
      go_ret
      exact ⟨rfl, HB.out⟩

set_option maxRecDepth 4000 in
set_option maxHeartbeats 1000000 in
theorem recNext_any (w : World) (r : RecD) : Calls Tryd.prog 64 #[aggR r] w fun e w' => e = .returned (.bool (nextR r)) ∧ Below w.heap.size w w' := by
  have HB : Sc (Below w.heap.size w (w.alloc (.cells (cellsR r) 51))) := ⟨dn_alloc (Below.refl _ _) _⟩
  obtain ⟨kind, txn, page, prev, next, key, had, has, old, new⟩ := r
  by_cases h : kind = 3 ∨ kind = 8
  · have HP : Sc (nextR ⟨kind, txn, page, prev, next, key, had, has, old, new⟩ = inR next 0 1073741824) := ⟨by unfold nextR; rw [if_pos h]⟩
    rw [HP.out]
    rcases h with rfl | rfl
    all_goals
      go_enter Tryd.func64, Tryd.ntmps64
      go_wp2_with (go_at_call 62; refine (in_any _ _ _ _).mono ?_; rintro e w' ⟨rfl, rfl⟩)
      go_ret
      exact ⟨rfl, HB.out⟩
  · have h3 : (kind == 3) = false := beq_no (fun he => h (.inl he))
    have h8 : (kind == 8) = false := beq_no (fun he => h (.inr he))
    by_cases h10 : kind = 10
    · have HP : Sc (nextR ⟨kind, txn, page, prev, next, key, had, has, old, new⟩ = inR next 0 60000) := ⟨by unfold nextR; rw [if_neg h, if_pos h10]⟩
      rw [HP.out]
      subst h10
      clear h
      go_enter Tryd.func64, Tryd.ntmps64
      go_wp2_with (go_at_call 62; refine (in_any _ _ _ _).mono ?_; rintro e w' ⟨rfl, rfl⟩)
      go_ret
      exact ⟨rfl, HB.out⟩
    · have HP : Sc (nextR ⟨kind, txn, page, prev, next, key, had, has, old, new⟩ = (next == 0)) := ⟨by unfold nextR; rw [if_neg h, if_neg h10, beq_dec]⟩
      rw [HP.out]
      have h10' : (kind == 10) = false := beq_no h10
      clear h h10
      go_enter Tryd.func64, Tryd.ntmps64
      go_wp2
      go_ret
      exact ⟨rfl, HB.out⟩

set_option maxRecDepth 4000 in
set_option maxHeartbeats 1000000 in
theorem recKey_any (w : World) (r : RecD) : Calls Tryd.prog 65 #[aggR r] w fun e w' => e = .returned (.bool (keyR r)) ∧ Below w.heap.size w w' := by
  have HB : Sc (Below w.heap.size w (w.alloc (.cells (cellsR r) 51))) := ⟨dn_alloc (Below.refl _ _) _⟩
  obtain ⟨kind, txn, page, prev, next, key, had, has, old, new⟩ := r
  by_cases h : kind = 2 ∨ kind = 3
  · have HP : Sc (keyR ⟨kind, txn, page, prev, next, key, had, has, old, new⟩ = inR key 0 1048575) := ⟨by unfold keyR; rw [if_pos h]⟩
    rw [HP.out]
    rcases h with rfl | rfl
    all_goals
      go_enter Tryd.func65, Tryd.ntmps65
      go_wp2_with (go_at_call 62; refine (in_any _ _ _ _).mono ?_; rintro e w' ⟨rfl, rfl⟩)
      go_ret
      exact ⟨rfl, HB.out⟩
  · have h2 : (kind == 2) = false := beq_no (fun he => h (.inl he))
    have h3 : (kind == 3) = false := beq_no (fun he => h (.inr he))
    by_cases h8 : kind = 8
    · have HP : Sc (keyR ⟨kind, txn, page, prev, next, key, had, has, old, new⟩ = inR key 0 2) := ⟨by unfold keyR; rw [if_neg h, if_pos h8]⟩
      rw [HP.out]
      subst h8
      clear h
      go_enter Tryd.func65, Tryd.ntmps65
      go_wp2_with (go_at_call 62; refine (in_any _ _ _ _).mono ?_; rintro e w' ⟨rfl, rfl⟩)
      go_ret
      exact ⟨rfl, HB.out⟩
    · have HP : Sc (keyR ⟨kind, txn, page, prev, next, key, had, has, old, new⟩ = (key == 0)) := ⟨by unfold keyR; rw [if_neg h, if_neg h8, beq_dec]⟩
      rw [HP.out]
      have h8' : (kind == 8) = false := beq_no h8
      clear h h8
      go_enter Tryd.func65, Tryd.ntmps65
      go_wp2
      go_ret
      exact ⟨rfl, HB.out⟩

set_option maxRecDepth 4000 in
set_option maxHeartbeats 2000000 in
theorem recValues_any (w : World) (r : RecD) : Calls Tryd.prog 66 #[aggR r] w fun e w' => e = .returned (.bool (valuesR r)) ∧ Below w.heap.size w w' := by
  have HB : Sc (Below w.heap.size w (w.alloc (.cells (cellsR r) 51))) := ⟨dn_alloc (Below.refl _ _) _⟩
  obtain ⟨kind, txn, page, prev, next, key, had, has, old, new⟩ := r
  by_cases h1 : has = false ∧ new ≠ 0
  · obtain ⟨rfl, h1⟩ := h1
    have HP : Sc (valuesR ⟨kind, txn, page, prev, next, key, had, false, old, new⟩ = false) := ⟨by unfold valuesR; rw [if_pos (.inl ⟨rfl, h1⟩)]⟩
    rw [HP.out]
    have hb := beq_no h1
    clear h1
    go_enter Tryd.func66, Tryd.ntmps66
    go_wp2
    go_ret
    exact ⟨rfl, HB.out⟩
  · by_cases h2 : had = false ∧ old ≠ 0
    · obtain ⟨rfl, h2⟩ := h2
      have HP : Sc (valuesR ⟨kind, txn, page, prev, next, key, false, has, old, new⟩ = false) := ⟨by unfold valuesR; rw [if_pos (.inr ⟨rfl, h2⟩)]⟩
      rw [HP.out]
      have hb := beq_no h2
      cases has with
      | true =>
        clear h1 h2
        go_enter Tryd.func66, Tryd.ntmps66
        go_wp2
        go_ret
        exact ⟨rfl, HB.out⟩
      | false =>
        obtain rfl : new = 0 := by simpa using h1
        clear h1 h2
        go_enter Tryd.func66, Tryd.ntmps66
        go_wp2
        go_ret
        exact ⟨rfl, HB.out⟩
    · have HV : Sc (∀ k, valuesR ⟨k, txn, page, prev, next, key, had, has, old, new⟩ = if k = 2 then had || has else if k = 3 then had && (decide (1 ≤ old) && decide (old ≤ 1073741824)) else !had && !has) := ⟨fun k => by
        unfold valuesR
        rw [if_neg (fun h => h.elim h1 h2)]⟩
      have hn : has = false → new = 0 := fun h => by simpa [h] using h1
      have ho : had = false → old = 0 := fun h => by simpa [h] using h2
      clear h1 h2
      by_cases k2 : kind = 2
      · subst k2
        have HP := Sc.mk (HV.out 2)
        rw [if_pos rfl] at HP
        rw [HP.out]
        cases has <;> cases had
        all_goals
          (try obtain rfl := hn rfl)
          (try obtain rfl := ho rfl)
          clear hn ho HV
          go_enter Tryd.func66, Tryd.ntmps66
          go_wp2
          go_ret
          exact ⟨rfl, HB.out⟩
      · by_cases k3 : kind = 3
        · subst k3
          have HP := Sc.mk (HV.out 3)
          rw [if_neg (by omega), if_pos rfl] at HP
          rw [HP.out]
          by_cases g1 : 1 ≤ old
          · have g1' : decide (1 ≤ old) = true := decide_eq_true g1
            have g0 : (old == 0) = false := beq_no (by omega)
            rw [g1', Bool.true_and]
            clear g1
            cases has <;> cases had
            all_goals
              (try obtain rfl := hn rfl)
              (try obtain rfl := ho rfl)
              (try (exact absurd g0 (by decide)))
            all_goals
              clear hn ho HV
              go_enter Tryd.func66, Tryd.ntmps66
              go_wp2
              go_ret
              exact ⟨rfl, HB.out⟩
          · have g1' : decide (1 ≤ old) = false := decide_eq_false g1
            rw [g1', Bool.false_and, Bool.and_false]
            clear g1
            cases has <;> cases had
            all_goals
              (try obtain rfl := hn rfl)
              (try obtain rfl := ho rfl)
              clear hn ho HV
              go_enter Tryd.func66, Tryd.ntmps66
              go_wp2
              go_ret
              exact ⟨rfl, HB.out⟩
        · have HP := Sc.mk (HV.out kind)
          rw [if_neg k2, if_neg k3] at HP
          rw [HP.out]
          have b2 := beq_no k2
          have b3 := beq_no k3
          clear k2 k3
          cases has <;> cases had
          all_goals
            (try obtain rfl := hn rfl)
            (try obtain rfl := ho rfl)
            clear hn ho HV
            go_enter Tryd.func66, Tryd.ntmps66
            go_wp2
            go_ret
            exact ⟨rfl, HB.out⟩
end Go.Proofs.YtoapihepdallbaaDoor
