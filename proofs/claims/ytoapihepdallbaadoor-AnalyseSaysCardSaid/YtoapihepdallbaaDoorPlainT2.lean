/- Plain facts on the table of transactions, for the laws: what was put in is found; numbers that rise by one. -/
import Derived.Test.YtoapihepdallbaaDoorPlainT
namespace Go.Proofs.YtoapihepdallbaaDoor
section
variable {β : Type}
theorem has_setIn (l : List (Int × β)) (x : Int × β) : has (setIn l x) x.1 = true := by
  unfold setIn
  split
  · rename_i hh
    obtain ⟨y, hy, hk⟩ := has_iff.1 hh
    refine has_iff.2 ⟨x, ?_, rfl⟩
    by_cases hp : pos l x.1 < l.length
    · exact List.mem_iff_getElem?.2 ⟨pos l x.1, by rw [List.getElem?_set_self hp]⟩
    · exfalso
      have h1 : l.all (fun z => decide (z.1 < x.1)) = true := by
        have h2 : pos l x.1 = l.length := by have := pos_le l x.1; omega
        unfold pos at h2
        rw [List.countP_eq_length] at h2
        rw [List.all_eq_true]
        exact h2
      rw [List.all_eq_true] at h1
      have := h1 y hy
      simp at this
      omega
  · exact has_iff.2 ⟨x, mem_put.2 (.inl rfl), rfl⟩
theorem mem_setIn {l : List (Int × β)} {x y : Int × β} (h : y ∈ setIn l x) : y = x ∨ y ∈ l := by
  unfold setIn at h
  split at h
  · rcases List.mem_or_eq_of_mem_set h with h | h
    · exact .inr h
    · exact .inl h
  · exact mem_put.1 h
theorem mem_drop' {l : List (Int × β)} {k : Int} {y : Int × β} (h : y ∈ drop' l k) : y ∈ l := by
  unfold drop' at h
  split at h
  · unfold cut at h
    rcases List.mem_append.1 h with h | h
    · exact List.mem_of_mem_take h
    · exact List.mem_of_mem_drop h
  · exact h
theorem has_not {l : List (Int × β)} {k : Int} (h : ∀ x ∈ l, x.1 ≠ k) : has l k = false := by
  cases hh : has l k with
  | false => rfl
  | true =>
    obtain ⟨x, hx, hk⟩ := has_iff.1 hh
    exact absurd hk (h x hx)
theorem at_setIn {l : List (Int × β)} (hr : Rising l) (x : Int × β) : (setIn l x)[pos (setIn l x) x.1]? = some x := by
  have hr' := setIn_rising hr x
  obtain ⟨y, hy, hk⟩ := (has_at hr' x.1).1 (has_setIn l x)
  have hm : x ∈ setIn l x := by
    unfold setIn
    split
    · rename_i hh
      exact List.mem_iff_getElem?.2 ⟨pos l x.1, by rw [List.getElem?_set_self (has_lt hr hh)]⟩
    · exact mem_put.2 (.inl rfl)
  rw [hy, hr'.eq_of_mem (List.mem_of_getElem? hy) hm hk]
/-- A key above all others goes to the end. -/
theorem pos_end {l : List (Int × β)} {k : Int} (h : ∀ x ∈ l, x.1 < k) : pos l k = l.length := by
  unfold pos
  rw [List.countP_eq_length]
  intro x hx
  simpa using h x hx
theorem setIn_end {l : List (Int × β)} {x : Int × β} (h : ∀ y ∈ l, y.1 < x.1) : setIn l x = l ++ [x] := by
  rw [setIn_no (has_not (fun y hy => by have := h y hy; omega))]
  unfold put
  rw [pos_end h, List.take_length, List.drop_length]
theorem upd_end {l : List (Int × β)} {k : Int} {y : β} (f : β → β) (h : ∀ z ∈ l, z.1 < k) : upd (l ++ [(k, y)]) k f = l ++ [(k, f y)] := by
  have hp : pos (l ++ [(k, y)]) k = l.length := by
    unfold pos
    rw [List.countP_append, List.countP_cons_of_neg (by simp)]
    have := pos_end h
    unfold pos at this
    rw [this]
    simp
  have hh : has (l ++ [(k, y)]) k = true := has_iff.2 ⟨(k, y), by simp, rfl⟩
  rw [upd_yes (x := (k, y)) f hh (by rw [hp]; simp), hp]
  simp
end

/-- The rows that TransAll makes: numbers from 1 on, each with what was noted. -/
def rowsT (z : Nat → Int) (n : Nat) : List (Int × Int × Int × Int) := (List.range n).map fun (j : Nat) => ((j : Int) + 1, (0 : Int), z j, (j : Int))
theorem rowsT_length (z : Nat → Int) (n : Nat) : (rowsT z n).length = n := by unfold rowsT; simp
theorem rowsT_at (z : Nat → Int) {n j : Nat} (h : j < n) : (rowsT z n)[j]? = some ((j : Int) + 1, 0, z j, (j : Int)) := by
  unfold rowsT; rw [List.getElem?_map, List.getElem?_range h]; rfl
theorem rowsT_lt (z : Nat → Int) (n : Nat) : ∀ y ∈ rowsT z n, y.1 < (n : Int) + 1 := by
  intro y hy
  unfold rowsT at hy
  rw [List.mem_map] at hy
  obtain ⟨j, hj, rfl⟩ := hy
  have := List.mem_range.1 hj
  show (j : Int) + 1 < _
  omega
theorem rowsT_succ (z : Nat → Int) (n : Nat) : rowsT z (n + 1) = rowsT z n ++ [((n : Int) + 1, 0, z n, (n : Int))] := by
  unfold rowsT; rw [List.range_succ, List.map_append]; rfl
theorem rowsT_rising (z : Nat → Int) (n : Nat) : Rising (rowsT z n) := by
  unfold Rising
  rw [List.pairwise_iff_getElem]
  intro i j hi hj hij
  have h1 : (rowsT z n)[i]? = some _ := rowsT_at z (by rw [rowsT_length] at hi; exact hi)
  have h2 : (rowsT z n)[j]? = some _ := rowsT_at z (by rw [rowsT_length] at hj; exact hj)
  rw [List.getElem?_eq_getElem hi] at h1
  rw [List.getElem?_eq_getElem hj] at h2
  injection h1 with h1
  injection h2 with h2
  rw [h1, h2]
  show (i : Int) + 1 < (j : Int) + 1
  omega
theorem rowsT_pos (z : Nat → Int) {n d : Nat} (h : d ≤ n) : pos (rowsT z n) ((d : Int) + 1) = d := by
  refine pos_boundary _ _ d (by rw [rowsT_length]; exact h) (fun t x ht hx => ?_) (fun t x ht hx => ?_)
  · have hlt : t < n := by omega
    rw [rowsT_at z hlt] at hx; injection hx with hx; subst hx
    show (t : Int) + 1 < _; omega
  · have hlt : t < n := by have := (List.getElem?_eq_some_iff.1 hx).1; rw [rowsT_length] at this; exact this
    rw [rowsT_at z hlt] at hx; injection hx with hx; subst hx
    show _ ≤ (t : Int) + 1; omega
theorem rowsT_has (z : Nat → Int) (n d : Nat) : has (rowsT z n) ((d : Int) + 1) = decide (d < n) := by
  by_cases h : d < n
  · rw [decide_eq_true h]
    exact has_iff.2 ⟨_, List.mem_of_getElem? (rowsT_at z h), rfl⟩
  · rw [decide_eq_false h]
    refine has_not (fun x hx he => ?_)
    have := rowsT_lt z n x hx
    omega
/-- What is left behind the drop of d + 1. -/
theorem rowsT_left (z : Nat → Int) {n d : Nat} : (drop' (rowsT z n) ((d : Int) + 1)).length = if d < n then n - 1 else n := by
  unfold drop'
  rw [rowsT_has]
  by_cases h : d < n
  · rw [if_pos (by simpa using h), if_pos h]
    unfold cut
    rw [rowsT_pos z (by omega), List.length_append, List.length_take, List.length_drop, rowsT_length]
    omega
  · rw [if_neg (by simpa using h), if_neg h, rowsT_length]
theorem rowsT_low (z : Nat → Int) {n d j : Nat} (hj : j < n) (hjd : j < d) : (drop' (rowsT z n) ((d : Int) + 1))[j]? = some ((j : Int) + 1, 0, z j, (j : Int)) := by
  unfold drop'
  rw [rowsT_has]
  by_cases h : d < n
  · rw [if_pos (by simpa using h)]
    unfold cut
    rw [rowsT_pos z (by omega), List.getElem?_append_left (by rw [List.length_take, rowsT_length]; omega), List.getElem?_take, if_pos hjd, rowsT_at z hj]
  · rw [if_neg (by simpa using h), rowsT_at z hj]
theorem rowsT_high (z : Nat → Int) {n d j : Nat} (hj : j < n) (hjd : d < j) : (drop' (rowsT z n) ((d : Int) + 1))[j - 1]? = some ((j : Int) + 1, 0, z j, (j : Int)) := by
  unfold drop'
  rw [rowsT_has, if_pos (by simp; omega)]
  unfold cut
  rw [rowsT_pos z (by omega), List.getElem?_append_right (by rw [List.length_take, rowsT_length]; omega), List.length_take, rowsT_length, List.getElem?_drop]
  rw [show d + 1 + (j - 1 - min d n) = j by omega, rowsT_at z hj]
theorem rowsT_none (z : Nat → Int) (n d : Nat) : has (drop' (rowsT z n) ((d : Int) + 1)) ((d : Int) + 1) = false := by
  by_cases h : has (rowsT z n) ((d : Int) + 1) = true
  · refine has_not (fun x hx => ?_)
    have hx' : x ∈ cut (rowsT z n) ((d : Int) + 1) := by unfold drop' at hx; rwa [if_pos h] at hx
    exact ((mem_cut (rowsT_rising z n) h).1 hx').2
  · have h' : has (rowsT z n) ((d : Int) + 1) = false := by simpa using h
    rw [drop'_no h']; exact h'
end Go.Proofs.YtoapihepdallbaaDoor
