/- Plain facts on the table of dirty pages: the least, what is found, what is dropped; no program. -/
import Derived.Test.YtoapihepdallbaaDoorPlain
namespace Go.Proofs.YtoapihepdallbaaDoor

/-- The first of those whose second is least. -/
def minD (x : Int × Int) (r : List (Int × Int)) : Int × Int := r.foldl (fun m y => if y.2 < m.2 then y else m) x
/-- The least of the second numbers; none: 0. -/
def least : List (Int × Int) → Int
  | [] => 0
  | x :: r => (minD x r).2
/-- What stands at a key. -/
def look {β : Type} (l : List (Int × β)) (k : Int) : Option β := if has l k = true then (l[pos l k]?).map (·.2) else none

theorem minD_mem (x : Int × Int) (r : List (Int × Int)) : minD x r ∈ x :: r := by
  induction r generalizing x with
  | nil => exact List.mem_cons_self
  | cons y r ih =>
    show minD (if y.2 < x.2 then y else x) r ∈ _
    have := ih (if y.2 < x.2 then y else x)
    rcases List.mem_cons.1 this with h | h
    · rw [h]; split
      · exact List.mem_cons_of_mem _ List.mem_cons_self
      · exact List.mem_cons_self
    · exact List.mem_cons_of_mem _ (List.mem_cons_of_mem _ h)
theorem minD_le (x : Int × Int) (r : List (Int × Int)) : ∀ y ∈ x :: r, (minD x r).2 ≤ y.2 := by
  induction r generalizing x with
  | nil => intro y hy; simp at hy; subst hy; exact Int.le_refl _
  | cons z r ih =>
    intro y hy
    show (minD (if z.2 < x.2 then z else x) r).2 ≤ y.2
    have h := ih (if z.2 < x.2 then z else x)
    have h0 := h _ List.mem_cons_self
    rcases List.mem_cons.1 hy with rfl | hy
    · by_cases hc : z.2 < y.2
      · rw [if_pos hc] at h0 ⊢; omega
      · rw [if_neg hc] at h0 ⊢; exact h0
    · rcases List.mem_cons.1 hy with rfl | hy
      · by_cases hc : y.2 < x.2
        · rw [if_pos hc] at h0 ⊢; exact h0
        · rw [if_neg hc] at h0 ⊢; omega
      · exact h y (List.mem_cons_of_mem _ hy)
theorem least_le {l : List (Int × Int)} : ∀ x ∈ l, least l ≤ x.2 := by
  cases l with
  | nil => intro x hx; cases hx
  | cons a r => exact minD_le a r
theorem least_mem {l : List (Int × Int)} (h : 0 < l.length) : ∃ x ∈ l, x.2 = least l := by
  cases l with
  | nil => simp at h
  | cons a r => exact ⟨minD a r, minD_mem a r, rfl⟩
/-- Some place holds the least. -/
theorem least_at {l : List (Int × Int)} (h : 0 < l.length) : ∃ (j : Nat) (x : Int × Int), j < l.length ∧ l[j]? = some x ∧ x.2 = least l := by
  obtain ⟨x, hx, he⟩ := least_mem h
  obtain ⟨j, hj, rfl⟩ := List.getElem_of_mem hx
  exact ⟨j, _, hj, List.getElem?_eq_getElem hj, he⟩
theorem least_place {l : List (Int × Int)} {j : Nat} {x : Int × Int} (h : l[j]? = some x) : least l ≤ x.2 := least_le x (List.mem_of_getElem? h)
/-- The key of a place is there. -/
theorem has_place {β : Type} {l : List (Int × β)} {j : Nat} {x : Int × β} (h : l[j]? = some x) : has l x.1 = true := by
  unfold has
  rw [List.any_eq_true]
  exact ⟨x, List.mem_of_getElem? h, by simp⟩
theorem has_iff {β : Type} {l : List (Int × β)} {k : Int} : has l k = true ↔ ∃ x ∈ l, x.1 = k := by
  unfold has
  rw [List.any_eq_true]
  constructor
  · rintro ⟨x, hx, hk⟩; exact ⟨x, hx, by simpa using hk⟩
  · rintro ⟨x, hx, hk⟩; exact ⟨x, hx, by simpa using hk⟩
theorem drop'_length_yes {β : Type} {l : List (Int × β)} (hr : Rising l) {k : Int} (h : has l k = true) : (drop' l k).length + 1 = l.length := by
  unfold drop'
  rw [if_pos h]
  exact cut_length hr h
theorem Rising.eq_of_mem {β : Type} {l : List (Int × β)} (hr : Rising l) {x y : Int × β} (hx : x ∈ l) (hy : y ∈ l) (h : x.1 = y.1) : x = y := by
  obtain ⟨i, hi⟩ := List.mem_iff_getElem?.1 hx
  obtain ⟨j, hj⟩ := List.mem_iff_getElem?.1 hy
  rcases Nat.lt_trichotomy i j with h1 | h1 | h1
  · have := hr.lt h1 hi hj; omega
  · subst h1; rw [hi] at hj; injection hj
  · have := hr.lt h1 hj hi; omega
theorem look_of_mem {β : Type} {l : List (Int × β)} (hr : Rising l) {x : Int × β} (h : x ∈ l) : look l x.1 = some x.2 := by
  have hh : has l x.1 = true := has_iff.2 ⟨x, h, rfl⟩
  obtain ⟨y, hy, hk⟩ := (has_at hr x.1).1 hh
  unfold look
  rw [if_pos hh, hy]
  have : y = x := hr.eq_of_mem (List.mem_of_getElem? hy) h hk
  subst this
  rfl
theorem has_add {β : Type} (l : List (Int × β)) (x : Int × β) : has (add l x) x.1 = true := by
  unfold add
  split
  · assumption
  · exact has_iff.2 ⟨x, mem_put.2 (.inl rfl), rfl⟩
theorem add_there {β : Type} {l : List (Int × β)} {x : Int × β} (h : has l x.1 = true) : add l x = l := by unfold add; rw [if_pos h]
theorem look_add_new {β : Type} {l : List (Int × β)} (hr : Rising l) {x : Int × β} (h : has l x.1 = false) : look (add l x) x.1 = some x.2 := by
  refine look_of_mem (add_rising hr x) ?_
  unfold add
  rw [if_neg (by rw [h]; exact Bool.false_ne_true)]
  exact mem_put.2 (.inl rfl)
theorem mem_add {β : Type} {l : List (Int × β)} {x y : Int × β} (h : y ∈ add l x) : y = x ∨ y ∈ l := by
  unfold add at h
  split at h
  · exact .inr h
  · exact mem_put.1 h
theorem drop'_head {β : Type} {x : Int × β} {r : List (Int × β)} (hr : Rising (x :: r)) : drop' (x :: r) x.1 = r := by
  have hh : has (x :: r) x.1 = true := has_place (j := 0) rfl
  have hp : pos (x :: r) x.1 = 0 := by
    have := (pos_below hr x.1 (t := 0) (x := x) rfl)
    omega
  unfold drop' cut
  rw [if_pos hh, hp]
  simp
theorem has_tail {β : Type} {x : Int × β} {r : List (Int × β)} (hr : Rising (x :: r)) : has r x.1 = false := by
  cases h : has r x.1 with
  | false => rfl
  | true =>
    obtain ⟨y, hy, hk⟩ := has_iff.1 h
    have := hr.head y hy
    omega
theorem drop'_none' {β : Type} {l : List (Int × β)} {k : Int} (h : has l k = false) : drop' l k = l := by unfold drop'; rw [if_neg (by rw [h]; exact Bool.false_ne_true)]
theorem drop'_yes {β : Type} {l : List (Int × β)} {k : Int} (h : has l k = true) : drop' l k = l.take (pos l k) ++ l.drop (pos l k + 1) := by unfold drop' cut; rw [if_pos h]
theorem drop'_no {β : Type} {l : List (Int × β)} {k : Int} (h : has l k = false) : drop' l k = l := by unfold drop'; rw [if_neg (by rw [h]; exact Bool.false_ne_true)]
end Go.Proofs.YtoapihepdallbaaDoor
