/- Rows with a rising first field: where a key stands, put in, taken out; plain lists, no program. -/

namespace Go.Proofs.YtoapihepdallbaaDoor
variable {β : Type}

/-- The first fields rise. -/
def Rising (l : List (Int × β)) : Prop := l.Pairwise fun a b => a.1 < b.1
/-- How many keys are below. -/
def pos (l : List (Int × β)) (k : Int) : Nat := l.countP fun x => decide (x.1 < k)
/-- Is the key there? -/
def has (l : List (Int × β)) (k : Int) : Bool := l.any fun x => decide (x.1 = k)

theorem pos_le (l : List (Int × β)) (k : Int) : pos l k ≤ l.length := List.countP_le_length
theorem Rising.tail {x : Int × β} {l : List (Int × β)} (h : Rising (x :: l)) : Rising l := (List.pairwise_cons.1 h).2
theorem Rising.head {x : Int × β} {l : List (Int × β)} (h : Rising (x :: l)) : ∀ y ∈ l, x.1 < y.1 := (List.pairwise_cons.1 h).1
theorem Rising.lt {l : List (Int × β)} (h : Rising l) {i j : Nat} {x y : Int × β} (hij : i < j) (hx : l[i]? = some x) (hy : l[j]? = some y) : x.1 < y.1 := by
  obtain ⟨hi, rfl⟩ := List.getElem?_eq_some_iff.1 hx
  obtain ⟨hj, rfl⟩ := List.getElem?_eq_some_iff.1 hy
  exact List.pairwise_iff_getElem.1 h i j hi hj hij
theorem Rising.le {l : List (Int × β)} (h : Rising l) {i j : Nat} {x y : Int × β} (hij : i ≤ j) (hx : l[i]? = some x) (hy : l[j]? = some y) : x.1 ≤ y.1 := by
  rcases Nat.lt_or_eq_of_le hij with hlt | rfl
  · exact Int.le_of_lt (h.lt hlt hx hy)
  · rw [hx] at hy; injection hy with hy; subst hy; exact Int.le_refl _

theorem pos_boundary (k : Int) : ∀ (l : List (Int × β)) (i : Nat), i ≤ l.length → (∀ t x, t < i → l[t]? = some x → x.1 < k) → (∀ t x, i ≤ t → l[t]? = some x → k ≤ x.1) → pos l k = i
  | [], i, hi, _, _ => by simp at hi; subst hi; rfl
  | a :: r, 0, _, _, h2 => by
    unfold pos
    rw [List.countP_eq_zero]
    intro x hx
    obtain ⟨t, ht, rfl⟩ := List.getElem_of_mem hx
    have := h2 t _ (Nat.zero_le _) (List.getElem?_eq_getElem ht)
    simpa using this
  | a :: r, i + 1, hi, h1, h2 => by
    have ha : a.1 < k := h1 0 a (Nat.succ_pos _) rfl
    unfold pos
    rw [List.countP_cons_of_pos (by simpa using ha)]
    have := pos_boundary k r i (by simpa using hi) (fun t x ht hx => h1 (t + 1) x (by omega) (by simpa using hx)) (fun t x ht hx => h2 (t + 1) x (by omega) (by simpa using hx))
    unfold pos at this
    rw [this]
theorem pos_below {l : List (Int × β)} (h : Rising l) (k : Int) {t : Nat} {x : Int × β} (hx : l[t]? = some x) : t < pos l k ↔ x.1 < k := by
  induction l generalizing t with
  | nil => simp at hx
  | cons a r ih =>
    unfold pos
    by_cases ha : a.1 < k
    · rw [List.countP_cons_of_pos (by simpa using ha)]
      cases t with
      | zero => simp at hx; subst hx; simp [ha]
      | succ t =>
        have := ih h.tail (t := t) (by simpa using hx)
        unfold pos at this
        rw [← this]; omega
    · rw [List.countP_cons_of_neg (by simpa using ha)]
      have h0 : r.countP (fun x => decide (x.1 < k)) = 0 := by
        rw [List.countP_eq_zero]
        intro y hy
        have := h.head y hy
        simp; omega
      rw [h0]
      cases t with
      | zero => simp at hx; subst hx; omega
      | succ t =>
        have hm : x ∈ r := List.mem_of_getElem? (by simpa using hx)
        have := h.head x hm
        omega
/-- It is there if and only if it stands where it would. -/
theorem has_at {l : List (Int × β)} (h : Rising l) (k : Int) : has l k = true ↔ ∃ x, l[pos l k]? = some x ∧ x.1 = k := by
  unfold has
  rw [List.any_eq_true]
  constructor
  · rintro ⟨x, hx, hk⟩
    have hk : x.1 = k := by simpa using hk
    obtain ⟨t, ht, hxt⟩ := List.getElem_of_mem hx
    have hx' : l[t]? = some x := by rw [List.getElem?_eq_getElem ht, hxt]
    have h1 : ¬ t < pos l k := by rw [pos_below h k hx']; omega
    have h2 : ¬ pos l k < t := by
      intro hlt
      obtain ⟨y, hy⟩ : ∃ y, l[pos l k]? = some y := ⟨_, List.getElem?_eq_getElem (by omega)⟩
      have := h.lt hlt hy hx'
      have := (pos_below h k hy).2 (by omega)
      omega
    have : t = pos l k := by omega
    exact ⟨x, this ▸ hx', hk⟩
  · rintro ⟨x, hx, hk⟩
    exact ⟨x, List.mem_of_getElem? hx, by simpa using hk⟩
theorem has_none {l : List (Int × β)} (h : Rising l) (k : Int) (hp : pos l k = l.length) : has l k = false := by
  cases hh : has l k with
  | false => rfl
  | true =>
    obtain ⟨x, hx, _⟩ := (has_at h k).1 hh
    rw [hp, List.getElem?_eq_none (Nat.le_refl _)] at hx
    cases hx
theorem has_some {l : List (Int × β)} (h : Rising l) (k : Int) {x : Int × β} (hx : l[pos l k]? = some x) : has l k = decide (x.1 = k) := by
  rw [Bool.eq_iff_iff, has_at h k]
  simp [hx]

/-- Put in where it belongs; one that is there stays. -/
def put (l : List (Int × β)) (x : Int × β) : List (Int × β) := l.take (pos l x.1) ++ x :: l.drop (pos l x.1)
def add (l : List (Int × β)) (x : Int × β) : List (Int × β) := if has l x.1 = true then l else put l x
/-- Taken out. -/
def cut (l : List (Int × β)) (k : Int) : List (Int × β) := l.take (pos l k) ++ l.drop (pos l k + 1)
def drop' (l : List (Int × β)) (k : Int) : List (Int × β) := if has l k = true then cut l k else l

theorem Rising.split {a b : List (Int × β)} : Rising (a ++ b) ↔ Rising a ∧ Rising b ∧ ∀ x ∈ a, ∀ y ∈ b, x.1 < y.1 := List.pairwise_append
theorem below_take {l : List (Int × β)} (h : Rising l) (k : Int) : ∀ x ∈ l.take (pos l k), x.1 < k := by
  intro x hx
  obtain ⟨t, ht⟩ := List.mem_iff_getElem?.1 hx
  rw [List.getElem?_take] at ht
  split at ht
  · rename_i hlt; exact (pos_below h k ht).1 hlt
  · cases ht
theorem above_drop {l : List (Int × β)} (h : Rising l) (k : Int) : ∀ x ∈ l.drop (pos l k), k ≤ x.1 := by
  intro x hx
  obtain ⟨t, ht⟩ := List.mem_iff_getElem?.1 hx
  rw [List.getElem?_drop] at ht
  have := (pos_below h k ht)
  omega
theorem Rising.take_drop {l : List (Int × β)} (h : Rising l) (n m : Nat) (hnm : n ≤ m) : Rising (l.take n ++ l.drop m) := by
  refine List.Pairwise.sublist ?_ h
  have : l.take n ++ l.drop m = l.take n ++ (l.drop n).drop (m - n) := by rw [List.drop_drop]; congr 2; omega
  rw [this]
  conv => rhs; rw [← List.take_append_drop n l]
  exact List.Sublist.append_left (List.drop_sublist _ _) _
theorem put_rising {l : List (Int × β)} (h : Rising l) {x : Int × β} (hn : has l x.1 = false) : Rising (put l x) := by
  unfold put
  rw [Rising.split]
  have hd : Rising (l.drop (pos l x.1)) := List.Pairwise.sublist (List.drop_sublist _ _) h
  refine ⟨List.Pairwise.sublist (List.take_sublist _ _) h, List.pairwise_cons.2 ⟨fun y hy => ?_, hd⟩, ?_⟩
  · have h1 := above_drop h x.1 y hy
    have h2 : ¬ y.1 = x.1 := fun he => by
      have : has l x.1 = true := by unfold has; rw [List.any_eq_true]; exact ⟨y, List.mem_of_mem_drop hy, by simpa using he⟩
      rw [hn] at this; cases this
    omega
  · intro a ha b hb
    have h1 := below_take h x.1 a ha
    rcases List.mem_cons.1 hb with rfl | hb
    · exact h1
    · have := above_drop h x.1 b hb; omega
theorem add_rising {l : List (Int × β)} (h : Rising l) (x : Int × β) : Rising (add l x) := by
  unfold add
  split
  · exact h
  · rename_i hn; exact put_rising h (by simpa using hn)
theorem cut_rising {l : List (Int × β)} (h : Rising l) (k : Int) : Rising (cut l k) := h.take_drop _ _ (by omega)
theorem drop'_rising {l : List (Int × β)} (h : Rising l) (k : Int) : Rising (drop' l k) := by
  unfold drop'
  split
  · exact cut_rising h k
  · exact h
theorem put_length (l : List (Int × β)) (x : Int × β) : (put l x).length = l.length + 1 := by
  have := pos_le l x.1
  unfold put; simp; omega
theorem add_length (l : List (Int × β)) (x : Int × β) : (add l x).length ≤ l.length + 1 := by
  unfold add; split
  · omega
  · rw [put_length]; omega
theorem has_lt {l : List (Int × β)} (h : Rising l) {k : Int} (hk : has l k = true) : pos l k < l.length := by
  obtain ⟨x, hx, _⟩ := (has_at h k).1 hk
  exact (List.getElem?_eq_some_iff.1 hx).1
theorem cut_length {l : List (Int × β)} (h : Rising l) {k : Int} (hk : has l k = true) : (cut l k).length + 1 = l.length := by
  have := has_lt h hk
  unfold cut; simp; omega
theorem drop'_length (l : List (Int × β)) (k : Int) : (drop' l k).length ≤ l.length := by
  unfold drop'; split
  · unfold cut; simp; omega
  · omega
theorem mem_put {l : List (Int × β)} {x y : Int × β} : y ∈ put l x ↔ y = x ∨ y ∈ l := by
  unfold put
  rw [List.mem_append, List.mem_cons]
  have : y ∈ l ↔ y ∈ l.take (pos l x.1) ∨ y ∈ l.drop (pos l x.1) := by rw [← List.mem_append, List.take_append_drop]
  rw [this]
  constructor
  · rintro (h | h | h)
    · exact .inr (.inl h)
    · exact .inl h
    · exact .inr (.inr h)
  · rintro (h | h | h)
    · exact .inr (.inl h)
    · exact .inl h
    · exact .inr (.inr h)
theorem mem_cut {l : List (Int × β)} (h : Rising l) {k : Int} (hk : has l k = true) {y : Int × β} : y ∈ cut l k ↔ y ∈ l ∧ y.1 ≠ k := by
  obtain ⟨x, hx, hxk⟩ := (has_at h k).1 hk
  have hlt := has_lt h hk
  have hs : l = l.take (pos l k) ++ x :: l.drop (pos l k + 1) := by
    conv => lhs; rw [← List.take_append_drop (pos l k) l]
    congr 1
    rw [List.drop_eq_getElem?_toList_append, hx]; rfl
  have hr := h
  rw [hs, Rising.split] at hr
  obtain ⟨_, h2, h3⟩ := hr
  unfold cut
  constructor
  · intro hy
    refine ⟨by rw [hs, List.mem_append, List.mem_cons]; rcases List.mem_append.1 hy with h' | h'; exact .inl h'; exact .inr (.inr h'), ?_⟩
    rcases List.mem_append.1 hy with h' | h'
    · have := h3 y h' x List.mem_cons_self; omega
    · have := (List.pairwise_cons.1 h2).1 y h'; omega
  · rintro ⟨hy, hne⟩
    rw [hs, List.mem_append, List.mem_cons] at hy
    rw [List.mem_append]
    rcases hy with h' | h' | h'
    · exact .inl h'
    · subst h'; exact absurd hxk hne
    · exact .inr h'
end Go.Proofs.YtoapihepdallbaaDoor
