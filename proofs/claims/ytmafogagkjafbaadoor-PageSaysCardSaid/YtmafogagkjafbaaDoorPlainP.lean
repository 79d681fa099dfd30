/- Rising rows by what stands at each key: two with the same are the same; put in, taken out; no program. -/
import Derived.Test.YtmafogagkjafbaaDoorPlainT
namespace Go.Proofs.YtmafogagkjafbaaDoor
variable {β : Type}

theorem look_none {l : List (Int × β)} {k : Int} (h : has l k = false) : look l k = none := by unfold look; rw [if_neg (by rw [h]; exact Bool.false_ne_true)]
theorem look_some {l : List (Int × β)} (hr : Rising l) {k : Int} {v : β} : look l k = some v ↔ (k, v) ∈ l := by
  constructor
  · intro h
    cases hh : has l k with
    | false => rw [look_none hh] at h; cases h
    | true =>
      obtain ⟨x, hx, hk⟩ := has_iff.1 hh
      have := look_of_mem hr hx
      rw [hk, h] at this
      injection this with this
      rw [← hk, this]
      exact hx
  · intro h
    exact look_of_mem hr h
theorem has_look {l : List (Int × β)} (hr : Rising l) (k : Int) : has l k = (look l k).isSome := by
  cases hh : has l k with
  | false => rw [look_none hh]; rfl
  | true =>
    obtain ⟨x, hx, hk⟩ := has_iff.1 hh
    have := look_of_mem hr hx
    rw [← hk, this]; rfl
theorem rising_ext {l m : List (Int × β)} (hl : Rising l) (hm : Rising m) (h : ∀ x, x ∈ l ↔ x ∈ m) : l = m := by
  induction l generalizing m with
  | nil =>
    cases m with
    | nil => rfl
    | cons y s => exact absurd ((h y).2 List.mem_cons_self) (by simp)
  | cons x r ih =>
    cases m with
    | nil => exact absurd ((h x).1 List.mem_cons_self) (by simp)
    | cons y s =>
      have hxy : x = y := by
        rcases List.mem_cons.1 ((h x).1 List.mem_cons_self) with h1 | h1
        · exact h1
        · rcases List.mem_cons.1 ((h y).2 List.mem_cons_self) with h2 | h2
          · exact h2.symm
          · have := hm.head x h1; have := hl.head y h2; omega
      subst hxy
      congr 1
      refine ih hl.tail hm.tail fun z => ⟨fun hz => ?_, fun hz => ?_⟩
      · rcases List.mem_cons.1 ((h z).1 (List.mem_cons_of_mem _ hz)) with h1 | h1
        · subst h1; have := hl.head z hz; omega
        · exact h1
      · rcases List.mem_cons.1 ((h z).2 (List.mem_cons_of_mem _ hz)) with h1 | h1
        · subst h1; have := hm.head z hz; omega
        · exact h1
theorem look_ext {l m : List (Int × β)} (hl : Rising l) (hm : Rising m) (h : ∀ k, look l k = look m k) : l = m :=
  rising_ext hl hm fun x => by
    obtain ⟨k, v⟩ := x
    rw [← look_some hl, ← look_some hm, h k]
theorem mem_setIn_iff {l : List (Int × β)} (hr : Rising l) {x y : Int × β} : y ∈ setIn l x ↔ y = x ∨ (y ∈ l ∧ y.1 ≠ x.1) := by
  cases hh : has l x.1 with
  | false =>
    rw [setIn_no hh, mem_put]
    constructor
    · rintro (h | h)
      · exact .inl h
      · exact .inr ⟨h, fun he => by have := has_iff.2 ⟨y, h, he⟩; rw [hh] at this; cases this⟩
    · rintro (h | h)
      · exact .inl h
      · exact .inr h.1
  | true =>
    obtain ⟨z, hz, hk⟩ := (has_at hr x.1).1 hh
    rw [setIn_yes hh]
    have hlt := has_lt hr hh
    constructor
    · intro h
      obtain ⟨t, ht⟩ := List.mem_iff_getElem?.1 h
      rw [List.getElem?_set] at ht
      by_cases hpt : pos l x.1 = t
      · rw [if_pos hpt, if_pos hlt] at ht
        injection ht with ht
        exact .inl ht.symm
      · rw [if_neg hpt] at ht
        refine .inr ⟨List.mem_of_getElem? ht, fun he => ?_⟩
        rcases Nat.lt_or_gt_of_ne hpt with h1 | h1
        · have := hr.lt h1 hz ht; omega
        · have := hr.lt h1 ht hz; omega
    · rintro (h | ⟨h, hne⟩)
      · subst h
        exact List.mem_iff_getElem?.2 ⟨pos l y.1, by rw [List.getElem?_set, if_pos rfl, if_pos hlt]⟩
      · obtain ⟨t, ht⟩ := List.mem_iff_getElem?.1 h
        refine List.mem_iff_getElem?.2 ⟨t, ?_⟩
        rw [List.getElem?_set, if_neg (fun he => ?_)]
        · exact ht
        · subst he
          rw [hz] at ht
          injection ht with ht
          subst ht
          exact hne hk
theorem mem_drop_iff {l : List (Int × β)} (hr : Rising l) {k : Int} {y : Int × β} : y ∈ drop' l k ↔ y ∈ l ∧ y.1 ≠ k := by
  cases hh : has l k with
  | false =>
    rw [drop'_no hh]
    exact ⟨fun h => ⟨h, fun he => by have := has_iff.2 ⟨y, h, he⟩; rw [hh] at this; cases this⟩, fun h => h.1⟩
  | true =>
    have := mem_cut hr hh (y := y)
    unfold drop'
    rw [if_pos hh]
    exact this
theorem look_eq {l : List (Int × β)} (hr : Rising l) {k : Int} {o : Option β} (h : ∀ v, (k, v) ∈ l ↔ o = some v) : look l k = o := by
  cases o with
  | none =>
    cases hl : look l k with
    | none => rfl
    | some v => have := (h v).1 ((look_some hr).1 hl); cases this
  | some v => exact (look_some hr).2 ((h v).2 rfl)
theorem look_setIn {l : List (Int × β)} (hr : Rising l) (x : Int × β) (k : Int) : look (setIn l x) k = if k = x.1 then some x.2 else look l k := by
  refine look_eq (setIn_rising hr x) fun v => ?_
  rw [mem_setIn_iff hr]
  obtain ⟨a, b⟩ := x
  by_cases hk : k = a
  · subst hk
    rw [if_pos rfl]
    simp [eq_comm]
  · rw [if_neg hk, look_some hr]
    simp [hk]
theorem look_drop {l : List (Int × β)} (hr : Rising l) (a k : Int) : look (drop' l a) k = if k = a then none else look l k := by
  refine look_eq (drop'_rising hr a) fun v => ?_
  rw [mem_drop_iff hr]
  by_cases hk : k = a
  · subst hk; rw [if_pos rfl]; simp
  · rw [if_neg hk, look_some hr]
    simp [hk]
end Go.Proofs.YtmafogagkjafbaaDoor
