/- Plain facts on the table of transactions: put in, noted, found; no program. -/
import Derived.Test.YtoapihepdallbaaDoorPlainD
namespace Go.Proofs.YtoapihepdallbaaDoor
variable {β : Type}

/-- Put in, in the place of the one with its number. -/
def setIn (l : List (Int × β)) (x : Int × β) : List (Int × β) := if has l x.1 = true then l.set (pos l x.1) x else put l x
/-- What stands at a key is turned. -/
def upd (l : List (Int × β)) (k : Int) (f : β → β) : List (Int × β) := if has l k = true then l.modify (pos l k) (fun x => (x.1, f x.2)) else l

theorem rising_of_keys {l m : List (Int × β)} (h : Rising l) (hk : m.map (·.1) = l.map (·.1)) : Rising m := by
  have h1 : ∀ {q : List (Int × β)}, Rising q ↔ (q.map (·.1)).Pairwise (· < ·) := fun {q} => by
    unfold Rising; rw [List.pairwise_map]
  rw [h1, hk, ← h1]
  exact h
theorem keys_set {l : List (Int × β)} {j : Nat} {x y : Int × β} (hy : l[j]? = some y) (hk : x.1 = y.1) : (l.set j x).map (·.1) = l.map (·.1) := by
  apply List.ext_getElem?
  intro i
  rw [List.getElem?_map, List.getElem?_map, List.getElem?_set]
  by_cases hij : j = i
  · subst hij
    have hlt := (List.getElem?_eq_some_iff.1 hy).1
    rw [if_pos rfl, if_pos hlt, hy]
    simp [hk]
  · rw [if_neg hij]
theorem setIn_rising {l : List (Int × β)} (h : Rising l) (x : Int × β) : Rising (setIn l x) := by
  unfold setIn
  split
  · rename_i hh
    obtain ⟨y, hy, hk⟩ := (has_at h x.1).1 hh
    exact rising_of_keys h (keys_set hy hk.symm)
  · rename_i hh; exact put_rising h (by simpa using hh)
theorem setIn_yes {l : List (Int × β)} {x : Int × β} (h : has l x.1 = true) : setIn l x = l.set (pos l x.1) x := by unfold setIn; rw [if_pos h]
theorem setIn_no {l : List (Int × β)} {x : Int × β} (h : has l x.1 = false) : setIn l x = put l x := by unfold setIn; rw [if_neg (by rw [h]; exact Bool.false_ne_true)]
theorem setIn_length (l : List (Int × β)) (x : Int × β) : (setIn l x).length ≤ l.length + 1 := by
  unfold setIn; split
  · rw [List.length_set]; omega
  · rw [put_length]; omega
theorem upd_no {l : List (Int × β)} {k : Int} (f : β → β) (h : has l k = false) : upd l k f = l := by unfold upd; rw [if_neg (by rw [h]; exact Bool.false_ne_true)]
theorem upd_yes {l : List (Int × β)} {k : Int} (f : β → β) {x : Int × β} (h : has l k = true) (hx : l[pos l k]? = some x) : upd l k f = l.set (pos l k) (x.1, f x.2) := by
  unfold upd
  rw [if_pos h]
  apply List.ext_getElem?
  intro i
  rw [List.getElem?_modify, List.getElem?_set]
  by_cases hij : pos l k = i
  · subst hij
    rw [hx, if_pos rfl, if_pos (List.getElem?_eq_some_iff.1 hx).1]
    simp
  · rw [if_neg hij]
    simp [hij]
theorem upd_length (l : List (Int × β)) (k : Int) (f : β → β) : (upd l k f).length = l.length := by
  unfold upd; split
  · rw [List.length_modify]
  · rfl
theorem upd_rising {l : List (Int × β)} (h : Rising l) (k : Int) (f : β → β) : Rising (upd l k f) := by
  by_cases hh : has l k = true
  · obtain ⟨x, hx, _⟩ := (has_at h k).1 hh
    rw [upd_yes f hh hx]
    exact rising_of_keys h (keys_set hx rfl)
  · rw [upd_no f (by simpa using hh)]; exact h

section
variable (k : Int) (x y : β)
theorem pos_one : pos [(k, x)] k = 0 := by unfold pos; rw [List.countP_cons_of_neg (by simp)]; rfl
theorem has_one : has [(k, x)] k = true := by unfold has; simp
theorem setIn_one : setIn [(k, x)] (k, y) = [(k, y)] := by rw [setIn_yes (has_one k x), pos_one]; rfl
theorem upd_one (f : β → β) : upd [(k, x)] k f = [(k, f x)] := by rw [upd_yes (x := (k, x)) f (has_one k x) (by rw [pos_one]; rfl), pos_one]; rfl
theorem drop'_one : drop' [(k, x)] k = [] := by rw [drop'_yes (has_one k x), pos_one]; rfl
theorem setIn_new : setIn [] (k, y) = [(k, y)] := rfl
end
end Go.Proofs.YtoapihepdallbaaDoor
