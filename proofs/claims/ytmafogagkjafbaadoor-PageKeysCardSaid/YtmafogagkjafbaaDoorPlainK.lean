/- Plain facts: a page's keys beside two rows, of which keys there are and of their values. No program. -/
import Derived.Test.YtmafogagkjafbaaDoorPagePl
import Derived.Test.YtmafogagkjafbaaDoorPlainP
namespace Go.Proofs.YtmafogagkjafbaaDoor

structure Kv (l : List (Int × Int)) (hs : List Bool) (vs : List Int) : Prop where
  rising : Rising l
  fits : l.length ≤ 20
  range : ∀ x ∈ l, 0 ≤ x.1 ∧ x.1 < 50
  vals : Vals l
  hl : hs.length = 50
  vl : vs.length = 50
  here : ∀ k : Nat, k < 50 → hs[k]? = some (has l k)
  value : ∀ k : Nat, k < 50 → has l k = true → vs[k]? = some ((look l k).getD 0)
theorem Kv.zero : Kv [] (List.replicate 50 false) (List.replicate 50 0) :=
  ⟨List.Pairwise.nil, by simp, fun _ h => (List.not_mem_nil h).elim, fun _ h => (List.not_mem_nil h).elim, by simp, by simp, fun k hk => by rw [List.getElem?_replicate_of_lt hk]; rfl, fun k _ h => by simp [has] at h⟩
theorem Kv.drop {l : List (Int × Int)} {hs : List Bool} {vs : List Int} (h : Kv l hs vs) {k : Nat} (hk : k < 50) : Kv (drop' l k) (hs.set k false) vs := by
  have hr := drop'_rising h.rising (k : Int)
  have hm : ∀ x, x ∈ drop' l (k : Int) → x ∈ l := fun x hx => ((mem_drop_iff h.rising).1 hx).1
  refine ⟨hr, Nat.le_trans (drop'_length _ _) h.fits, fun x hx => h.range x (hm x hx), fun x hx => h.vals x (hm x hx), by rw [List.length_set, h.hl], h.vl, fun j hj => ?_, fun j hj hh => ?_⟩
  · rw [List.getElem?_set, has_look hr, look_drop h.rising]
    by_cases he : k = j
    · subst he
      rw [if_pos rfl, if_pos (by rw [h.hl]; exact hk), if_pos rfl]; rfl
    · rw [if_neg he, if_neg (by omega), h.here j hj, has_look h.rising]
  · rw [has_look hr, look_drop h.rising] at hh
    by_cases he : (j : Int) = k
    · rw [if_pos he] at hh; cases hh
    · rw [if_neg he] at hh
      rw [look_drop h.rising, if_neg he]
      exact h.value j hj (by rw [has_look h.rising]; exact hh)
theorem Kv.put {l : List (Int × Int)} {hs : List Bool} {vs : List Int} (h : Kv l hs vs) {k : Nat} (hk : k < 50) {y : Int} (hy : -9223372036854775808 ≤ y ∧ y ≤ 9223372036854775807) (hroom : has l k = true ∨ l.length < 20) :
    Kv (setIn l (k, y)) (hs.set k true) (vs.set k y) := by
  have hr := setIn_rising h.rising ((k : Int), y)
  have hm : ∀ x, x ∈ setIn l ((k : Int), y) → x = ((k : Int), y) ∨ x ∈ l := fun x hx => by
    rcases (mem_setIn_iff h.rising).1 hx with h1 | h1
    · exact .inl h1
    · exact .inr h1.1
  refine ⟨hr, ?_, fun x hx => ?_, fun x hx => ?_, by rw [List.length_set, h.hl], by rw [List.length_set, h.vl], fun j hj => ?_, fun j hj hh => ?_⟩
  · cases hh : has l k with
    | true => rw [setIn_yes (x := ((k : Int), y)) hh, List.length_set]; exact h.fits
    | false =>
      have := setIn_length l ((k : Int), y)
      rcases hroom with h1 | h1
      · rw [hh] at h1; cases h1
      · omega
  · rcases hm x hx with rfl | h1
    · show 0 ≤ (k : Int) ∧ (k : Int) < 50; omega
    · exact h.range x h1
  · rcases hm x hx with rfl | h1
    · exact hy
    · exact h.vals x h1
  · rw [List.getElem?_set, has_look hr, look_setIn h.rising]
    by_cases he : k = j
    · subst he
      rw [if_pos rfl, if_pos (by rw [h.hl]; exact hk), if_pos rfl]; rfl
    · rw [if_neg he, if_neg (by show ¬ (j : Int) = k; omega), h.here j hj, has_look h.rising]
  · rw [List.getElem?_set, look_setIn h.rising]
    by_cases he : k = j
    · subst he
      rw [if_pos rfl, if_pos (by rw [h.vl]; exact hk), if_pos rfl]; rfl
    · rw [has_look hr, look_setIn h.rising, if_neg (by show ¬ (j : Int) = k; omega)] at hh
      rw [if_neg he, if_neg (by show ¬ (j : Int) = k; omega)]
      exact h.value j hj (by rw [has_look h.rising]; exact hh)
theorem setIn_len {l : List (Int × Int)} (x : Int × Int) : (setIn l x).length = if has l x.1 = true then l.length else l.length + 1 := by
  split
  · rename_i h; rw [setIn_yes h, List.length_set]
  · rename_i h; rw [setIn_no (by simpa using h), put_length]
theorem drop_len {l : List (Int × Int)} (hr : Rising l) (k : Int) : ((drop' l k).length : Int) = if has l k = true then (l.length : Int) - 1 else l.length := by
  split
  · rename_i h; have := drop'_length_yes hr h; omega
  · rename_i h; rw [drop'_no (by simpa using h)]
theorem Kv.ok {l : List (Int × Int)} {hs : List Bool} {vs : List Int} (h : Kv l hs vs) {n : Int} (h0 : 1 ≤ n) (h1 : n ≤ 1073741824) : OkP n l := by
  refine ⟨by omega, h1, h.fits, fun _ => by omega, fun i x hi hx => ?_⟩
  have := h.range x (List.mem_of_getElem? hx)
  exact ⟨by omega, by omega, fun y h0 hy => h.rising.lt (by omega) hy hx⟩
end Go.Proofs.YtmafogagkjafbaaDoor
