/- Rows of bytes; numbers in bytes: plain facts. -/
import Derived.Test.YtmafogagkjafbaaDoorLib
namespace Go.Proofs.YtmafogagkjafbaaDoor
open Go.RowKit

/-- A byte, an element of one cell. -/
abbrev encB (z : Int) : List Value := [.int .u8 z]
theorem kindB : Kind encB 1 := ⟨fun _ => rfl, fun x u hu => by simp [encB] at hu; subst hu; rfl, by omega⟩

/-- The byte number i of a number. -/
def dig (i : Nat) (x : Int) : Int := x / 256 ^ i % 256
theorem dig_lo (i : Nat) (x : Int) : 0 ≤ dig i x := Int.emod_nonneg _ (by omega)
theorem dig_hi (i : Nat) (x : Int) : dig i x < 256 := Int.emod_lt_of_pos _ (by omega)
/-- A number laid into bytes from a place on. -/
def putS (b : List Int) (at_ size : Nat) (n : Int) : List Int := (List.range b.length).map fun j => if at_ ≤ j ∧ j < at_ + size then dig (j - at_) n else b.getD j 0
theorem putS_length (b : List Int) (at_ size : Nat) (n : Int) : (putS b at_ size n).length = b.length := by simp [putS]
theorem putS_get (b : List Int) (at_ size : Nat) (n : Int) {j : Nat} (h : j < b.length) : (putS b at_ size n)[j]? = some (if at_ ≤ j ∧ j < at_ + size then dig (j - at_) n else b.getD j 0) := by
  unfold putS
  rw [List.getElem?_map, List.getElem?_range h]; rfl
theorem putS_zero (b : List Int) (at_ : Nat) (n : Int) : putS b at_ 0 n = b := by
  apply List.ext_getElem?
  intro j
  rcases Nat.lt_or_ge j b.length with h | h
  · rw [putS_get b at_ 0 n h, if_neg (by omega), List.getD_eq_getElem?_getD, List.getElem?_eq_getElem h]; rfl
  · rw [List.getElem?_eq_none (by rw [putS_length]; exact h), List.getElem?_eq_none h]
theorem putS_succ (b : List Int) (at_ k : Nat) (n : Int) (h : at_ + k < b.length) : putS b at_ (k + 1) n = (putS b at_ k n).set (at_ + k) (dig k n) := by
  apply List.ext_getElem?
  intro j
  rw [List.getElem?_set]
  rcases Nat.lt_or_ge j b.length with hj | hj
  · rw [putS_get b at_ (k + 1) n hj]
    by_cases he : at_ + k = j
    · rw [if_pos he, if_pos (by omega), if_pos (by rw [putS_length]; omega), show j - at_ = k by omega]
    · rw [if_neg he, putS_get b at_ k n hj]
      congr 1
      by_cases h1 : at_ ≤ j ∧ j < at_ + k
      · rw [if_pos h1, if_pos (by omega)]
      · rw [if_neg h1, if_neg (by omega)]
  · rw [List.getElem?_eq_none (by rw [putS_length]; exact hj), if_neg (by omega), List.getElem?_eq_none (by rw [putS_length]; exact hj)]
/-- The number in so many bytes from a place on; what is not there is 0. -/
def getS (b : List Int) (at_ : Nat) : Nat → Int
  | 0 => 0
  | s + 1 => b.getD at_ 0 + 256 * getS b (at_ + 1) s
/-- All are bytes. -/
def Byt (b : List Int) : Prop := ∀ z ∈ b, 0 ≤ z ∧ z < 256
theorem Byt.get {b : List Int} (h : Byt b) (j : Nat) : 0 ≤ b.getD j 0 ∧ b.getD j 0 < 256 := by
  rcases Nat.lt_or_ge j b.length with hj | hj
  · rw [List.getD_eq_getElem?_getD, List.getElem?_eq_getElem hj]
    exact h _ (List.getElem_mem hj)
  · rw [List.getD_eq_getElem?_getD, List.getElem?_eq_none hj]; simp
theorem putS_byt {b : List Int} (h : Byt b) (at_ size : Nat) (n : Int) : Byt (putS b at_ size n) := by
  intro z hz
  unfold putS at hz
  rw [List.mem_map] at hz
  obtain ⟨j, _, rfl⟩ := hz
  split
  · exact ⟨dig_lo _ _, dig_hi _ _⟩
  · exact h.get j
theorem getS_lo {b : List Int} (h : Byt b) (at_ s : Nat) : 0 ≤ getS b at_ s := by
  induction s generalizing at_ with
  | zero => exact Int.le_refl _
  | succ s ih => have := ih (at_ + 1); have := (h.get at_).1; unfold getS; omega
theorem getS_hi {b : List Int} (h : Byt b) (at_ s : Nat) : getS b at_ s < 256 ^ s := by
  induction s generalizing at_ with
  | zero => unfold getS; decide
  | succ s ih =>
    have h1 := ih (at_ + 1)
    have h2 := (h.get at_).2
    unfold getS
    rw [Int.pow_succ]
    omega
/-- One byte more, at the end. -/
theorem getS_snoc (b : List Int) (at_ s : Nat) : getS b at_ (s + 1) = getS b at_ s + 256 ^ s * b.getD (at_ + s) 0 := by
  induction s generalizing at_ with
  | zero => simp [getS]
  | succ s ih =>
    rw [getS, ih (at_ + 1), getS, Int.pow_succ, show at_ + 1 + s = at_ + (s + 1) by omega, Int.mul_add, Int.mul_comm (256 ^ s) 256, Int.mul_assoc]
    omega
theorem dig_succ (i : Nat) (x : Int) : dig (i + 1) x = dig i (x / 256) := by
  unfold dig
  rw [Int.pow_succ, Int.mul_comm, Int.ediv_ediv_of_nonneg (by omega)]
/-- What was laid is read again. -/
theorem getS_dig {b : List Int} {at_ : Nat} {x : Int} (s : Nat) (h : ∀ i, i < s → b.getD (at_ + i) 0 = dig i x) : getS b at_ s = x % 256 ^ s := by
  induction s generalizing at_ x with
  | zero => simp [getS]
  | succ s ih =>
    have h0 := h 0 (by omega)
    rw [Nat.add_zero] at h0
    have h1 := ih (at_ := at_ + 1) (x := x / 256) (fun i hi => by rw [show at_ + 1 + i = at_ + (i + 1) by omega, h (i + 1) (by omega), dig_succ])
    rw [getS, h0, h1]
    unfold dig
    rw [Int.pow_zero, Int.ediv_one, Int.pow_succ, Int.mul_comm (256 ^ s) 256, Int.emod_def (x / 256), Int.emod_def x (256 * 256 ^ s), Int.ediv_ediv_of_nonneg (by omega : (0:Int) ≤ 256), Int.mul_sub, Int.mul_assoc 256]
    generalize 256 ^ s * (x / 256 / 256 ^ s) = y
    omega
end Go.Proofs.YtmafogagkjafbaaDoor
