/- A page's bytes are read as the page: plain facts. -/
import Derived.Test.YtmafogagkjafbaaDoorPageR
namespace Go.Proofs.YtmafogagkjafbaaDoor
open Go.RowKit

theorem putS_getD_in {b : List Int} {a s j : Nat} (n : Int) (h1 : a ≤ j) (h2 : j < a + s) (h3 : j < b.length) : (putS b a s n).getD j 0 = dig (j - a) n := by
  rw [List.getD_eq_getElem?_getD, putS_get b a s n h3, if_pos ⟨h1, h2⟩]; rfl
theorem putS_getD_out {b : List Int} {a s j : Nat} (n : Int) (h : j < a ∨ a + s ≤ j) : (putS b a s n).getD j 0 = b.getD j 0 := by
  rcases Nat.lt_or_ge j b.length with h3 | h3
  · rw [List.getD_eq_getElem?_getD, putS_get b a s n h3, if_neg (by omega)]; rfl
  · rw [List.getD_eq_getElem?_getD, List.getD_eq_getElem?_getD, List.getElem?_eq_none (by rw [putS_length]; exact h3), List.getElem?_eq_none h3]
theorem entB_out {b : List Int} {k j : Nat} {x : Int × Int} (h : j < 16 + 12 * k ∨ 28 + 12 * k ≤ j) : (entB b k x).getD j 0 = b.getD j 0 := by
  unfold entB
  rw [putS_getD_out _ (by omega), putS_getD_out _ (by omega)]
theorem fillB_low {b : List Int} {l : List (Int × Int)} {j : Nat} (k : Nat) (h : j < 16) : (fillB b l k).getD j 0 = b.getD j 0 := by
  induction k with
  | zero => rfl
  | succ k ih => unfold fillB; rw [entB_out (by omega), ih]
theorem fillB_high {b : List Int} {l : List (Int × Int)} {j : Nat} (k : Nat) (h : 16 + 12 * k ≤ j) : (fillB b l k).getD j 0 = b.getD j 0 := by
  induction k with
  | zero => rfl
  | succ k ih => unfold fillB; rw [entB_out (by omega), ih (by omega)]
theorem fillB_key {b : List Int} {l : List (Int × Int)} {i j : Nat} (k : Nat) (hi : i < k) (h1 : 16 + 12 * i ≤ j) (h2 : j < 20 + 12 * i) (hb : j < b.length) : (fillB b l k).getD j 0 = dig (j - (16 + 12 * i)) (IntKind.u64.wrap (l.getD i (0, 0)).1) := by
  induction k with
  | zero => omega
  | succ k ih =>
    unfold fillB
    rcases Nat.lt_or_ge i k with h | h
    · rw [entB_out (by omega), ih h]
    · obtain rfl : i = k := by omega
      unfold entB
      rw [putS_getD_out _ (by omega), putS_getD_in _ h1 (by omega) (by rw [fillB_length]; exact hb)]
theorem fillB_val {b : List Int} {l : List (Int × Int)} {i j : Nat} (k : Nat) (hi : i < k) (h1 : 20 + 12 * i ≤ j) (h2 : j < 28 + 12 * i) (hb : j < b.length) : (fillB b l k).getD j 0 = dig (j - (20 + 12 * i)) (IntKind.u64.wrap (l.getD i (0, 0)).2) := by
  induction k with
  | zero => omega
  | succ k ih =>
    unfold fillB
    rcases Nat.lt_or_ge i k with h | h
    · rw [entB_out (by omega), ih h]
    · obtain rfl : i = k := by omega
      unfold entB
      rw [putS_getD_in _ h1 (by omega) (by rw [putS_length, fillB_length]; exact hb)]
theorem zeroB_getD (j : Nat) : zeroB.getD j 0 = 0 := by
  unfold zeroB
  rw [List.getD_eq_getElem?_getD, List.getElem?_replicate]
  split <;> rfl
/-- All values are numbers of 64 bits. -/
def Vals (l : List (Int × Int)) : Prop := ∀ x ∈ l, -9223372036854775808 ≤ x.2 ∧ x.2 ≤ 9223372036854775807
theorem headB_lsn (n : Int) (m : Nat) {j : Nat} (h : j < 4) : (headB n m).getD j 0 = dig j (IntKind.u64.wrap n) := by
  unfold headB
  rw [putS_getD_out _ (by omega), putS_getD_in _ (by omega) (by omega) (by rw [zeroB_length]; omega), Nat.sub_zero]
theorem headB_cnt (n : Int) (m : Nat) {j : Nat} (h1 : 4 ≤ j) (h2 : j < 6) : (headB n m).getD j 0 = dig (j - 4) (m : Int) := by
  unfold headB
  rw [putS_getD_in _ h1 (by omega) (by rw [putS_length, zeroB_length]; omega)]
theorem headB_zero (n : Int) (m : Nat) {j : Nat} (h : 6 ≤ j) : (headB n m).getD j 0 = 0 := by
  unfold headB
  rw [putS_getD_out _ (by omega), putS_getD_out _ (by omega), zeroB_getD]
theorem pageB_zero (n : Int) (l : List (Int × Int)) {j : Nat} (h : (6 ≤ j ∧ j < 16) ∨ 16 + 12 * l.length ≤ j) : (pageB n l).getD j 0 = 0 := by
  unfold pageB
  rcases h with ⟨h1, h2⟩ | h
  · rw [fillB_low _ h2, headB_zero _ _ h1]
  · rw [fillB_high _ h, headB_zero _ _ (by omega)]
/-- Bytes that are a page's at all the places that are read. -/
def Alike (n : Int) (l : List (Int × Int)) (b : List Int) : Prop := ∀ j, (j < 6 ∨ (16 ≤ j ∧ j < 16 + 12 * l.length)) → b.getD j 0 = (pageB n l).getD j 0
theorem alike_n {n : Int} {l : List (Int × Int)} {b : List Int} (h : Alike n l b) (h0 : 0 ≤ n) (h1 : n ≤ 1073741824) : getS b 0 4 = n := by
  rw [getS_dig (x := IntKind.u64.wrap n) 4 (fun i hi => by rw [Nat.zero_add, h i (by omega)]; unfold pageB; rw [fillB_low _ (by omega), headB_lsn _ _ hi]), wraps_u64 n h0 (by omega)]
  omega
theorem alike_m {n : Int} {l : List (Int × Int)} {b : List Int} (h : Alike n l b) (h1 : l.length ≤ 20) : getS b 4 2 = (l.length : Int) := by
  rw [getS_dig (x := (l.length : Int)) 2 (fun i hi => by rw [h (4 + i) (by omega)]; unfold pageB; rw [fillB_low _ (by omega), headB_cnt _ _ (by omega) (by omega)]; congr 1; omega)]
  omega
theorem alike_e {n : Int} {l : List (Int × Int)} {b : List Int} (h : Alike n l b) (h1 : l.length ≤ 20) {i : Nat} {x : Int × Int} (hx : l[i]? = some x) (hk0 : 0 ≤ x.1) (hk1 : x.1 < 1048576) (hv0 : -9223372036854775808 ≤ x.2) (hv1 : x.2 ≤ 9223372036854775807) : readE b i = x := by
  have hi : i < l.length := (List.getElem?_eq_some_iff.1 hx).1
  have hg : l.getD i (0, 0) = x := by rw [List.getD_eq_getElem?_getD, hx]; rfl
  have e1 : getS b (16 + 12 * i) 4 = x.1 := by
    rw [getS_dig (x := IntKind.u64.wrap x.1) 4 (fun t ht => by rw [h _ (by omega)]; unfold pageB; rw [fillB_key l.length hi (by omega) (by omega) (by rw [headB_length]; omega), hg]; congr 1; omega), wraps_u64 x.1 hk0 (by omega)]
    omega
  have e2 : getS b (20 + 12 * i) 8 = IntKind.u64.wrap x.2 := by
    rw [getS_dig (x := IntKind.u64.wrap x.2) 8 (fun t ht => by rw [h _ (by omega)]; unfold pageB; rw [fillB_val l.length hi (by omega) (by omega) (by rw [headB_length]; omega), hg]; congr 1; omega), IntKind.wrap_u64]
    omega
  unfold readE
  rw [e1, e2, IntKind.wrap_u64, IntKind.wrap_i64]
  refine Prod.ext rfl ?_
  show (x.2 % 18446744073709551616 + 9223372036854775808) % 18446744073709551616 - 9223372036854775808 = x.2
  omega
theorem alike_l {n : Int} {l : List (Int × Int)} {b : List Int} (h : Alike n l b) (hok : OkP n l) (hv : Vals l) : readP b = l := by
  have hm : readM b = l.length := by unfold readM; rw [alike_m h hok.2.2.1]; have := hok.2.2.1; omega
  unfold readP
  rw [hm]
  apply List.ext_getElem?
  intro i
  rcases Nat.lt_or_ge i l.length with hi | hi
  · obtain ⟨x, hx⟩ : ∃ x, l[i]? = some x := ⟨_, List.getElem?_eq_getElem hi⟩
    have hk := hok.2.2.2.2 i x hi hx
    have hvx := hv x (List.mem_of_getElem? hx)
    unfold readL
    rw [List.getElem?_map, List.getElem?_range hi, hx]
    show some (readE b i) = some x
    rw [alike_e h hok.2.2.1 hx hk.1 hk.2.1 hvx.1 hvx.2]
  · rw [List.getElem?_eq_none (by rw [readL_length]; exact hi), List.getElem?_eq_none hi]
theorem pageB_ok {n : Int} {l : List (Int × Int)} (hok : OkP n l) (hv : Vals l) : ReadOk (pageB n l) ∧ getS (pageB n l) 0 4 = n ∧ readP (pageB n l) = l := by
  have ha : Alike n l (pageB n l) := fun _ _ => rfl
  have h1 := alike_n ha hok.1 hok.2.1
  have h2 := alike_l ha hok hv
  refine ⟨?_, h1, h2⟩
  unfold ReadOk
  rw [h1, h2]
  exact ⟨hok, rfl⟩
/-- A byte turned where none is read: no page. -/
theorem turned_not {n : Int} {l : List (Int × Int)} (hok : OkP n l) (hv : Vals l) {k : Nat} {z : Int} (hk : (6 ≤ k ∧ k < 16) ∨ 16 + 12 * l.length ≤ k) (h256 : k < 256) (hz : z ≠ 0) : ¬ ReadOk ((pageB n l).set k z) := by
  have ha : Alike n l ((pageB n l).set k z) := fun j hj => by
    rw [List.getD_eq_getElem?_getD, List.getD_eq_getElem?_getD, List.getElem?_set_ne (by omega)]
  unfold ReadOk
  rw [alike_n ha hok.1 hok.2.1, alike_l ha hok hv]
  intro h
  have h1 := pageB_zero n l hk
  have h2 : ((pageB n l).set k z).getD k 0 = z := by rw [List.getD_eq_getElem?_getD, List.getElem?_set_self (by rw [pageB_length]; exact h256)]; rfl
  rw [← h.2, h1] at h2
  exact hz h2.symm
/-- Unlike pages have unlike bytes. -/
theorem pageB_inj {n m : Int} {l k : List (Int × Int)} (h1 : OkP n l) (h2 : OkP m k) (hv1 : Vals l) (hv2 : Vals k) (h : pageB n l = pageB m k) : n = m ∧ l = k := by
  obtain ⟨_, a1, a2⟩ := pageB_ok h1 hv1
  obtain ⟨_, b1, b2⟩ := pageB_ok h2 hv2
  rw [h] at a1 a2
  exact ⟨a1.symm.trans b1, a2.symm.trans b2⟩
end Go.Proofs.YtmafogagkjafbaaDoor
