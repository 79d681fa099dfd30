/- The program's analysis: one record. -/
import Derived.Test.YtoapihepdallbaaDoorFin2
namespace Go.Proofs.YtoapihepdallbaaDoor
open Go.RowKit

variable {B fb lb : Nat} {rt rd row : Option Nat} {s : An} {L : List RecD} {bs : Int}
set_option maxRecDepth 4000 in
set_option maxHeartbeats 2000000 in
theorem finOne (w : World) (lsn : Int) (r : RecD) (h : FinP B w fb lb rt rd s) (hl : LogP w lb row L bs) (hlb : lb < B ∧ ∀ q, row = some q → q < B) (ht : s.t.length ≤ 1000000) (hd : s.d.length ≤ 1000000) :
    Calls Tryd.prog 29 #[.pointer (some ⟨fb, 0, none⟩), .int .i64 lsn, aggR r] w fun e w' => e = .returned (.bool (stepO bs lsn r s).1) ∧ LeftF B fb lb rt rd (stepO bs lsn r s).2 w w' := by
  obtain ⟨ok, hok⟩ : ∃ ok, (stepO bs lsn r s).1 = ok := ⟨_, rfl⟩
  obtain ⟨s', hs'⟩ : ∃ s', (stepO bs lsn r s).2 = s' := ⟨_, rfl⟩
  rw [hok, hs']
  have HOK := Sc.mk (And.intro hok hs')
  have HB1 : Sc (Below w.heap.size w (w.alloc (.cells (cellsR r) 51))) := ⟨dn_alloc (Below.refl _ _) _⟩
  have HF1 := Sc.mk (h.bel HB1.out)
  have HL1 := Sc.mk (hl.bel HB1.out)
  have HZ1 := Sc.mk (heap_alloc_new w (.cells (cellsR r) 51))
  obtain ⟨w1, hw1⟩ : ∃ w1, w.alloc (.cells (cellsR r) 51) = w1 := ⟨_, rfl⟩
  obtain ⟨b1, hb1⟩ : ∃ b, w.heap.size = b := ⟨_, rfl⟩
  rw [hw1] at HB1 HF1 HL1 HZ1
  rw [hb1] at HZ1
  have HLB := Sc.mk hlb
  obtain ⟨c0, c1, c2, c3, c4, c5, c6, c7, c8, c9⟩ := cells_recs HZ1.out
  obtain ⟨f0, f4⟩ := HF1.out.cells
  clear hok hs' h hl hlb
  cases hi : s.ins with
  | true =>
    rw [hi] at f4
    have HS : Sc (stepO bs lsn r s = stepC bs lsn r s) := ⟨by unfold stepO; rw [if_pos hi]⟩
    clear hi
    go_enter Tryd.func29, Tryd.ntmps29
    go_wp2_with fail
    clear hw1 hb1
    refine (finCheck w1 lsn r HF1.out HL1.out HLB.out ht hd).mono ?_
    rw [← HS.out, HOK.out.1, HOK.out.2]
    rintro e w2 ⟨rfl, hl⟩
    have HLF := Sc.mk hl
    clear hl c0 c1 c2 c3 c4 c5 c6 c7 c8 c9 f0 f4
    go_wp2
    go_ret
    exact ⟨rfl, HLF.out.from_ HB1.out⟩
  | false =>
    rw [hi] at f4
    by_cases h7 : 7 ≤ r.kind
    · have d7 : decide (7 ≤ r.kind) = true := decide_eq_true h7
      have HS : Sc (stepO bs lsn r s = (true, s)) := ⟨by unfold stepO; rw [if_neg (by rw [hi]; exact Bool.false_ne_true), if_pos h7]⟩
      have HE : Sc (ok = true ∧ s' = s) := ⟨by rw [← HOK.out.1, ← HOK.out.2, HS.out]; exact ⟨rfl, rfl⟩⟩
      clear hi
      go_enter Tryd.func29, Tryd.ntmps29
      go_wp2
      go_ret
      exact ⟨by rw [HE.out.1]; rfl, by rw [HE.out.2]; exact (LeftF.refl HF1.out).from_ HB1.out⟩
    · have d7 : decide (7 ≤ r.kind) = false := decide_eq_false h7
      have HS : Sc (stepO bs lsn r s = stepG lsn r s) := ⟨by unfold stepO; rw [if_neg (by rw [hi]; exact Bool.false_ne_true), if_neg h7]⟩
      clear hi
      go_enter Tryd.func29, Tryd.ntmps29
      go_wp2_with fail
      clear hw1 hb1
      refine (finGoes w1 lsn r HF1.out ht hd).mono ?_
      rw [← HS.out, HOK.out.1, HOK.out.2]
      rintro e w2 ⟨rfl, hl⟩
      have HLF := Sc.mk hl
      clear hl c0 c1 c2 c3 c4 c5 c6 c7 c8 c9 f0 f4
      go_wp2
      go_ret
      exact ⟨rfl, HLF.out.from_ HB1.out⟩

theorem stepO_len (lsn : Int) (r : RecD) (s : An) : (stepO bs lsn r s).2.t.length ≤ s.t.length + 1 ∧ (stepO bs lsn r s).2.d.length ≤ s.d.length + 1 := by
  unfold stepO
  split
  · unfold stepC
    split
    · exact ⟨setIn_length _ _, Nat.le_succ _⟩
    split
    · exact ⟨Nat.le_succ _, add_length _ _⟩
    split <;> exact ⟨Nat.le_succ _, Nat.le_succ _⟩
  split
  · exact ⟨Nat.le_succ _, Nat.le_succ _⟩
  unfold stepG
  split
  · exact ⟨setIn_length _ _, Nat.le_succ _⟩
  split
  · exact ⟨Nat.le_succ _, Nat.le_succ _⟩
  split
  · exact ⟨Nat.le_succ_of_le (drop'_length _ _), Nat.le_succ _⟩
  refine ⟨setIn_length _ _, ?_⟩
  show (if r.kind = 2 ∨ r.kind = 3 then add s.d (r.page, lsn) else s.d).length ≤ _
  split
  · exact add_length _ _
  · exact Nat.le_succ _
/-- A step of the run. -/
theorem runA_next {b lsn : Int} {i : Nat} {r : RecD} {s : An} (hr : L[i]? = some r) (h : (stepO b lsn r s).1 = true) : runA b lsn (L.drop i) s = runA b (lsn + 1) (L.drop (i + 1)) (stepO b lsn r s).2 := by
  rw [List.drop_eq_getElem_cons (List.getElem?_eq_some_iff.mp hr).1, (List.getElem?_eq_some_iff.mp hr).2, runA, if_pos h]
theorem runA_stop {b lsn : Int} {i : Nat} {r : RecD} {s : An} (hr : L[i]? = some r) (h : (stepO b lsn r s).1 = false) : (runA b lsn (L.drop i) s).1 = some lsn := by
  rw [List.drop_eq_getElem_cons (List.getElem?_eq_some_iff.mp hr).1, (List.getElem?_eq_some_iff.mp hr).2, runA, if_neg (by rw [h]; exact Bool.false_ne_true)]
theorem runA_end {b lsn : Int} {s : An} : runA b lsn (L.drop L.length) s = (none, s) := by rw [List.drop_length, runA]
theorem badPage_next {pages lsn : Int} {i : Nat} {r : RecD} (hr : L[i]? = some r) (h : ¬ ((r.kind = 2 ∨ r.kind = 3 ∨ r.kind = 9) ∧ pages < r.page)) : badPage pages lsn (L.drop i) = badPage pages (lsn + 1) (L.drop (i + 1)) := by
  rw [List.drop_eq_getElem_cons (List.getElem?_eq_some_iff.mp hr).1, (List.getElem?_eq_some_iff.mp hr).2, badPage, if_neg h]
theorem badPage_stop {pages lsn : Int} {i : Nat} {r : RecD} (hr : L[i]? = some r) (h : (r.kind = 2 ∨ r.kind = 3 ∨ r.kind = 9) ∧ pages < r.page) : badPage pages lsn (L.drop i) = some lsn := by
  rw [List.drop_eq_getElem_cons (List.getElem?_eq_some_iff.mp hr).1, (List.getElem?_eq_some_iff.mp hr).2, badPage, if_pos h]
theorem badPage_end {pages lsn : Int} : badPage pages lsn (L.drop L.length) = none := by rw [List.drop_length, badPage]
end Go.Proofs.YtoapihepdallbaaDoor
