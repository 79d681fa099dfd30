/- The program's analysis, a record at a time: bad, check. -/
import Derived.Test.YtoapihepdallbaaDoorFin0
import Derived.Test.YtoapihepdallbaaDoorWal2
import Derived.Deep.RegionLaw
namespace Go.Proofs.YtoapihepdallbaaDoor
open Go.RowKit

theorem LogP.left {B fb lb lg : Nat} {w w' : World} {rt rd row : Option Nat} {s s' : An} {L : List RecD} {bs : Int} (h : LogP w lg row L bs) (hl : LeftF B fb lb rt rd s' w w') (hf : FinP B w fb lb rt rd s) (h1 : lg < B) (h2 : ∀ q, row = some q → q < B) : LogP w' lg row L bs := by
  have hb := hl.below hf
  refine h.kp (S := fun q => B ≤ q) ⟨hb.os, hb.tape, hb.output, hb.size, fun k hk hn => hb.block k (by omega)⟩ (by omega) (fun q hq => by have := h2 q hq; omega)
theorem box_left {B fb lb b : Nat} {w w' : World} {rt rd : Option Nat} {s' : An} {o : Obj} (hl : LeftF B fb lb rt rd s' w w') (hb : w.heap[b]? = some o) (hn : b ≠ fb ∧ rt ≠ some b ∧ rd ≠ some b) : w'.heap[b]? = some o := hl.at_ hb hn.1 hn.2.1 hn.2.2
theorem FinP.fresh {B fb lb : Nat} {w : World} {rt rd : Option Nat} {s : An} (h : FinP B w fb lb rt rd s) : w.heap.size ≠ fb ∧ rt ≠ some w.heap.size ∧ rd ≠ some w.heap.size :=
  ⟨by have := h.lt; omega, fun he => by have := h.rowlt.1 _ he; omega, fun he => by have := h.rowlt.2 _ he; omega⟩

/-- An error around a place. -/
abbrev errAt (b : Nat) : Value := .iface 119 (.pointer (some ⟨b, 0, none⟩))
set_option maxRecDepth 4000 in
set_option maxHeartbeats 1000000 in
theorem bad_any (f : Nat → Addr) (w : World) (lsn : Int) (hS : Sents w f) :
    Calls Tryd.prog 28 #[.int .i64 lsn] w fun e w' => ∃ b, e = .returned (errAt b) ∧ w.heap.size ≤ b ∧ w'.heap[b]? = some (.cells #[.int .i64 lsn, errV (f 7)] 121 (0, 0)) ∧ Below w.heap.size w w' := by
  have hge : w.cell? ⟨1, 0, none⟩ = some (errV (f 7)) := hS.cell 7 (by omega)
  clear hS
  go_enter Tryd.func28, Tryd.ntmps28
  go_wp2
  go_ret
  exact ⟨_, rfl, Nat.le_refl _, heap_alloc_new w _, dn_alloc (Below.refl _ _) _⟩

variable {B fb lb : Nat} {rt rd row : Option Nat} {s : An} {L : List RecD} {bs : Int}
set_option maxRecDepth 4000 in
set_option maxHeartbeats 2000000 in
theorem finCheck (w : World) (lsn : Int) (r : RecD) (h : FinP B w fb lb rt rd s) (hl : LogP w lb row L bs) (hlb : lb < B ∧ ∀ q, row = some q → q < B) (ht : s.t.length ≤ 1000000) (hd : s.d.length ≤ 1000000) :
    Calls Tryd.prog 49 #[.pointer (some ⟨fb, 0, none⟩), .int .i64 lsn, aggR r] w fun e w' => e = .returned (.bool (stepC bs lsn r s).1) ∧ LeftF B fb lb rt rd (stepC bs lsn r s).2 w w' := by
  obtain ⟨ok, hok⟩ : ∃ ok, (stepC bs lsn r s).1 = ok := ⟨_, rfl⟩
  obtain ⟨s', hs'⟩ : ∃ s', (stepC bs lsn r s).2 = s' := ⟨_, rfl⟩
  rw [hok, hs']
  have HOK := Sc.mk (And.intro hok hs')
  have HB1 : Sc (Below w.heap.size w (w.alloc (.cells (cellsR r) 51))) := ⟨dn_alloc (Below.refl _ _) _⟩
  have HF0 := Sc.mk h
  have HF1 := Sc.mk (h.bel HB1.out)
  have HL1 := Sc.mk (hl.bel HB1.out)
  have HFR := Sc.mk h.fresh
  have HZ1 := Sc.mk (heap_alloc_new w (.cells (cellsR r) 51))
  obtain ⟨w1, hw1⟩ : ∃ w1, w.alloc (.cells (cellsR r) 51) = w1 := ⟨_, rfl⟩
  obtain ⟨b1, hb1⟩ : ∃ b, w.heap.size = b := ⟨_, rfl⟩
  rw [hw1] at HB1 HF1 HL1 HZ1
  rw [hb1] at HZ1 HFR
  have HLB := Sc.mk hlb
  obtain ⟨c0, c1, c2, c3, c4, c5, c6, c7, c8, c9⟩ := cells_recs HZ1.out
  obtain ⟨f0, f4⟩ := HF1.out.cells
  have z4 := HF1.out.unfrozen 4
  clear hok hs' h hl hlb
  by_cases h8 : r.kind = 8
  · have b8 : (r.kind == 8) = true := by simp [h8]
    have HC : Sc (ok = (decide (r.prev < lsn) && decide (r.next < lsn)) ∧ s' = { s with t := setIn s.t (r.txn, r.key, r.prev, r.next), m := max s.m r.txn }) := ⟨by rw [← HOK.out.1, ← HOK.out.2]; unfold stepC; rw [if_pos h8]; exact ⟨rfl, rfl⟩⟩
    clear h8
    go_enter Tryd.func49, Tryd.ntmps49
    go_upto_region 3 with fail
    clear hw1 hb1
    have CA : Calls Tryd.prog 68 #[.pointer (some ⟨fb, 1, none⟩), .agg #[.int .i64 r.txn, .int .i64 r.key, .int .i64 r.prev, .int .i64 r.next]] w1.drew fun e w2 => e = .returned (.tuple #[]) ∧ LeftF B fb lb rt rd { s with t := setIn s.t (r.txn, r.key, r.prev, r.next), m := max s.m r.txn } w1 w2 := (finAddT w1.drew (r.txn, r.key, r.prev, r.next) HF1.out.drew ht).mono fun e w' ⟨he, hl⟩ => ⟨he, hl.from_ (Below.refl w1.heap.size w1).drew⟩
    go_region_law (first | (go_simp; go_at_call 68; refine CA.mono ?_; rintro e w2 ⟨rfl, hl⟩; have HLF := Sc.mk hl; clear hl))
    all_goals
      obtain ⟨c0, c1, c2, c3, c4, c5, c6, c7, c8, c9⟩ := cells_recs (box_left HLF.out HZ1.out HFR.out)
      by_cases hp : r.prev < lsn
      · have hp' : decide (r.prev < lsn) = true := decide_eq_true hp
        clear hp
        go_wp2
        go_ret
        exact ⟨by rw [HC.out.1, hp', Bool.true_and]; rfl, by rw [HC.out.2]; exact HLF.out.from_ HB1.out⟩
      · have hp' : decide (r.prev < lsn) = false := decide_eq_false hp
        clear hp
        go_wp2
        go_ret
        exact ⟨by rw [HC.out.1, hp', Bool.false_and]; rfl, by rw [HC.out.2]; exact HLF.out.from_ HB1.out⟩
  · have b8 : (r.kind == 8) = false := by simp [h8]
    by_cases h9 : r.kind = 9
    · have b9 : (r.kind == 9) = true := by simp [h9]
      have HC : Sc (ok = (decide (bs < r.prev) && decide (r.prev < lsn)) ∧ s' = { s with d := add s.d (r.page, r.prev) }) := ⟨by rw [← HOK.out.1, ← HOK.out.2]; unfold stepC; rw [if_neg h8, if_pos h9]; exact ⟨rfl, rfl⟩⟩
      clear h8 h9
      go_enter Tryd.func49, Tryd.ntmps49
      go_upto_region 6 with fail
      clear hw1 hb1
      have CA : Calls Tryd.prog 69 #[.pointer (some ⟨fb, 3, none⟩), .int .i64 r.page, .int .i64 r.prev] w1.drew fun e w2 => e = .returned (.tuple #[]) ∧ LeftF B fb lb rt rd { s with d := add s.d (r.page, r.prev) } w1 w2 := (finAddD w1.drew r.page r.prev HF1.out.drew hd).mono fun e w' ⟨he, hl⟩ => ⟨he, hl.from_ (Below.refl w1.heap.size w1).drew⟩
      go_region_law (first | (go_simp; go_at_call 69; refine CA.mono ?_; rintro e w2 ⟨rfl, hl⟩; have HLF := Sc.mk hl; clear hl))
      all_goals
        have HL2 := Sc.mk (HL1.out.left HLF.out HF1.out HLB.out.1 HLB.out.2)
        obtain ⟨d0, d1, d2, d3, d4, d5, d6, d7, d8, d9⟩ := cells_recs (box_left HLF.out HZ1.out HFR.out)
        obtain ⟨rt2, rd2, hf2, _, _, _⟩ := HLF.out
        obtain ⟨g0, g4⟩ := hf2.cells
        have k3 : ∀ X : From w2, X.world.cell? ⟨b1, 3, none⟩ = some (.int .i64 r.prev) := fun X => X.cell d3
        have k0 : ∀ X : From w2, X.world.cell? ⟨fb, 0, none⟩ = some (.pointer (some ⟨lb, 0, none⟩)) := fun X => X.cell g0
        have CB : ∀ X : From w2, Calls Tryd.prog 25 #[.pointer (some ⟨lb, 0, none⟩)] X.world fun e w' => e = .returned (.int .i64 bs) ∧ w' = X.world := fun X => walBase_any X.world lb row L bs (HL2.out.bel X.below)
        clear hf2 g0 g4 d0 d1 d2 d3 d4 d5 d6 d7 d8 d9 c0 c1 c2 c3 c4 c5 c6 c7 c8 c9 f0 f4 z4
        by_cases hp : bs < r.prev
        · have hp' : decide (bs < r.prev) = true := decide_eq_true hp
          clear hp
          go_wp2_with fail
          refine wp_region_below (by kernel_rfl) (by kernel_rfl) ?_
          repeat (go_big_quiet_step ((go_at_call 25; exact From.call_same _ (CB _))))
          refine wpQuiet_nil ?_
          intro wq hw'
          have HBQ := Sc.mk (From.of_class hw')
          clear hw'
          go_wp2
          go_ret
          exact ⟨by rw [HC.out.1, hp', Bool.true_and]; rfl, by rw [HC.out.2]; exact (HLF.out.bel HBQ.out).from_ HB1.out⟩
        · have hp' : decide (bs < r.prev) = false := decide_eq_false hp
          clear hp
          go_wp2_with fail
          refine wp_region_below (by kernel_rfl) (by kernel_rfl) ?_
          repeat (go_big_quiet_step ((go_at_call 25; exact From.call_same _ (CB _))))
          refine wpQuiet_nil ?_
          intro wq hw'
          have HBQ := Sc.mk (From.of_class hw')
          clear hw'
          go_wp2
          go_ret
          exact ⟨by rw [HC.out.1, hp', Bool.false_and]; rfl, by rw [HC.out.2]; exact (HLF.out.bel HBQ.out).from_ HB1.out⟩
    · have b9 : (r.kind == 9) = false := by simp [h9]
      by_cases h10 : r.kind = 10
      · have b10 : (r.kind == 10) = true := by simp [h10]
        have HC : Sc (ok = true ∧ s' = { s with m := max s.m r.next, ins := false }) := ⟨by rw [← HOK.out.1, ← HOK.out.2]; unfold stepC; rw [if_neg h8, if_neg h9, if_pos h10]; exact ⟨rfl, rfl⟩⟩
        clear h8 h9 h10
        go_enter Tryd.func49, Tryd.ntmps49
        go_upto_region 9 with fail
        clear hw1 hb1
        have CA : Calls Tryd.prog 70 #[.pointer (some ⟨fb, 1, none⟩), .int .i64 r.next] w1.drew fun e w2 => e = .returned (.tuple #[]) ∧ LeftF B fb lb rt rd { s with m := max s.m r.next } w1 w2 := (finSeen w1.drew r.next HF1.out.drew).mono fun e w' ⟨he, hl⟩ => ⟨he, hl.from_ (Below.refl w1.heap.size w1).drew⟩
        go_region_law (first | (go_simp; go_at_call 70; refine CA.mono ?_; rintro e w2 ⟨rfl, hl⟩; have HLF := Sc.mk hl; clear hl))
        all_goals
          obtain ⟨rt2, rd2, hf2, _, _, _⟩ := HLF.out
          obtain ⟨g0, g4⟩ := hf2.cells
          have y4 := hf2.unfrozen 4
          have lf := hf2.lt
          clear hf2 c0 c1 c2 c3 c4 c5 c6 c7 c8 c9 f0 f4 z4
          go_wp2
          go_ret
          exact ⟨by rw [HC.out.1]; rfl, by rw [HC.out.2]; exact (HLF.out.setIns false).from_ HB1.out⟩
      · have b10 : (r.kind == 10) = false := by simp [h10]
        have HC : Sc (ok = false ∧ s' = s) := ⟨by rw [← HOK.out.1, ← HOK.out.2]; unfold stepC; rw [if_neg h8, if_neg h9, if_neg h10]; exact ⟨rfl, rfl⟩⟩
        clear h8 h9 h10
        go_enter Tryd.func49, Tryd.ntmps49
        go_wp2
        go_ret
        exact ⟨by rw [HC.out.1]; rfl, by rw [HC.out.2]; exact LeftF.same HF0.out HB1.out⟩
end Go.Proofs.YtoapihepdallbaaDoor
