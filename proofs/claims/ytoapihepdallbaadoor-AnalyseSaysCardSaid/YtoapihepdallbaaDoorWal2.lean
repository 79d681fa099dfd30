/- The program's log: Append; New. -/
import Derived.Test.YtoapihepdallbaaDoorWal1
namespace Go.Proofs.YtoapihepdallbaaDoor
open Go.RowKit

/-- What a call that may turn the log leaves. -/
def LeftL (lb : Nat) (row : Option Nat) (L : List RecD) (bs : Int) (w w' : World) : Prop :=
  ∃ row', LogP w' lb row' L bs ∧ Kp (fun q => q = lb ∨ some q = row) w w' ∧ (row' = row ∨ ∃ q, row' = some q ∧ w.heap.size ≤ q)
theorem LeftL.same {lb : Nat} {row : Option Nat} {L : List RecD} {bs : Int} {w w' : World} (h : LogP w lb row L bs) (hb : Below w.heap.size w w') : LeftL lb row L bs w w' := ⟨row, h.bel hb, Kp.of_below hb _, .inl rfl⟩
theorem LeftL.bel {lb : Nat} {row : Option Nat} {L : List RecD} {bs : Int} {w w1 w2 : World} (h : LeftL lb row L bs w w1) (hb : Below w1.heap.size w1 w2) : LeftL lb row L bs w w2 := by
  obtain ⟨row', hl, hk, hat⟩ := h
  exact ⟨row', hl.bel hb, hk.trans (Kp.of_below hb (fun _ => False)) (fun _ h => h.elim), hat⟩
theorem grown_drewR {w w2 : World} {r : Option Nat} (h : w.drew.grownBy w2 r) : w.grownBy w2 r := ⟨h.os, h.tape, h.output, h.size, h.block⟩
/-- Behind an append, the row stored. -/
theorem LogP.append {w W w2 : World} {lb g cap s c : Nat} {dp A : Option Addr} {L : List RecD} {r : RecD} {bs : Int} (hb : Below w.heap.size w W) (hlt : lb < w.heap.size)
    (hc : W.heap[lb]? = some (.cells #[.pointer dp, .int .i64 1, .int .i64 29, .int .i64 bs, .int .i64 1, .slice A s c, .int .i64 0] 111 (0, 0))) (hap : (Value.slice A s c).ownBlock ≠ some lb)
    (hown : w2.ownsRow 0 51 10 (.slice (some ⟨g, 0, none⟩) (L.length + 1) cap) (L.length + 1) (flat encR L ++ encR r)) (hg : W.grownBy w2 (Value.slice A s c).ownBlock) (hat : (Value.slice A s c).ownBlock = some g ∨ W.heap.size ≤ g) :
    w2.heap[lb]? = some (.cells #[.pointer dp, .int .i64 1, .int .i64 29, .int .i64 bs, .int .i64 1, .slice A s c, .int .i64 0] 111 (0, 0)) ∧
      LeftL lb (Value.slice A s c).ownBlock (L ++ [r]) bs w (w2.setCell ⟨lb, 5, none⟩ (.slice (some ⟨g, 0, none⟩) (L.length + 1) cap)) := by
  have hc2 : w2.heap[lb]? = some (.cells #[.pointer dp, .int .i64 1, .int .i64 29, .int .i64 bs, .int .i64 1, .slice A s c, .int .i64 0] 111 (0, 0)) := (hg.block lb (heap_lt hc) (fun he => hap he.symm)).trans hc
  have hne : g ≠ lb := by
    rcases hat with h | h
    · intro he; subst he; exact hap h
    · have := hb.size; omega
  have ho : Own encR 10 51 0 w2 (.slice (some ⟨g, 0, none⟩) (L.length + 1) cap) (L ++ [r]) := Own.of_rows hown (by simp) (by rw [flat_append, flat_single])
  refine ⟨hc2, some g, ⟨⟨dp, some ⟨g, 0, none⟩, L.length + 1, cap, rfl, ?_, ho.kp (Kp.setCell w2 _ _) (fun q hq he => ?_)⟩, fun he => hne (by injection he)⟩, ?_, ?_⟩
  · rw [set_one hc2 5 _]; rfl
  · injection hq with hq; exact hne (hq.trans he)
  · exact (((Kp.of_below hb (fun q => q = lb ∨ some q = (Value.slice A s c).ownBlock)).trans (Kp.of_grown hg) (fun q hq => .inl (.inr hq)))).trans (Kp.setCell w2 ⟨lb, 5, none⟩ _) (fun q hq => .inl (.inl hq))
  · rcases hat with h | h
    · exact .inl h.symm
    · exact .inr ⟨g, rfl, Nat.le_trans hb.size h⟩

/-- What Append leaves. -/
def AppP (f : Nat → Addr) (lb : Nat) (row : Option Nat) (L : List RecD) (bs : Int) (r : RecD) (w : World) (e : Ending) (w' : World) : Prop :=
  if goodR r = true then e = .returned (.tuple #[.int .i64 (bs + ((L.length : Int) + 1)), .nilIface]) ∧ LeftL lb row (L ++ [r]) bs w w' else e = .returned (.tuple #[.int .i64 0, errV (f 1)]) ∧ LeftL lb row L bs w w'
theorem AppP.yes {f : Nat → Addr} {lb : Nat} {row : Option Nat} {L : List RecD} {bs : Int} {r : RecD} {w w' : World} {e : Ending} (h : goodR r = true) (h' : e = .returned (.tuple #[.int .i64 (bs + ((L.length : Int) + 1)), .nilIface]) ∧ LeftL lb row (L ++ [r]) bs w w') : AppP f lb row L bs r w e w' := by
  unfold AppP; rw [if_pos h]; exact h'
theorem AppP.no {f : Nat → Addr} {lb : Nat} {row : Option Nat} {L : List RecD} {bs : Int} {r : RecD} {w w' : World} {e : Ending} (h : goodR r = false) (h' : e = .returned (.tuple #[.int .i64 0, errV (f 1)]) ∧ LeftL lb row L bs w w') : AppP f lb row L bs r w e w' := by
  unfold AppP; rw [if_neg (by rw [h]; simp)]; exact h'

set_option maxRecDepth 4000 in
set_option maxHeartbeats 2000000 in
theorem walAppend_any (f : Nat → Addr) (w : World) (lb : Nat) (row : Option Nat) (L : List RecD) (bs : Int) (r : RecD) (hS : Sents w f) (h : LogP w lb row L bs) (hlen : L.length ≤ 172) (h0 : 0 ≤ bs) (h1 : bs ≤ 1000000) :
    Calls Tryd.prog 22 #[.pointer (some ⟨lb, 0, none⟩), aggR r] w (AppP f lb row L bs r w) := by
  obtain ⟨i0, hi, hz0, hz1, hz2⟩ := info_parts infoCloR
  have HB1 : Sc (Below w.heap.size w (w.alloc (.cells (cellsR r) 51))) := ⟨dn_alloc (Below.refl _ _) _⟩
  have HX := Sc.mk h
  have HL1 := Sc.mk (h.bel HB1.out)
  have HZ1 := Sc.mk (heap_alloc_new w (.cells (cellsR r) 51))
  have HS1 := Sc.mk (hS.bel HB1.out)
  obtain ⟨w1, hw1⟩ : ∃ w1, w.alloc (.cells (cellsR r) 51) = w1 := ⟨_, rfl⟩
  rw [hw1] at HB1 HL1 HZ1 HS1
  obtain ⟨c0, c1, c2, c3, c4, c5, c6, c7, c8, c9⟩ := cells_recs HZ1.out
  clear hS h
  go_enter Tryd.func22, Tryd.ntmps22
  go_wp2_with fail
  clear hw1
  refine (recCheck_any f _ r HS1.out).mono ?_
  cases hgd : goodR r with
  | false =>
    have HG := Sc.mk hgd
    rw [if_neg (by simp)]
    clear hgd
    rintro e w2 ⟨rfl, hb⟩
    have HB2 : Sc (Below w.heap.size w w2) := ⟨below_down HB1.out hb⟩
    clear hb c0 c1 c2 c3 c4 c5 c6 c7 c8 c9
    go_wp2
    go_ret2
    exact AppP.no HG.out ⟨rfl, LeftL.same HX.out HB2.out⟩
  | true =>
    have HG := Sc.mk hgd
    rw [if_pos rfl]
    clear hgd
    rintro e w2 ⟨rfl, hb⟩
    have HB2 : Sc (Below w.heap.size w w2) := ⟨below_down HB1.out hb⟩
    have HL2 := Sc.mk (HL1.out.bel hb)
    have HZ2 := Sc.mk (up hb HZ1.out)
    clear hb c0 c1 c2 c3 c4 c5 c6 c7 c8 c9
    go_wp2_with fail
    refine (walRoom_any _ lb row L bs HL2.out (by omega) h0 h1).mono ?_
    rintro e w3 ⟨rfl, hb⟩
    have HB3 : Sc (Below w.heap.size w w3) := ⟨below_down HB2.out hb⟩
    have HL3 := Sc.mk (HL2.out.bel hb)
    have HZ3 := Sc.mk (up hb HZ2.out)
    clear hb
    obtain ⟨⟨dp, A, s, c, hv, hc, hown⟩, hap⟩ := HL3.out
    have HC := Sc.mk hc
    have HO := Sc.mk hown
    have HV := Sc.mk hv
    have HAP : Sc ((Value.slice A s c).ownBlock ≠ some lb) := ⟨by rw [hv]; exact hap⟩
    obtain ⟨d2, d3, d5⟩ := cells_log hc
    obtain ⟨c0, c1, c2, c3, c4, c5, c6, c7, c8, c9⟩ := cells_recs HZ3.out
    have lz := heap_lt HZ3.out
    have lc := heap_lt hc
    have HLT : Sc (lb < w.heap.size ∧ True) := ⟨HX.out.lt, trivial⟩
    have hrm : ¬ (174 - (L.length : Int)) < 1 := by omega
    have HA2 : Sc (L.length + 1 ≤ maxLen) := ⟨by unfold maxLen; omega⟩
    have HA3 : Sc ((L.length + 1) * 72 ≤ 140737488355328) := ⟨by omega⟩
    clear hv hc hown hap
    go_upto_region 6 with fail
    go_region_law (first | ((refine step_append_lies _ (by rfl) (.tmp 20) (.tmp 22) 25 (by rfl) 0 51 i0 (.agg #[.int .i64 0, .int .i64 0, .int .i64 0, .int .i64 0, .int .i64 0, .int .i64 0, .bool false, .bool false, .int .i64 0, .int .i64 0]) 10 72 Tryd.underlying25 hi hz0 hz1 hz2 rfl (by decide) _ L.length (flat encR L) (by rfl) ((HO.out.alloc _).drew) ⟨w3.heap.size, 0, none⟩ 1 1 (encR r) (by rfl) (by rfl) (World.news_of_block (heap_alloc_new w3 (.cells (encR r).toArray 51))) (kindR.one _) Nat.one_pos HA2.out HA3.out (Nat.zero_le _) (w3.heap.size + 1) (by simp) ?_); intro ga ca wa g1 g2 g3 g4; obtain ⟨hce, hll⟩ := LogP.append (r := r) (HB3.out.alloc HB3.out.size (.cells (encR r).toArray 51)) HLT.out.1 (upa HC.out _) HAP.out g1 (grown_drewR g2) (g3.elim .inl (fun h => .inr (by rw [h]; simp))); obtain ⟨e2, e3, e5⟩ := cells_log hce; have f5 := unfrozen_at hce 5; have HLL := Sc.mk hll; have HCE := Sc.mk hce; clear g1 g2 g3 g4 hll hce))
    all_goals
      have HLL2 : Sc (LeftL lb row (L ++ [r]) bs w (wa.setCell ⟨lb, 5, none⟩ (.slice (some ⟨ga, 0, none⟩) (L.length + 1) ca))) := ⟨by rw [← HV.out]; exact HLL.out⟩
      have HCH : Sc ((L ++ [r]).length ≤ 173) := ⟨by simp; omega⟩
      clear c0 c1 c2 c3 c4 c5 c6 c7 c8 c9 d2 d3 d5
      go_wp2_with fail
      refine (walLast_any _ lb HLL2.out.choose (L ++ [r]) bs HLL2.out.choose_spec.1 (by have := HCH.out; omega) h0 h1).mono ?_
      rintro e w5 ⟨rfl, hb⟩
      have HLF := Sc.mk (HLL2.out.bel hb)
      clear hb
      go_wp2
      go_ret2
      exact AppP.yes HG.out ⟨rfl, HLF.out⟩
end Go.Proofs.YtoapihepdallbaaDoor
