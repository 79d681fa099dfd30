/- The document's log: Append; NewLog. -/
import Derived.Test.YtoapihepdallbaaDoorRW1
import Derived.Test.YtoapihepdallbaaDoorWal2
import Derived.Test.YtoapihepdallbaaDoorRefRow
import Derived.Test.YtoapihepdallbaaDoorGoodM2
namespace Go.Proofs.YtoapihepdallbaaDoor
open Go.RowKit

/-- What a call that may turn the log leaves. -/
def LeftR (lb : Nat) (row : Option Nat) (L : List RecD) (bs : Int) (w w' : World) : Prop :=
  ∃ row', LogR w' lb row' L bs ∧ Kp (fun q => q = lb ∨ some q = row) w w' ∧ (row' = row ∨ ∃ q, row' = some q ∧ w.heap.size ≤ q)
theorem LeftR.same {lb : Nat} {row : Option Nat} {L : List RecD} {bs : Int} {w w' : World} (h : LogR w lb row L bs) (hb : Below w.heap.size w w') : LeftR lb row L bs w w' := ⟨row, h.bel hb, Kp.of_below hb _, .inl rfl⟩
theorem LeftR.bel {lb : Nat} {row : Option Nat} {L : List RecD} {bs : Int} {w w1 w2 : World} (h : LeftR lb row L bs w w1) (hb : Below w1.heap.size w1 w2) : LeftR lb row L bs w w2 := by
  obtain ⟨row', hl, hk, hat⟩ := h
  exact ⟨row', hl.bel hb, hk.trans (Kp.of_below hb (fun _ => False)) (fun _ h => h.elim), hat⟩
/-- Behind an append onto a copy, the row stored. -/
theorem LogR.append {w W w2 : World} {lb g cap s c n : Nat} {row : Option Nat} {dp A : Option Addr} {v : Value} {L : List RecD} {r : RecD} {bs : Int} (hb : Below w.heap.size w W) (hlt : lb < w.heap.size)
    (hc : W.heap[lb]? = some (.cells #[.pointer dp, .int .i64 1, .int .i64 29, .int .i64 bs, .int .i64 1, .slice A s c, .int .i64 bs] 95 (0, 0))) (hv : ∀ q, v.ownBlock = some q → w.heap.size ≤ q) (hn : n = L.length + 1)
    (hown : w2.ownsRow 0 51 10 (.slice (some ⟨g, 0, none⟩) n cap) n (flat encR L ++ encR r)) (hg : W.grownBy w2 v.ownBlock) (hat : v.ownBlock = some g ∨ W.heap.size ≤ g) :
    w2.heap[lb]? = some (.cells #[.pointer dp, .int .i64 1, .int .i64 29, .int .i64 bs, .int .i64 1, .slice A s c, .int .i64 bs] 95 (0, 0)) ∧
      LeftR lb row (L ++ [r]) bs w (w2.setCell ⟨lb, 5, none⟩ (.slice (some ⟨g, 0, none⟩) n cap)) := by
  subst hn
  have hc2 : w2.heap[lb]? = some (.cells #[.pointer dp, .int .i64 1, .int .i64 29, .int .i64 bs, .int .i64 1, .slice A s c, .int .i64 bs] 95 (0, 0)) := (hg.block lb (heap_lt hc) (fun he => by have := hv lb he.symm; omega)).trans hc
  have hgf : w.heap.size ≤ g := by
    rcases hat with h | h
    · exact hv g h
    · have := hb.size; omega
  have hne : g ≠ lb := by omega
  have ho : Own encR 10 51 0 w2 (.slice (some ⟨g, 0, none⟩) (L.length + 1) cap) (L ++ [r]) := Own.of_rows hown (by simp) (by rw [flat_append, flat_single])
  refine ⟨hc2, some g, ⟨⟨dp, some ⟨g, 0, none⟩, L.length + 1, cap, rfl, ?_, ho.kp (Kp.setCell w2 _ _) (fun q hq he => ?_)⟩, fun he => hne (by injection he)⟩, ?_, .inr ⟨g, rfl, hgf⟩⟩
  · rw [set_one hc2 5 _]; rfl
  · injection hq with hq; exact hne (hq.trans he)
  · exact (((Kp.of_below hb (fun q => q = lb ∨ some q = row)).trans (Kp.of_grown hg) (fun q hq => .inr (hv q hq.symm)))).trans (Kp.setCell w2 ⟨lb, 5, none⟩ _) (fun q hq => .inl (.inl hq))

set_option maxRecDepth 4000 in
set_option maxHeartbeats 2000000 in
theorem refNew_any (w : World) (dp : Option Addr) (bs : Int) :
    Calls Tryd.prog 20 #[.pointer dp, .int .i64 1, .int .i64 29, .int .i64 bs, .int .i64 1] w fun e w' => e = .returned (.pointer (some ⟨w.heap.size, 0, none⟩)) ∧ LogR w' w.heap.size none [] bs ∧ Below w.heap.size w w' := by
  go_enter Tryd.func20, Tryd.ntmps20
  go_wp2
  go_ret
  exact ⟨rfl, ⟨⟨dp, none, 0, 0, rfl, heap_alloc_new w _, Own.nil⟩, by simp⟩, dn_alloc (Below.refl _ _) _⟩

/-- What Append leaves. -/
def AppR (lb : Nat) (row : Option Nat) (L : List RecD) (bs : Int) (r : RecD) (w : World) (e : Ending) (w' : World) : Prop :=
  if goodR r = true then e = .returned (.tuple #[.int .i64 (bs + ((L.length : Int) + 1)), .int .i64 0]) ∧ LeftR lb row (L ++ [r]) bs w w' else e = .returned (.tuple #[.int .i64 0, .int .i64 102]) ∧ LeftR lb row L bs w w'
theorem AppR.yes {lb : Nat} {row : Option Nat} {L : List RecD} {bs : Int} {r : RecD} {w w' : World} {e : Ending} (h : goodR r = true) (h' : e = .returned (.tuple #[.int .i64 (bs + ((L.length : Int) + 1)), .int .i64 0]) ∧ LeftR lb row (L ++ [r]) bs w w') : AppR lb row L bs r w e w' := by
  unfold AppR; rw [if_pos h]; exact h'
theorem AppR.no {lb : Nat} {row : Option Nat} {L : List RecD} {bs : Int} {r : RecD} {w w' : World} {e : Ending} (h : goodR r = false) (h' : e = .returned (.tuple #[.int .i64 0, .int .i64 102]) ∧ LeftR lb row L bs w w') : AppR lb row L bs r w e w' := by
  unfold AppR; rw [if_neg (by rw [h]; simp)]; exact h'

set_option maxRecDepth 4000 in
set_option maxHeartbeats 4000000 in
theorem refAppend_any (w : World) (lb : Nat) (row : Option Nat) (L : List RecD) (bs : Int) (r : RecD) (h : LogR w lb row L bs) (hlen : L.length ≤ 172) (h0 : 0 ≤ bs) (h1 : bs ≤ 1000000) :
    Calls Tryd.prog 23 #[.pointer (some ⟨lb, 0, none⟩), aggR r] w (AppR lb row L bs r w) := by
  obtain ⟨i0, hi, hz0, hz1, hz2⟩ := info_parts infoCloR
  have HB1 : Sc (Below w.heap.size w (w.alloc (.cells (cellsR r) 51))) := ⟨dn_alloc (Below.refl _ _) _⟩
  have HX := Sc.mk h
  have HL1 := Sc.mk (h.bel HB1.out)
  have HZ1 := Sc.mk (heap_alloc_new w (.cells (cellsR r) 51))
  obtain ⟨w1, hw1⟩ : ∃ w1, w.alloc (.cells (cellsR r) 51) = w1 := ⟨_, rfl⟩
  rw [hw1] at HB1 HL1 HZ1
  obtain ⟨c0, c1, c2, c3, c4, c5, c6, c7, c8, c9⟩ := cells_recs HZ1.out
  clear h
  go_enter Tryd.func23, Tryd.ntmps23
  go_wp2_with fail
  clear hw1
  refine (goodRec_any _ r).mono ?_
  cases hgd : goodR r with
  | false =>
    have HG := Sc.mk hgd
    clear hgd
    rintro e w2 ⟨rfl, hb⟩
    have HB2 : Sc (Below w.heap.size w w2) := ⟨below_down HB1.out hb⟩
    clear hb c0 c1 c2 c3 c4 c5 c6 c7 c8 c9
    go_wp2
    go_ret2
    exact AppR.no HG.out ⟨rfl, LeftR.same HX.out HB2.out⟩
  | true =>
    have HG := Sc.mk hgd
    clear hgd
    rintro e w2 ⟨rfl, hb⟩
    have HB2 : Sc (Below w.heap.size w w2) := ⟨below_down HB1.out hb⟩
    have HL2 := Sc.mk (HL1.out.bel hb)
    have HZ2 := Sc.mk (up hb HZ1.out)
    clear hb c0 c1 c2 c3 c4 c5 c6 c7 c8 c9
    go_wp2_with fail
    refine (refRoom_any _ lb row L bs HL2.out (by omega) h0 h1).mono ?_
    rintro e w3 ⟨rfl, hb⟩
    have HB3 : Sc (Below w.heap.size w w3) := ⟨below_down HB2.out hb⟩
    have HL3 := Sc.mk (HL2.out.bel hb)
    have HZ3 := Sc.mk (up hb HZ2.out)
    clear hb
    obtain ⟨⟨dp, A, s, c, hv, hc, hown⟩, hap⟩ := HL3.out
    have HC := Sc.mk hc
    have HO := Sc.mk hown
    have hrm : ¬ (174 - (L.length : Int)) < 1 := by omega
    have hrd : decide ((174 - (L.length : Int)) < 1) = false := decide_eq_false hrm
    have HA2 : Sc (L.length + 1 ≤ maxLen) := ⟨by unfold maxLen; omega⟩
    have HA3 : Sc ((L.length + 1) * 72 ≤ 140737488355328) := ⟨by omega⟩
    have HLT : Sc (lb < w.heap.size ∧ w.heap.size ≤ w3.heap.size) := ⟨HX.out.lt, HB3.out.size⟩
    have CP : ∀ X, Below w3.heap.size w3 X → Calls Tryd.prog 47 #[.slice A s c] X fun e w' => ∃ v', e = .returned v' ∧ Own encR 10 51 w3.heap.size w' v' L ∧ Below w3.heap.size w3 w' ∧ Below X.heap.size X w' := fun X hX => (recCopy_any X 0 _ L (HO.out.below hX) (by omega)).mono fun e w' ⟨vt, he, ho, hb⟩ => ⟨vt, he, ho.mono hX.size, hX.trans (hb.mono hX.size), hb⟩
    obtain ⟨d2, d3, d5⟩ := cells_rlog hc
    obtain ⟨c0, c1, c2, c3, c4, c5, c6, c7, c8, c9⟩ := cells_recs HZ3.out
    have lz := heap_lt HZ3.out
    have lc := heap_lt hc
    clear hv hc hown hap
    go_upto_region 5 with fail
    have HQ : Sc (Below w3.heap.size w3 w3) := ⟨Below.refl _ _⟩
    have HQA : Sc (Below w3.heap.size w3 (w3.alloc (.cells (encR r).toArray 51))) := ⟨dn_alloc (Below.refl _ _) _⟩
    go_region_law (first | (go_simp; go_at_call 47; refine (CP _ (by first | exact HQ.out | exact HQ.out.drew | exact HQA.out | exact HQA.out.drew)).mono ?_; rintro e wt ⟨v', rfl, ho, hq, hb⟩; obtain ⟨A', n', k', rfl⟩ := ho.slice3; have hn' := ho.len; subst hn'; (first | (have HSRC : Sc (wt.heap[w3.heap.size]? = some (.cells (encR r).toArray 51 (0, 0))) := ⟨(hb.block w3.heap.size (by simp)).trans (heap_alloc_new w3 (.cells (encR r).toArray 51))⟩) | skip); have HVT := Sc.mk ho; have HQT := Sc.mk hq; obtain ⟨c0, c1, c2, c3, c4, c5, c6, c7, c8, c9⟩ := cells_recs ((hq.block _ lz).trans HZ3.out); clear ho hq hb) | ((refine step_append_lies _ (by rfl) (.tmp 17) (.tmp 19) 25 (by rfl) 0 51 i0 (.agg #[.int .i64 0, .int .i64 0, .int .i64 0, .int .i64 0, .int .i64 0, .int .i64 0, .bool false, .bool false, .int .i64 0, .int .i64 0]) 10 72 Tryd.underlying25 hi hz0 hz1 hz2 rfl (by decide) _ L.length (flat encR L) (by rfl) (HVT.out.mono (Nat.zero_le _)) ⟨w3.heap.size, 0, none⟩ 1 1 (encR r) (by rfl) (by rfl) (World.news_of_block HSRC.out) (kindR.one _) Nat.one_pos HA2.out HA3.out (Nat.zero_le _) wt.heap.size rfl ?_); intro ga ca wa g1 g2 g3 g4; obtain ⟨hce, hll⟩ := LogR.append (row := row) (r := r) (HB3.out.trans (HQT.out.mono HB3.out.size)) HLT.out.1 ((HQT.out.block _ lc).trans HC.out) (fun q hq => Nat.le_trans HLT.out.2 (HVT.out.lt q hq).1) rfl g1 g2 (g3.elim .inl (fun h => .inr (by rw [h]; simp))); obtain ⟨e2, e3, e5⟩ := cells_rlog hce; have f5 := unfrozen_at hce 5; have lw := heap_lt hce; have HLL := Sc.mk hll; clear g1 g2 g3 g4 hll hce) | ((refine step_append_lies _ (by rfl) (.tmp 17) (.tmp 19) 25 (by rfl) 0 51 i0 (.agg #[.int .i64 0, .int .i64 0, .int .i64 0, .int .i64 0, .int .i64 0, .int .i64 0, .bool false, .bool false, .int .i64 0, .int .i64 0]) 10 72 Tryd.underlying25 hi hz0 hz1 hz2 rfl (by decide) _ L.length (flat encR L) (by rfl) ((HVT.out.mono (Nat.zero_le _)).alloc _) ⟨wt.heap.size, 0, none⟩ 1 1 (encR r) (by rfl) (by rfl) (World.news_of_block (heap_alloc_new wt (.cells (encR r).toArray 51))) (kindR.one _) Nat.one_pos HA2.out HA3.out (Nat.zero_le _) (wt.heap.size + 1) (by simp) ?_); intro ga ca wa g1 g2 g3 g4; obtain ⟨hce, hll⟩ := LogR.append (row := row) (r := r) (dn_alloc (HB3.out.trans (HQT.out.mono HB3.out.size)) (.cells (encR r).toArray 51)) HLT.out.1 (upa ((HQT.out.block _ lc).trans HC.out) _) (fun q hq => Nat.le_trans HLT.out.2 (HVT.out.lt q hq).1) rfl g1 g2 (g3.elim .inl (fun h => .inr (by rw [h]; simp))); obtain ⟨e2, e3, e5⟩ := cells_rlog hce; have f5 := unfrozen_at hce 5; have lw := heap_lt hce; have HLL := Sc.mk hll; clear g1 g2 g3 g4 hll hce))
    all_goals
      have HCH : Sc ((L ++ [r]).length ≤ 173) := ⟨by simp; omega⟩
      have HLL2 : Sc (LeftR lb row (L ++ [r]) bs w (wa.setCell ⟨lb, 5, none⟩ (.slice (some ⟨ga, 0, none⟩) (L.length + 1) ca))) := ⟨HLL.out⟩
      clear c0 c1 c2 c3 c4 c5 c6 c7 c8 c9 d2 d3 d5 CP
      go_wp2_with fail
      refine (refLast_any _ lb HLL2.out.choose (L ++ [r]) bs HLL2.out.choose_spec.1 (by have := HCH.out; omega) h0 h1).mono ?_
      rintro e w5 ⟨rfl, hb⟩
      have HLF := Sc.mk (HLL2.out.bel hb)
      clear hb
      go_wp2
      go_ret2
      exact AppR.yes HG.out ⟨by simp, HLF.out⟩
end Go.Proofs.YtoapihepdallbaaDoor
