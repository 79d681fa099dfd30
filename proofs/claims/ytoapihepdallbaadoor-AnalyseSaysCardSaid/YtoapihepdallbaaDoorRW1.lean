/- The document's log: Rec. -/
import Derived.Test.YtoapihepdallbaaDoorRW0
namespace Go.Proofs.YtoapihepdallbaaDoor
open Go.RowKit

set_option maxRecDepth 4000 in
set_option maxHeartbeats 2000000 in
theorem refRec_any (w : World) (lb : Nat) (row : Option Nat) (L : List RecD) (bs lsn : Int) (h : LogR w lb row L bs) (hlen : L.length ≤ 1000000) (h0 : 0 ≤ bs) (h1 : bs ≤ 1000000) :
    Calls Tryd.prog 34 #[.pointer (some ⟨lb, 0, none⟩), .int .i64 lsn] w fun e w' => e = .returned (.tuple #[aggR ((recAt L bs lsn).getD zeroR), .bool (recAt L bs lsn).isSome]) ∧ Below w.heap.size w w' := by
  have HB1 : Sc (Below w.heap.size w (w.alloc (.cells (cellsR zeroR) 51))) := ⟨dn_alloc (Below.refl _ _) _⟩
  have HL1 := Sc.mk (h.bel HB1.out)
  have HZ1 := Sc.mk (heap_alloc_new w (.cells (cellsR zeroR) 51))
  obtain ⟨w1, hw1⟩ : ∃ w1, w.alloc (.cells (cellsR zeroR) 51) = w1 := ⟨_, rfl⟩
  rw [hw1] at HB1 HL1 HZ1
  obtain ⟨⟨dp, A, s, c, hv, hc, hown⟩, hap⟩ := HL1.out
  have HC := Sc.mk hc
  have HO := Sc.mk hown
  obtain ⟨c2, c3, c5⟩ := cells_rlog hc
  have hs := hown.len
  have ha : w.heap.size ≤ w.heap.size := Nat.le_refl _
  have lc := heap_lt hc
  clear hv hc hown hap h
  by_cases hlo : lsn ≤ bs
  · have hd : decide (lsn ≤ bs) = true := decide_eq_true hlo
    have HR : Sc (recAt L bs lsn = none) := ⟨recAt_out (.inl hlo)⟩
    rw [HR.out]
    obtain ⟨q0, q1, q2, q3, q4, q5, q6, q7, q8, q9⟩ := cells_recs HZ1.out
    obtain ⟨z0, z1, z2, z3, z4, z5, z6, z7, z8, z9⟩ := cells_zeroR HZ1.out
    have lz := heap_lt HZ1.out
    clear hlo
    go_enter Tryd.func34, Tryd.ntmps34
    go_wp2
    refine bodyPost_ret (v := .tuple #[aggR zeroR, .bool false]) (by simp [results, Tryd.results34, go_sem, q0, q1, q2, q3, q4, q5, q6, q7, q8, q9]) rfl ⟨rfl, ?_⟩
    exact below_st10 HB1.out ha
  · have hd : decide (lsn ≤ bs) = false := decide_eq_false hlo
    by_cases hhi : bs + (L.length : Int) < lsn
    · have HR : Sc (recAt L bs lsn = none) := ⟨recAt_out (.inr hhi)⟩
      rw [HR.out]
      clear hlo
      go_enter Tryd.func34, Tryd.ntmps34
      go_wp2_with fail
      clear hw1
      refine (refLast_any _ lb row L bs HL1.out hlen h0 h1).mono ?_
      rintro e w2 ⟨rfl, hb⟩
      have HB2 : Sc (Below w.heap.size w w2) := ⟨below_down HB1.out hb⟩
      have hz := up hb HZ1.out
      obtain ⟨q0, q1, q2, q3, q4, q5, q6, q7, q8, q9⟩ := cells_recs hz
      obtain ⟨z0, z1, z2, z3, z4, z5, z6, z7, z8, z9⟩ := cells_zeroR hz
      have lz := heap_lt hz
      clear hb hz
      go_wp2
      refine bodyPost_ret (v := .tuple #[aggR zeroR, .bool false]) (by simp [results, Tryd.results34, go_sem, q0, q1, q2, q3, q4, q5, q6, q7, q8, q9]) rfl ⟨rfl, ?_⟩
      exact below_st10 HB2.out ha
    · obtain ⟨i, hi⟩ : ∃ i : Nat, lsn = bs + 1 + i := ⟨(lsn - bs - 1).toNat, by omega⟩
      have hil : i < L.length := by omega
      obtain ⟨r, hr⟩ : ∃ r, L[i]? = some r := ⟨_, List.getElem?_eq_getElem hil⟩
      have HR : Sc (recAt L bs lsn = some r) := ⟨by rw [recAt_in hi hil, hr]⟩
      rw [HR.out]
      have hd2 : ¬ bs + (L.length : Int) < lsn := hhi
      have hw1' : IntKind.i64.wrap (lsn - bs) = lsn - bs := IntWalk.i64_in _ ⟨by omega, by omega⟩
      have hw2' : IntKind.i64.wrap (lsn - bs - 1) = (i : Int) := by rw [IntWalk.i64_in _ ⟨by omega, by omega⟩]; omega
      have his : (i : Int) < s := by omega
      obtain ⟨g, cq, he, _, _, _, _⟩ := HO.out.form (by omega)
      injection he with hA hK hCC
      subst hA
      have HRR := Sc.mk hr
      clear hlo hhi hi hr hK hCC hs
      go_enter Tryd.func34, Tryd.ntmps34
      go_wp2_with fail
      clear hw1
      refine (refLast_any _ lb row L bs HL1.out hlen h0 h1).mono ?_
      rintro e w2 ⟨rfl, hb⟩
      have HB2 : Sc (Below w.heap.size w w2) := ⟨below_down HB1.out hb⟩
      have hz := up hb HZ1.out
      obtain ⟨q0, q1, q2, q3, q4, q5, q6, q7, q8, q9⟩ := cells_recs hz
      obtain ⟨z0, z1, z2, z3, z4, z5, z6, z7, z8, z9⟩ := cells_zeroR hz
      have lz := heap_lt hz
      obtain ⟨e0, e1, e2, e3, e4, e5, e6, e7, e8, e9⟩ := (HO.out.below hb).cellsR HRR.out
      obtain ⟨d2, d3, d5⟩ := cells_rlog (up hb HC.out)
      clear hb hz c2 c3 c5
      go_wp2_with fail
      go_region
      all_goals
        go_wp2
        refine bodyPost_ret (v := .tuple #[aggR r, .bool true]) (by simp [results, Tryd.results34, go_sem, q0, q1, q2, q3, q4, q5, q6, q7, q8, q9]) rfl ⟨rfl, ?_⟩
        first | exact below_drewQ (below_st10 HB2.out ha) 1 | exact below_st10 HB2.out ha | exact (below_st10 HB2.out ha).drew | exact below_st10 HB2.out.drew ha
end Go.Proofs.YtoapihepdallbaaDoor
