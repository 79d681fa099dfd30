/- The walk of TransAll: all that are open rise, each as it was noted last; what is dropped is not there. -/
import Derived.Test.YtmaknknldegmhaaTFirst
import Derived.Test.YtmaknknldegmhaaPlainT2
import Derived.Test.YtmaknknldegmhaaNum
import Derived.Laws.StructEq
namespace Go.Proofs.Ytmaknknldegmhaa
open Go.RowKit

theorem below_drewN {B : Nat} {w W : World} (h : Below B w W) (n : Nat) : Below B w (W.drewN n) := ⟨h.os, h.tape, h.output, h.size, h.block⟩
theorem Own.len {α : Type} {enc : α → List Value} {sz : Nat} {e : TypeId} {base : Nat} {w : World} {A : Option Addr} {n c : Nat} {l : List α} (h : Own enc sz e base w (.slice A n c) l) : n = l.length := by
  obtain ⟨A', c', he, _, _⟩ := h.slice
  injection he

set_option maxHeartbeats 4000000 in
theorem transAll_walk (a0 : Option Addr) (len0 cap0 : Nat) (z0 : List Int) (d : Int) (w : World) (w0 : IsRow .i64 w a0 len0 cap0 z0) :
    Calls Try.prog 10 #[.slice a0 len0 cap0, .int .i64 d] w fun e w' => e = .returned (.bool true) ∧ Below w.heap.size w w' := by
  by_cases hbig : 30 < len0
  · clear w0
    go_enter Try.func10, Try.ntmps10
    go_wp2_with (go_at_call 18; refine (txnFirst0_any _).mono ?_; rintro e w1 ⟨rfl, hb⟩)
    go_ret
    exact ⟨rfl, hb⟩
  · have hle : len0 ≤ 30 := by omega
    clear hbig
    have HW := Sc.mk w0
    clear w0
    obtain ⟨zf, hzf⟩ : ∃ zf : Nat → Int, ∀ i, zf i = z0.getD i 0 := ⟨fun i => z0.getD i 0, fun _ => rfl⟩
    have HZ := Sc.mk hzf
    clear hzf
    go_enter Try.func10, Try.ntmps10
    go_wp2_with (go_at_call 18; refine (txnFirst0_any _).mono ?_; rintro e w1 ⟨rfl, hb⟩; have HB1 := Sc.mk hb; clear hb)
    go_loopg [7] len0 (fun kx s7 wr => ∃ (i : Nat), s7 = .int .i64 i ∧ i ≤ len0 ∧ len0 - i ≤ kx ∧ Sc (StT w1 wr w1.heap.size (rowsT zf i) i []))
    case atStart => exact ⟨0, rfl, by omega, by omega, ⟨StT.new w1⟩⟩
    case round =>
      obtain ⟨i, rfl, hi, hg, HS⟩ := hrel
      by_cases hlt : i < len0
      · obtain ⟨b, off, rfl, hbw, hcells⟩ := HW.out.at (by omega)
        have hc := hcells i hlt
        rw [← HZ.out i] at hc
        have HC := Sc.mk hc
        have H1 : Sc (setIn (rowsT zf i) ((i : Int) + 1, 0, 0, 0) = rowsT zf i ++ [((i : Int) + 1, 0, 0, 0)]) := ⟨setIn_end (rowsT_lt zf i)⟩
        have H2 : Sc (upd (rowsT zf i ++ [((i : Int) + 1, 0, 0, 0)]) ((i : Int) + 1) (fun y => (y.1, zf i, (i : Int))) = rowsT zf (i + 1)) := ⟨by rw [upd_end _ (rowsT_lt zf i), rowsT_succ]⟩
        have H3 : Sc (has (rowsT zf i ++ [((i : Int) + 1, 0, 0, 0)]) ((i : Int) + 1) = true) := ⟨by rw [← H1.out]; exact has_setIn _ _⟩
        have HL : Sc ((rowsT zf i).length = i) := ⟨rowsT_length zf i⟩
        have HL2 : Sc ((rowsT zf i ++ [((i : Int) + 1, 0, 0, 0)]).length = i + 1) := ⟨by rw [List.length_append, HL.out]; rfl⟩
        have hil : (i : Int) < len0 := by omega
        clear hcells hc
        go_wp2_with (first | (go_at_call 22; refine (txnBegin_st w1 _ _ _ _ _ HS.out (by rw [HL.out]; omega) (by omega) (by omega)).mono ?_; rintro e w2 ⟨rfl, hs⟩; rw [H1.out] at hs; have hc2 := cell_down HB1.out hs.below HC.out; have HS2 := Sc.mk hs; clear hs) | (go_at_call 25; refine (txnNote_st w1 _ _ _ _ _ _ _ _ HS2.out (by rw [HL2.out]; omega)).mono ?_; rintro e w3 ⟨rfl, hs⟩; rw [H2.out] at hs; rw [H3.out]; have HS3 := Sc.mk hs; clear hs))
        go_roundg (len0 - (i + 1))
        case measure => omega
        case rel => exact ⟨i + 1, by go_num, by omega, Nat.le_refl _, HS3⟩
      · obtain rfl : i = len0 := by omega
        obtain ⟨wo, rfl⟩ : ∃ wo : World, wo = wr := ⟨_, rfl⟩
        obtain ⟨k, hk⟩ : ∃ k : Nat, d % ((i : Int) + 1) = k := ⟨(d % ((i : Int) + 1)).toNat, by have : 0 ≤ d % ((i : Int) + 1) := Int.emod_nonneg _ (by omega); omega⟩
        have hki : k ≤ i := by have : d % ((i : Int) + 1) < (i : Int) + 1 := Int.emod_lt_of_pos _ (by omega); omega
        have HK := Sc.mk hk
        have HL : Sc ((rowsT zf i).length = i) := ⟨rowsT_length zf i⟩
        have HH : Sc (has (rowsT zf i) ((k : Int) + 1) = decide (k < i)) := ⟨rowsT_has zf i k⟩
        have HN : Sc (has (drop' (rowsT zf i) ((k : Int) + 1)) ((k : Int) + 1) = false) := ⟨rowsT_none zf i k⟩
        have HD : Sc ((drop' (rowsT zf i) ((k : Int) + 1)).length = if k < i then i - 1 else i) := ⟨rowsT_left zf⟩
        have HD2 : Sc ((drop' (rowsT zf i) ((k : Int) + 1)).length ≤ 1000000) := ⟨by rw [HD.out]; split <;> omega⟩
        have HU1 : Sc (upd (drop' (rowsT zf i) ((k : Int) + 1)) ((k : Int) + 1) (fun y => (y.1, 1, 1)) = drop' (rowsT zf i) ((k : Int) + 1)) := ⟨upd_no _ HN.out⟩
        have HU2 : Sc (upd (drop' (rowsT zf i) ((k : Int) + 1)) ((k : Int) + 1) (fun y => (2, y.2.1, y.2.2)) = drop' (rowsT zf i) ((k : Int) + 1)) := ⟨upd_no _ HN.out⟩
        have hdec : (decide (k < i) != decide ((k : Int) + 1 ≤ (i : Int))) = false := by
          by_cases h : k < i
          · rw [decide_eq_true h, decide_eq_true (by omega)]; rfl
          · rw [decide_eq_false h, decide_eq_false (by omega)]; rfl
        have HDEC := Sc.mk hdec
        clear hk hdec hi hg hlt
        go_wp2_with (first | (go_at_call 14; refine (number_is d _ k _ HK.out (by omega) (by omega)).mono ?_; rintro e w2 ⟨rfl, rfl⟩) | (go_at_call 21; refine (txnDrop_st w1 _ _ _ _ _ _ HS.out (by rw [HL.out]; omega)).mono ?_; rintro e w3 ⟨rfl, hs⟩; rw [HH.out]; have hdec := HDEC.out; have HS3 := Sc.mk hs; clear hs) | (go_at_call 25; refine (txnNote_st w1 _ _ _ _ _ _ _ _ HS3.out HD2.out).mono ?_; rintro e w4 ⟨rfl, hs⟩; rw [HU1.out] at hs; rw [HN.out]; have HS4 := Sc.mk hs; clear hs) | (go_at_call 27; refine (txnState_st w1 _ _ _ _ _ _ _ HS4.out HD2.out).mono ?_; rintro e w5 ⟨rfl, hs⟩; rw [HU2.out] at hs; rw [HN.out]; have HS5 := Sc.mk hs; clear hs) | (go_at_call 24; refine (txnAll_st w1 _ _ _ _ _ HS5.out HD2.out).mono ?_; rintro e w6 ⟨v, rfl, ho, hs⟩; obtain ⟨A, n, c, rfl⟩ := ho.slice3; have HL6 := Sc.mk ho.len; have HO6 := Sc.mk ho; have HS6 := Sc.mk hs; clear hs ho))
        have HNn : Sc (n = if k < i then i - 1 else i) := ⟨HL6.out.trans HD.out⟩
        have hst : Try.prog.stoodInHeld 41 = false := by kernel_rfl
        go_loopg [11, 12] i (fun kx s11 s12 wx => ∃ (j a : Nat), s11 = .int .i64 a ∧ s12 = .int .i64 ((j : Int) + 1) ∧ j ≤ i ∧ i - j ≤ kx ∧ Sc (a = if j ≤ k then j else j - 1) ∧ Sc (Below w6.heap.size w6 wx))
        case atStart => exact ⟨0, 0, rfl, rfl, by omega, by omega, ⟨by simp⟩, ⟨Below.refl _ _⟩⟩
        case round =>
          obtain ⟨j, a, rfl, rfl, hj, hg, HA, HBx⟩ := hrel
          by_cases hlt : j < i
          · have hjl : (j : Int) + 1 ≤ i := by omega
            by_cases hjk : j = k
            · have hb : (j : Int) + 1 = (k : Int) + 1 := by omega
              have HA2 : Sc (a = if j + 1 ≤ k then j + 1 else j + 1 - 1) := ⟨by have := HA.out; rw [if_pos (by omega)] at this; rw [if_neg (by omega)]; omega⟩
              have hbb : ((j : Int) + 1 == (k : Int) + 1) = true := by rw [beq_iff_eq]; exact hb
              clear hjk hb
              go_wp2
              go_roundg (i - (j + 1))
              case measure => omega
              case rel => exact ⟨j + 1, a, rfl, by go_num, by omega, Nat.le_refl _, HA2, HBx⟩
            · have hbb : ((j : Int) + 1 == (k : Int) + 1) = false := by rw [beq_eq_false_iff_ne]; omega
              obtain ⟨b, off, rfl, hbw, hcells⟩ := HW.out.at (by omega)
              have hc := cell_down HB1.out (HS6.out.bel HBx.out).below (hcells j hlt)
              rw [← HZ.out j] at hc
              have hq : (drop' (rowsT zf i) ((k : Int) + 1))[a]? = some ((j : Int) + 1, 0, zf j, (j : Int)) := by
                have h1 := HA.out
                rcases Nat.lt_or_ge j k with h | h
                · rw [if_pos (by omega)] at h1; rw [h1]; exact rowsT_low zf hlt h
                · rw [if_neg (by omega)] at h1; rw [h1]; exact rowsT_high zf hlt (by omega)
              have han : a < n := by rw [HL6.out]; exact (List.getElem?_eq_some_iff.1 hq).1
              have HA2 : Sc (a + 1 = if j + 1 ≤ k then j + 1 else j + 1 - 1) := ⟨by
                have h1 := HA.out
                rcases Nat.lt_or_ge j k with h | h
                · rw [if_pos (by omega)] at h1; rw [if_pos (by omega)]; omega
                · rw [if_neg (by omega)] at h1; rw [if_neg (by omega)]; omega⟩
              obtain ⟨g, cq, he, _, _, _, _⟩ := HO6.out.form (by rw [← HL6.out]; omega)
              injection he with hAg hn2 hC
              subst hAg
              obtain ⟨d0, d1, d2, d3⟩ := (HO6.out.below HBx.out).cells4 hq
              have hge : decide (n ≤ a) = false := decide_eq_false (by omega)
              have hanI : (a : Int) < n := by omega
              have hjI : (j : Int) < i := by omega
              have hn30 : n ≤ 30 := by rw [HNn.out]; split <;> omega
              clear hcells hq hjk hn2 hC
              go_wp2
              have hs1 : IntKind.i64.wrap ((j : Int) + 1 - 1) = (j : Int) := by rw [IntKind.wrap_i64]; omega
              have hs2 : (0 : Int) ≤ (j : Int) := by omega
              go_quiet (fail)
              go_wp2
              go_roundg (i - (j + 1))
              case measure => omega
              case rel => exact ⟨j + 1, a + 1, by go_num, by go_num, by omega, Nat.le_refl _, HA2, ⟨below_drewN HBx.out _⟩⟩
          · obtain rfl : j = i := by omega
            have hjl : ¬ (j : Int) + 1 ≤ j := by omega
            have hat : a = n := by
              have h1 := HA.out
              rw [HNn.out, h1]
              by_cases h : k < j
              · rw [if_pos h, if_neg (by omega)]
              · rw [if_neg h, if_pos (by omega)]
            subst hat
            go_wp2_with (go_at_call 23; refine (txnMost_st w1 _ _ _ _ _ (HS6.out.bel HBx.out)).mono ?_; rintro e w7 ⟨rfl, rfl⟩)
            go_ret
            exact ⟨rfl, below_down HB1.out (HS6.out.bel HBx.out).below⟩
end Go.Proofs.Ytmaknknldegmhaa
