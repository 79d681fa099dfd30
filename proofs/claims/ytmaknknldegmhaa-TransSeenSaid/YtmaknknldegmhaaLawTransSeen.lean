/- The walk of TransSeen: a number that was seen is not given again, whoever had it, however it went. -/
import Derived.Test.YtmaknknldegmhaaTFirst
import Derived.Test.YtmaknknldegmhaaNum
namespace Go.Proofs.Ytmaknknldegmhaa
open Go.RowKit

set_option maxHeartbeats 4000000 in
theorem transSeen_walk (a0 : Option Addr) (len0 cap0 : Nat) (z0 : List Int) (w : World) (w0 : IsRow .i64 w a0 len0 cap0 z0) :
    Calls Try.prog 4 #[.slice a0 len0 cap0] w fun e w' => e = .returned (.bool true) ∧ Below w.heap.size w w' := by
  by_cases hbig : 20 < len0
  · clear w0
    go_enter Try.func4, Try.ntmps4
    go_wp2_with (go_at_call 18; refine (txnFirst0_any _).mono ?_; rintro e w1 ⟨rfl, hb⟩)
    go_ret
    exact ⟨rfl, hb⟩
  · have hle : len0 ≤ 20 := by omega
    clear hbig
    have HW := Sc.mk w0
    clear w0
    go_enter Try.func4, Try.ntmps4
    go_wp2_with (go_at_call 18; refine (txnFirst0_any _).mono ?_; rintro e w1 ⟨rfl, hb⟩; have HB1 := Sc.mk hb; clear hb)
    go_loopg [5, 6] len0 (fun kx s5 s6 wr => ∃ (i : Nat) (m : Int), s5 = .int .i64 m ∧ s6 = .int .i64 i ∧ i ≤ len0 ∧ len0 - i ≤ kx ∧ 0 ≤ m ∧ m ≤ 1000 + i ∧ Sc (StT w1 wr w1.heap.size [] m []))
    case atStart => exact ⟨0, 0, rfl, rfl, by omega, by omega, by omega, by omega, ⟨StT.new w1⟩⟩
    case round =>
      obtain ⟨i, m, rfl, rfl, hi, hg, hm0, hm1, HS⟩ := hrel
      by_cases hlt : i < len0
      · obtain ⟨b, off, rfl, hbw, hcells⟩ := HW.out.at (by omega)
        have hc := cell_down HB1.out HS.out.below (hcells i hlt)
        generalize z0.getD i 0 = z at hc
        obtain ⟨n, hn⟩ : ∃ n, z % 1000 = n := ⟨_, rfl⟩
        have hn0 : 0 ≤ n := by omega
        have hn1 : n < 1000 := by omega
        have HN := Sc.mk hn
        have hil : (i : Int) < len0 := by omega
        clear hcells hn
        rcases (show i % 3 = 0 ∨ i % 3 = 1 ∨ i % 3 = 2 by omega) with h3 | h3 | h3
        · have e0 : ((i : Int) % 3 == 0) = true := by rw [beq_iff_eq]; omega
          clear h3
          by_cases hmx : m < n + 1
          · have HM : Sc (max m (n + 1) = n + 1) := ⟨by omega⟩
            go_wp2_with (first | (go_at_call 14; refine (number_is _ 1000 n _ HN.out (by omega) (by omega)).mono ?_; rintro e w2 ⟨rfl, rfl⟩) | (go_at_call 19; refine (txnSeen_st w1 _ _ _ _ _ _ HS.out).mono ?_; rintro e w2 ⟨rfl, hs⟩; rw [HM.out] at hs; have HS2 := Sc.mk hs; clear hs) | (go_at_call 23; refine (txnMost_st w1 _ _ _ _ _ HS2.out).mono ?_; rintro e w3 ⟨rfl, rfl⟩) | (go_at_call 24; refine (txnAll_st w1 _ _ _ _ _ HS2.out (by simp)).mono ?_; rintro e w3 ⟨v, rfl, ho, hs⟩; obtain ⟨A, c, rfl, _, _⟩ := ho.slice; have HS3 := Sc.mk hs; clear hs ho))
            go_roundg (len0 - (i + 1))
            case measure => omega
            case rel => exact ⟨i + 1, _, rfl, by go_num, by omega, Nat.le_refl _, by omega, by omega, HS3⟩
          · have HM : Sc (max m (n + 1) = m) := ⟨by omega⟩
            go_wp2_with (first | (go_at_call 14; refine (number_is _ 1000 n _ HN.out (by omega) (by omega)).mono ?_; rintro e w2 ⟨rfl, rfl⟩) | (go_at_call 19; refine (txnSeen_st w1 _ _ _ _ _ _ HS.out).mono ?_; rintro e w2 ⟨rfl, hs⟩; rw [HM.out] at hs; have HS2 := Sc.mk hs; clear hs) | (go_at_call 23; refine (txnMost_st w1 _ _ _ _ _ HS2.out).mono ?_; rintro e w3 ⟨rfl, rfl⟩) | (go_at_call 24; refine (txnAll_st w1 _ _ _ _ _ HS2.out (by simp)).mono ?_; rintro e w3 ⟨v, rfl, ho, hs⟩; obtain ⟨A, c, rfl, _, _⟩ := ho.slice; have HS3 := Sc.mk hs; clear hs ho))
            go_roundg (len0 - (i + 1))
            case measure => omega
            case rel => exact ⟨i + 1, _, rfl, by go_num, by omega, Nat.le_refl _, by omega, by omega, HS3⟩
        · have e0 : ((i : Int) % 3 == 0) = false := by rw [beq_eq_false_iff_ne]; omega
          have e1 : ((i : Int) % 3 == 1) = true := by rw [beq_iff_eq]; omega
          clear h3
          by_cases hmx : m < n + 1
          · have HM : Sc (max m (n + 1) = n + 1) := ⟨by omega⟩
            go_wp2_with (first | (go_at_call 14; refine (number_is _ 1000 n _ HN.out (by omega) (by omega)).mono ?_; rintro e w2 ⟨rfl, rfl⟩) | (go_at_call 20; refine (txnAdd_st w1 _ _ _ _ _ (n + 1, 0, 0, 0) HS.out (by simp)).mono ?_; rintro e w2 ⟨rfl, hs⟩; rw [setIn_new, HM.out] at hs; have HSa := Sc.mk hs; clear hs) | (go_at_call 21; refine (txnDrop_st w1 _ _ _ _ _ _ HSa.out (by simp)).mono ?_; rintro e w2 ⟨rfl, hs⟩; rw [drop'_one] at hs; rw [has_one]; have HS2 := Sc.mk hs; clear hs) | (go_at_call 23; refine (txnMost_st w1 _ _ _ _ _ HS2.out).mono ?_; rintro e w3 ⟨rfl, rfl⟩) | (go_at_call 24; refine (txnAll_st w1 _ _ _ _ _ HS2.out (by simp)).mono ?_; rintro e w3 ⟨v, rfl, ho, hs⟩; obtain ⟨A, c, rfl, _, _⟩ := ho.slice; have HS3 := Sc.mk hs; clear hs ho))
            go_roundg (len0 - (i + 1))
            case measure => omega
            case rel => exact ⟨i + 1, _, rfl, by go_num, by omega, Nat.le_refl _, by omega, by omega, HS3⟩
          · have HM : Sc (max m (n + 1) = m) := ⟨by omega⟩
            go_wp2_with (first | (go_at_call 14; refine (number_is _ 1000 n _ HN.out (by omega) (by omega)).mono ?_; rintro e w2 ⟨rfl, rfl⟩) | (go_at_call 20; refine (txnAdd_st w1 _ _ _ _ _ (n + 1, 0, 0, 0) HS.out (by simp)).mono ?_; rintro e w2 ⟨rfl, hs⟩; rw [setIn_new, HM.out] at hs; have HSa := Sc.mk hs; clear hs) | (go_at_call 21; refine (txnDrop_st w1 _ _ _ _ _ _ HSa.out (by simp)).mono ?_; rintro e w2 ⟨rfl, hs⟩; rw [drop'_one] at hs; rw [has_one]; have HS2 := Sc.mk hs; clear hs) | (go_at_call 23; refine (txnMost_st w1 _ _ _ _ _ HS2.out).mono ?_; rintro e w3 ⟨rfl, rfl⟩) | (go_at_call 24; refine (txnAll_st w1 _ _ _ _ _ HS2.out (by simp)).mono ?_; rintro e w3 ⟨v, rfl, ho, hs⟩; obtain ⟨A, c, rfl, _, _⟩ := ho.slice; have HS3 := Sc.mk hs; clear hs ho))
            go_roundg (len0 - (i + 1))
            case measure => omega
            case rel => exact ⟨i + 1, _, rfl, by go_num, by omega, Nat.le_refl _, by omega, by omega, HS3⟩
        · have e0 : ((i : Int) % 3 == 0) = false := by rw [beq_eq_false_iff_ne]; omega
          have e1 : ((i : Int) % 3 == 1) = false := by rw [beq_eq_false_iff_ne]; omega
          have hmm : m < m + 1 := by omega
          clear h3
          go_wp2_with (first | (go_at_call 14; refine (number_is _ 1000 n _ HN.out (by omega) (by omega)).mono ?_; rintro e w2 ⟨rfl, rfl⟩) | (go_at_call 22; refine (txnBegin_st w1 _ _ _ _ _ HS.out (by simp) (by omega) (by omega)).mono ?_; rintro e w2 ⟨rfl, hs⟩; rw [setIn_new] at hs; have HSa := Sc.mk hs; clear hs) | (go_at_call 21; refine (txnDrop_st w1 _ _ _ _ _ _ HSa.out (by simp)).mono ?_; rintro e w2 ⟨rfl, hs⟩; rw [drop'_one] at hs; rw [has_one]; have HS2 := Sc.mk hs; clear hs) | (go_at_call 23; refine (txnMost_st w1 _ _ _ _ _ HS2.out).mono ?_; rintro e w3 ⟨rfl, rfl⟩) | (go_at_call 24; refine (txnAll_st w1 _ _ _ _ _ HS2.out (by simp)).mono ?_; rintro e w3 ⟨v, rfl, ho, hs⟩; obtain ⟨A, c, rfl, _, _⟩ := ho.slice; have HS3 := Sc.mk hs; clear hs ho))
          go_roundg (len0 - (i + 1))
          case measure => omega
          case rel => exact ⟨i + 1, _, rfl, by go_num, by omega, Nat.le_refl _, by omega, by omega, HS3⟩
      · obtain rfl : i = len0 := by omega
        clear hi hg hlt
        go_wp2_with (go_at_call 22; refine (txnBegin_st w1 _ _ _ _ _ HS.out (by simp) (by omega) (by omega)).mono ?_; rintro e w2 ⟨rfl, hs⟩; have HSa := Sc.mk hs; clear hs)
        go_ret
        exact ⟨rfl, below_down HB1.out HSa.out.below⟩
end Go.Proofs.Ytmaknknldegmhaa
