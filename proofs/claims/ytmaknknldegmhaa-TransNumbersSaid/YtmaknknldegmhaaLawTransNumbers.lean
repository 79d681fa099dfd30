/- The walk of TransNumbers: each that begins has a number that none had; the last number has its turn, and then none begins. -/
import Derived.Test.YtmaknknldegmhaaTFirst
import Derived.Test.YtmaknknldegmhaaPlainT2
import Derived.Test.YtmaknknldegmhaaNum
namespace Go.Proofs.Ytmaknknldegmhaa
open Go.RowKit

theorem got_setIn {l : List TX} (hr : Rising l) (x : TX) : got (setIn l x) x.1 = x := by
  unfold got
  rw [if_pos (has_setIn l x), at_setIn hr x]
  rfl
theorem StT.rising {w0 w : World} {tb : Nat} {l : List TX} {m : Int} {X : List (Nat × Obj)} (h : StT w0 w tb l m X) : Rising l := by
  obtain ⟨row, ht, _⟩ := h.tab
  exact ht.rising

set_option maxHeartbeats 4000000 in
theorem transNumbers_walk (n : Int) (d : Bool) (w : World) :
    Calls Try.prog 6 #[.int .i64 n, .bool d] w fun e w' => e = .returned (.bool true) ∧ Below w.heap.size w w' := by
  obtain ⟨k, hk⟩ : ∃ k : Int, n % 40 = k := ⟨_, rfl⟩
  have hk1 : 0 ≤ k := by omega
  have hk2 : k < 40 := by omega
  have HK := Sc.mk hk
  clear hk
  go_enter Try.func6, Try.ntmps6
  go_wp2_with fail
  refine (txnFirst0_any _).mono ?_
  rintro e w1 ⟨rfl, hb⟩
  have HB1 := Sc.mk hb
  clear hb
  go_wp2_with fail
  refine (number_is n 40 k _ HK.out (by omega) (by omega)).mono ?_
  rintro e w2 ⟨rfl, rfl⟩
  go_wp2_with fail
  go_loopg [7] 50 (fun kx s7 wr => ∃ (i : Nat) (l : List TX), s7 = .int .i64 ((i : Int) + 1) ∧ (i : Int) ≤ k + 1 ∧ 42 - i ≤ kx ∧ l.length ≤ i ∧ Sc (∀ x ∈ l, 1 ≤ x.1) ∧ Sc (StT w1 wr w1.heap.size l i []))
  case atStart => exact ⟨0, [], rfl, by omega, by omega, by simp, ⟨fun x hx => by cases hx⟩, ⟨StT.new w1⟩⟩
  case round =>
    obtain ⟨i, l, rfl, hi, hg, hll, HA, HS⟩ := hrel
    by_cases hlt : (i : Int) < k + 1
    · have hle : (i : Int) + 1 ≤ k + 1 := by omega
      have HL1 := Sc.mk (setIn_length l ((i : Int) + 1, 0, 0, 0))
      have HA1 : Sc (∀ x ∈ setIn l ((i : Int) + 1, 0, 0, 0), 1 ≤ x.1) := ⟨fun x hx => by
        rcases mem_setIn hx with h | h
        · subst h; show 1 ≤ (i : Int) + 1; omega
        · exact HA.out x h⟩
      have HH : Sc (has (setIn l ((i : Int) + 1, 0, 0, 0)) ((i : Int) + 1) = true) := ⟨has_setIn l ((i : Int) + 1, 0, 0, 0)⟩
      cases d with
      | true =>
        have HL2 : Sc ((drop' (setIn l ((i : Int) + 1, 0, 0, 0)) ((i : Int) + 1)).length ≤ i + 1) := ⟨by have h1 := drop'_length (setIn l ((i : Int) + 1, 0, 0, 0)) ((i : Int) + 1); have := HL1.out; omega⟩
        have HA2 : Sc (∀ x ∈ drop' (setIn l ((i : Int) + 1, 0, 0, 0)) ((i : Int) + 1), 1 ≤ x.1) := ⟨fun x hx => HA1.out x (mem_drop' hx)⟩
        go_wp2_with (first | (go_at_call 22; refine (txnBegin_st w1 _ _ _ _ _ HS.out (by omega) (by omega) (by omega)).mono ?_; rintro e w2 ⟨rfl, hs⟩; have HS2 := Sc.mk hs; clear hs) | (go_at_call 21; refine (txnDrop_st w1 _ _ _ _ _ _ HS2.out (by have := HL1.out; omega)).mono ?_; rintro e w3 ⟨rfl, hs⟩; rw [HH.out]; have HS3 := Sc.mk hs; clear hs))
        go_roundg (42 - (i + 1))
        case measure => omega
        case rel => exact ⟨i + 1, _, by go_num, by omega, Nat.le_refl _, HL2.out, HA2, ⟨by have := HS3.out; rw [show ((i + 1 : Nat) : Int) = (i : Int) + 1 by omega]; exact this⟩⟩
      | false =>
        go_wp2_with (go_at_call 22; refine (txnBegin_st w1 _ _ _ _ _ HS.out (by omega) (by omega) (by omega)).mono ?_; rintro e w2 ⟨rfl, hs⟩; have HS2 := Sc.mk hs; clear hs)
        go_roundg (42 - (i + 1))
        case measure => omega
        case rel => exact ⟨i + 1, _, by go_num, by omega, Nat.le_refl _, by have := HL1.out; omega, HA1, ⟨by have := HS2.out; rw [show ((i + 1 : Nat) : Int) = (i : Int) + 1 by omega]; exact this⟩⟩
    · have hnl : ¬ (i : Int) + 1 ≤ k + 1 := by omega
      have HM : Sc (max (i : Int) 59999 = 59999) := ⟨by omega⟩
      have HL1 := Sc.mk (setIn_length l (60000, 0, 0, 0))
      have HG : Sc (got (setIn l (60000, 0, 0, 0)) 60000 = (60000, 0, 0, 0)) := ⟨got_setIn HS.out.rising (60000, 0, 0, 0)⟩
      have HH : Sc (has (setIn l (60000, 0, 0, 0)) 60000 = true) := ⟨has_setIn l (60000, 0, 0, 0)⟩
      have HZ : Sc (has (setIn l (60000, 0, 0, 0)) 0 = false) := ⟨has_not (fun x hx => by
        rcases mem_setIn hx with h | h
        · subst h; decide
        · have := HA.out x h; omega)⟩
      go_wp2_with fail
      refine (txnSeen_st w1 _ _ _ _ _ _ HS.out).mono ?_
      rintro e w2 ⟨rfl, hs⟩
      rw [HM.out] at hs
      have HS2 := Sc.mk hs
      clear hs
      go_wp2_with fail
      refine (txnBegin_st w1 _ _ _ _ _ HS2.out (by omega) (by omega) (by omega)).mono ?_
      rintro e w3 ⟨rfl, hs⟩
      have hs : StT w1 w3 w1.heap.size (setIn l (60000, 0, 0, 0)) 60000 [] := hs
      have HS3 := Sc.mk hs
      clear hs
      go_wp2_with fail
      refine (txnBegin_st_no w1 _ _ _ _ _ HS3.out (by omega)).mono ?_
      rintro e w4 ⟨rfl, rfl⟩
      go_wp2_with fail
      refine (txnGet_st w1 _ _ _ _ _ _ HS3.out (by have := HL1.out; omega)).mono ?_
      rintro e w5 ⟨rfl, hs⟩
      rw [HG.out, HH.out]
      have HS5 := Sc.mk hs
      clear hs
      go_wp2_with (first | (go_at_call 23; refine (txnMost_st w1 _ _ _ _ _ (HS5.out.alloc _)).mono ?_; rintro e w6 ⟨rfl, rfl⟩) | (go_at_call 21; refine (txnDrop_st w1 _ _ _ _ _ _ (HS5.out.alloc _) (by have := HL1.out; omega)).mono ?_; rintro e w7 ⟨rfl, hs⟩; rw [HZ.out]; have HS7 := Sc.mk hs; clear hs))
      go_ret
      exact ⟨rfl, below_down HB1.out HS7.out.below⟩
end Go.Proofs.Ytmaknknldegmhaa
