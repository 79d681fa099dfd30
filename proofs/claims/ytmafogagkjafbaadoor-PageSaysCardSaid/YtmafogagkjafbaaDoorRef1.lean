/- The document's numbers in bytes: phoenixref1.Put, Get. -/
import Derived.Test.YtmafogagkjafbaaDoorRefB
import Derived.Test.YtmafogagkjafbaaDoorPageB
namespace Go.Proofs.YtmafogagkjafbaaDoor
open Go.RowKit

set_option maxHeartbeats 400000 in
theorem sized_any (w : World) (a : Int) (size : Nat) (ha : a = size) (h0 : 1 ≤ size) (h1 : size ≤ 8) :
    Calls Tryd.prog 66 #[.int .i64 a] w fun e w' => e = .returned (.int .i64 size) ∧ w' = w := by
  subst ha
  have m2 : max (size : Int) 1 = size := by omega
  have m3 : min (size : Int) 8 = size := by omega
  go_enter Tryd.func66, Tryd.ntmps66
  go_wp2
  go_ret
  exact ⟨rfl, rfl⟩
theorem dig_div (n : Int) (j : Nat) : (n / 256 ^ j) / 256 = n / 256 ^ (j + 1) := by rw [Int.ediv_ediv_of_nonneg (Int.pow_nonneg (by omega)), Int.pow_succ]

set_option maxRecDepth 4000 in
set_option maxHeartbeats 1000000 in
theorem refPut1_any (w : World) (v : Value) (l : List Int) (a s : Int) (at_ size : Nat) (n : Int) (hown : RdB w v l) (ha : a = at_) (hs : s = size) (hlen : l.length ≤ 1000000) (h0 : 1 ≤ size) (h1 : size ≤ 8) (h2 : at_ + size ≤ l.length) :
    Calls Tryd.prog 55 #[v, .int .i64 a, .int .i64 s, .int .u64 n] w (FreshB (putS l at_ size n) w) := by
  subst ha hs
  obtain ⟨N, hN⟩ : ∃ N, l.length = N := ⟨_, rfl⟩
  have HN := Sc.mk hN
  rw [hN] at hlen h2
  have HO := Sc.mk hown
  clear hown hN
  go_enter Tryd.func55, Tryd.ntmps55
  go_wp2_with (go_at_call 38; refine (bytesCopy_any _ _ l HO.out (by rw [HN.out]; exact hlen)).mono ?_; rintro e w2 ⟨v2, rfl, ho, hb⟩; obtain ⟨g, cap, rfl, hg, _, hcn, _⟩ := ho.form (by rw [HN.out]; omega); rw [HN.out] at ho hcn ⊢; have HO2 := Sc.mk ho; have HB2 := Sc.mk hb; have HG := Sc.mk hg; clear ho hb hg)
  go_loopg [3, 10] size (fun kx s3 s10 wr => ∃ (j : Nat), s10 = .int .i64 j ∧ s3 = .int .u64 (n / 256 ^ j) ∧ j ≤ size ∧ size - j ≤ kx ∧ Sc (Below w.heap.size w wr) ∧ Sc (Own encB 1 5 w.heap.size wr (.slice (some ⟨g, 0, none⟩) N cap) (putS l at_ j n)))
  case atStart => exact ⟨0, rfl, by rw [Int.pow_zero, Int.ediv_one], by omega, by omega, HB2, ⟨by rw [putS_zero]; exact HO2.out⟩⟩
  case round =>
    obtain ⟨j, rfl, rfl, hj, hg, HB, HR⟩ := hrel
    by_cases hlt : j < size
    · have hjs : (j : Int) < size := by omega
      have hg1 : -(j : Int) ≤ at_ := by omega
      have hg2 : (at_ : Int) < (N : Int) - j := by omega
      obtain ⟨x, hx⟩ : ∃ x, (putS l at_ j n)[at_ + j]? = some x := ⟨_, List.getElem?_eq_getElem (by rw [putS_length, HN.out]; omega)⟩
      have c0 := HR.out.cellB hx
      have z0 := HR.out.unfrozen (at_ + j)
      have HX := Sc.mk hx
      have HS : Sc (putS l at_ (j + 1) n = (putS l at_ j n).set (at_ + j) (dig j n)) := ⟨putS_succ l at_ j n (by rw [HN.out]; omega)⟩
      have hidx : (at_ : Int) + j < N := by omega
      clear hx
      go_wp2_with (go_at_call 66; refine (sized_any _ _ size rfl h0 h1).mono ?_; rintro e w3 ⟨rfl, rfl⟩)
      go_roundg (size - (j + 1))
      case measure => omega
      case rel => exact ⟨j + 1, by go_num, by rw [← dig_div], by omega, Nat.le_refl _, ⟨HB.out.setCell HG.out _⟩, ⟨by rw [HS.out]; exact HR.out.setB _ HX.out⟩⟩
    · obtain rfl : j = size := by omega
      go_wp2_with (go_at_call 66; refine (sized_any _ _ j rfl h0 h1).mono ?_; rintro e w3 ⟨rfl, rfl⟩)
      go_ret
      exact ⟨_, rfl, HR.out, HB.out⟩
end Go.Proofs.YtmafogagkjafbaaDoor
