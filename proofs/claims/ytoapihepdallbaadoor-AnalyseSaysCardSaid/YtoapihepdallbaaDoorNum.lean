/- phoenixworld.Number: from 0 to below a bound. -/
import Derived.Test.YtoapihepdallbaaDoorBase
import Derived.Test.YtoapihepdallbaaDoorProg
namespace Go.Proofs.YtoapihepdallbaaDoor
open Go.RowKit

theorem neg_lt_tmod (a : Int) {b : Int} (hb : 0 < b) : -b < Int.tmod a b := by
  have := Int.tmod_lt_of_pos (-a) hb
  rw [Int.neg_tmod] at this
  omega
theorem tmod_emod {a b : Int} (h : ¬ Int.tmod a b < 0) : Int.tmod a b = a % b := by
  rcases Int.lt_or_le a 0 with h0 | h0
  · have h1 : Int.tmod a b ≤ 0 := by
      have := Int.tmod_nonneg (a := -a) b (by omega)
      rw [Int.neg_tmod] at this; omega
    have h2 : Int.tmod a b = 0 := by omega
    have h3 : b ∣ a := Int.dvd_of_tmod_eq_zero h2
    rw [h2, Int.emod_eq_zero_of_dvd h3]
  · exact Int.tmod_eq_emod_of_nonneg h0
theorem tmod_emod_neg {a b : Int} (hb : 0 < b) (h : Int.tmod a b < 0) : Int.tmod a b + b = a % b := by
  have h0 : a < 0 := by
    rcases Int.lt_or_le a 0 with h0 | h0
    · exact h0
    · have := Int.tmod_nonneg (a := a) b h0; omega
  have h1 : -b < Int.tmod a b := neg_lt_tmod a hb
  have h2 : (Int.tmod a b + b) % b = a % b := by
    rw [Int.add_emod_right]
    have h3 := Int.mul_tdiv_add_tmod a b
    conv => rhs; rw [← h3]
    rw [Int.add_comm, Int.add_mul_emod_self_left]
  rw [← h2]
  exact (Int.emod_eq_of_lt (by omega) (by omega)).symm

set_option maxHeartbeats 400000 in
theorem number_any (n b : Int) (w : World) (h0 : 0 < b) (h1 : b ≤ 1000000) :
    Calls Tryd.prog 7 #[.int .i64 n, .int .i64 b] w fun e w' => e = .returned (.int .i64 (n % b)) ∧ w = w' := by
  have hlo : -b < Int.tmod n b := neg_lt_tmod n h0
  have hhi : Int.tmod n b < b := Int.tmod_lt_of_pos n h0
  by_cases hneg : Int.tmod n b < 0
  · have HR : Sc (Int.tmod n b + b = n % b) := ⟨tmod_emod_neg h0 hneg⟩
    go_enter Tryd.func7, Tryd.ntmps7
    go_wp2
    go_ret
    exact ⟨by rw [← HR.out]; rfl, rfl⟩
  · have HR : Sc (Int.tmod n b = n % b) := ⟨tmod_emod hneg⟩
    go_enter Tryd.func7, Tryd.ntmps7
    go_wp2
    go_ret
    exact ⟨by rw [← HR.out]; rfl, rfl⟩
theorem number_is (n b r : Int) (w : World) (hr : n % b = r) (h0 : 0 < b) (h1 : b ≤ 1000000) :
    Calls Tryd.prog 7 #[.int .i64 n, .int .i64 b] w fun e w' => e = .returned (.int .i64 r) ∧ w = w' := by
  subst hr
  exact number_any n b w h0 h1
end Go.Proofs.YtoapihepdallbaaDoor
