/- The search in a row of four ints (transactions) whose first field rises: where the key stands or would, and whether it is there. -/
import Derived.Test.YtoapihepdallbaaDoorBase
import Derived.Test.YtoapihepdallbaaDoorPlain
import Derived.Test.YtoapihepdallbaaDoorCmp
namespace Go.Proofs.YtoapihepdallbaaDoor
open Go.RowKit

set_option maxHeartbeats 400000 in
theorem txnKey_any (p s a b k : Int) (w : World) :
    Calls Tryd.prog 85 #[.agg #[.int .i64 p, .int .i64 s, .int .i64 a, .int .i64 b], .int .i64 k] w fun e w' => e = .returned (.int .i64 (cmp3 p k)) ∧ Below w.heap.size w w' := by
  go_enter Tryd.func85, Tryd.ntmps85
  go_wp2_with (go_at_call 86; refine (compare_any _ _ _).mono ?_; rintro e w' ⟨rfl, rfl⟩)
  go_ret
  exact ⟨rfl, (Below.refl _ _).alloc (Nat.le_refl _) _⟩

set_option maxHeartbeats 1000000 in
theorem txnSearch_any (w : World) (base : Nat) (v : Value) (l : List (Int × Int × Int × Int)) (k : Int) (hown : Own enc4 4 56 base w v l) (hr : Rising l) (hlen : l.length ≤ 1000000) :
    Calls Tryd.prog 84 #[v, .int .i64 k, .func (.func 85) #[] #[]] w fun e w' =>
      e = .returned (.tuple #[.int .i64 (pos l k), .bool (has l k)]) ∧ Below w.heap.size w w' := by
  obtain ⟨A, cap, rfl, hnc, hcm⟩ := hown.slice
  have HR : Sc (Rising l) := ⟨hr⟩
  have HO : Sc (Own enc4 4 56 base w (.slice A l.length cap) l) := ⟨hown⟩
  clear hr hown
  go_enter Tryd.func84, Tryd.ntmps84
  go_wp2
  go_loopg [9, 10] l.length (fun kx s9 s10 wr => ∃ lo hi : Nat, s9 = .int .i64 lo ∧ s10 = .int .i64 hi ∧ lo ≤ hi ∧ hi ≤ l.length ∧ hi - lo ≤ kx ∧ Sc (Below w.heap.size w wr) ∧
    Sc ((∀ t x, t < lo → l[t]? = some x → x.1 < k) ∧ (∀ t x, hi ≤ t → l[t]? = some x → k ≤ x.1)))
  case atStart => exact ⟨0, l.length, rfl, rfl, Nat.zero_le _, Nat.le_refl _, by omega, ⟨Below.refl _ _⟩, ⟨fun t x ht => absurd ht (Nat.not_lt_zero _), fun t x ht hx => by rw [List.getElem?_eq_none ht] at hx; cases hx⟩⟩
  case round =>
    obtain ⟨lo, hi, rfl, rfl, hlh, hin, hg, HB, I⟩ := hrel
    by_cases hlt : lo < hi
    · obtain ⟨g, cq, he, hgb, hgw, _, _⟩ := HO.out.form (by omega)
      injection he with hA _ hC
      subst hA hC
      obtain ⟨x, hx⟩ : ∃ x, l[(lo + hi) / 2]? = some x := ⟨_, List.getElem?_eq_getElem (by omega)⟩
      have HO1 := HO.out.below HB.out
      obtain ⟨c0, c1, c2, c3⟩ := HO1.cells4 hx
      have HX : Sc (l[(lo + hi) / 2]? = some x) := ⟨hx⟩
      clear hx HO1
      by_cases hc : cmp3 x.1 k < 0
      · go_wp2_with (go_at_call 85; refine (txnKey_any _ _ _ _ _ _).mono ?_; rintro e w' ⟨rfl, hb⟩)
        go_roundg (hi - ((lo + hi) / 2 + 1))
        case measure => omega
        case rel =>
          refine ⟨(lo + hi) / 2 + 1, hi, by rw [show ((lo : Int) + (hi : Int)) / 2 + 1 = (((lo + hi) / 2 + 1 : Nat) : Int) by omega], rfl, by omega, hin, Nat.le_refl _, ⟨HB.out.trans (hb.mono HB.out.size)⟩, ⟨fun t y ht hy => ?_, I.out.2⟩⟩
          have h1 := HR.out.le (show t ≤ (lo + hi) / 2 by omega) hy HX.out
          have h2 := cmp3_lt.1 hc
          omega
      · go_wp2_with (go_at_call 85; refine (txnKey_any _ _ _ _ _ _).mono ?_; rintro e w' ⟨rfl, hb⟩)
        go_roundg ((lo + hi) / 2 - lo)
        case measure => omega
        case rel =>
          refine ⟨lo, (lo + hi) / 2, rfl, by rw [show ((lo : Int) + (hi : Int)) / 2 = (((lo + hi) / 2 : Nat) : Int) by omega], by omega, by omega, Nat.le_refl _, ⟨HB.out.trans (hb.mono HB.out.size)⟩, ⟨I.out.1, fun t y ht hy => ?_⟩⟩
          have h1 := HR.out.le ht HX.out hy
          have h2 : ¬ x.1 < k := fun h => by have := cmp3_lt.2 h; omega
          omega
    · obtain rfl : hi = lo := by omega
      have hp : pos l k = hi := pos_boundary k l hi hin I.out.1 I.out.2
      by_cases hn : hi < l.length
      · obtain ⟨g, cq, he, hgb, hgw, _, _⟩ := HO.out.form (by omega)
        injection he with hA _ hC
        subst hA hC
        obtain ⟨x, hx⟩ : ∃ x, l[hi]? = some x := ⟨_, List.getElem?_eq_getElem (by omega)⟩
        have HO1 := HO.out.below HB.out
        obtain ⟨c0, c1, c2, c3⟩ := HO1.cells4 hx
        have hhas : has l k = decide (x.1 = k) := has_some HR.out k (by rw [hp]; exact hx)
        have HP : Sc (pos l k = hi) := ⟨hp⟩
        have HH : Sc (has l k = decide (x.1 = k)) := ⟨hhas⟩
        clear hx HO1 hp hhas
        by_cases hc : cmp3 x.1 k = 0
        · have hb0 : (cmp3 x.1 k == 0) = true := by rw [hc]; rfl
          have hd := cmp3_eq.1 hc
          have HD : Sc (x.1 = k) := ⟨hd⟩
          clear hd hc
          go_wp2_with (go_at_call 85; refine (txnKey_any _ _ _ _ _ _).mono ?_; rintro e w' ⟨rfl, hb⟩)
          go_ret2
          exact ⟨by rw [HP.out, HH.out, decide_eq_true HD.out]; rfl, HB.out.trans (hb.mono HB.out.size)⟩
        · have hb0 : (cmp3 x.1 k == 0) = false := by simpa using hc
          have HD : Sc (¬ x.1 = k) := ⟨fun h => hc (cmp3_eq.2 h)⟩
          clear hc
          go_wp2_with (go_at_call 85; refine (txnKey_any _ _ _ _ _ _).mono ?_; rintro e w' ⟨rfl, hb⟩)
          go_ret2
          exact ⟨by rw [HP.out, HH.out, decide_eq_false HD.out]; rfl, HB.out.trans (hb.mono HB.out.size)⟩
      · have hhas : has l k = false := has_none HR.out k (by omega)
        have HP : Sc (pos l k = hi) := ⟨hp⟩
        have HH : Sc (has l k = false) := ⟨hhas⟩
        clear hp hhas
        go_wp2
        go_ret2
        exact ⟨by rw [HP.out, HH.out]; rfl, HB.out⟩
end Go.Proofs.YtoapihepdallbaaDoor
