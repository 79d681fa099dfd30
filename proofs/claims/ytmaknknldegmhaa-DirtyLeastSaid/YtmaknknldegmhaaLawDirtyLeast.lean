/- The walk of DirtyLeast: the least is one that is there, and none is below it; it is found again when others go. -/
import Derived.Test.YtmaknknldegmhaaDFirst
import Derived.Test.YtmaknknldegmhaaNum
namespace Go.Proofs.Ytmaknknldegmhaa
open Go.RowKit

set_option maxHeartbeats 4000000 in
theorem dirtyLeastLaw_walk (a0 : Option Addr) (len0 cap0 : Nat) (z0 : List Int) (d : Int) (w : World) (w0 : IsRow .i64 w a0 len0 cap0 z0) :
    Calls Try.prog 9 #[.slice a0 len0 cap0, .int .i64 d] w fun e w' => e = .returned (.bool true) ∧ Below w.heap.size w w' := by
  by_cases hbig : 20 < len0
  · clear w0
    go_enter Try.func9, Try.ntmps9
    go_wp2_with (go_at_call 12; refine (dirtyFirst0_any _).mono ?_; rintro e w1 ⟨rfl, hb⟩)
    go_ret
    exact ⟨rfl, hb⟩
  · have hle : len0 ≤ 20 := by omega
    clear hbig
    have HW := Sc.mk w0
    clear w0
    go_enter Try.func9, Try.ntmps9
    go_wp2_with (go_at_call 12; refine (dirtyFirst0_any _).mono ?_; rintro e w1 ⟨rfl, hb⟩; have HB1 := Sc.mk hb; clear hb)
    go_loopg [7] len0 (fun kx s7 wr => ∃ (i : Nat) (l : List (Int × Int)), s7 = .int .i64 i ∧ i ≤ len0 ∧ len0 - i ≤ kx ∧ l.length ≤ i ∧ Sc (StD w1 wr w1.heap.size l))
    case atStart => exact ⟨0, [], rfl, by omega, by omega, by simp, ⟨StD.new w1⟩⟩
    case round =>
      obtain ⟨i, l, rfl, hi, hg, hll, HS⟩ := hrel
      by_cases hlt : i < len0
      · obtain ⟨b, off, rfl, hbw, hcells⟩ := HW.out.at (by omega)
        have hc := cell_down HB1.out HS.out.below (hcells i hlt)
        generalize z0.getD i 0 = z at hc
        have hadd := add_length l ((i : Int) + 1, z % 1000 + 1)
        have HA := Sc.mk hadd
        have hil : (i : Int) < len0 := by omega
        have hz1 : 0 ≤ z % 1000 := by omega
        have hz2 : z % 1000 < 1000 := by omega
        clear hcells hadd
        go_wp2_with (first | (go_at_call 14; refine (number_any _ 1000 _ (by omega) (by omega)).mono ?_; rintro e w2 ⟨rfl, rfl⟩) | (go_at_call 13; refine (dirtyAdd_st w1 _ _ l _ _ HS.out (by omega)).mono ?_; rintro e w2 ⟨rfl, hs⟩; have HS2 := Sc.mk hs; clear hs))
        go_roundg (len0 - (i + 1))
        case measure => omega
        case rel => exact ⟨i + 1, _, by go_num, by omega, Nat.le_refl _, by have := HA.out; omega, HS2⟩
      · obtain rfl : i = len0 := by omega
        obtain ⟨wo, rfl⟩ : ∃ wo : World, wo = wr := ⟨_, rfl⟩
        have HL : Sc (l.length ≤ 20) := ⟨by omega⟩
        have HL2 : Sc ((drop' l d).length ≤ 20) := ⟨by have := drop'_length l d; omega⟩
        clear hll hg hi hlt
        go_wp2_with (first | (go_at_call 28; refine (dirtyDrop_st w1 _ _ l _ HS.out (by have := HL.out; omega)).mono ?_; rintro e w2 ⟨rfl, hs⟩; have HS2 := Sc.mk hs; clear hs) | (go_at_call 15; refine (dirtyAll_st w1 _ _ _ HS2.out (by have := HL2.out; omega)).mono ?_; rintro e w3 ⟨v1, rfl, ho1, hs3⟩; obtain ⟨A1, c1, rfl, _, _⟩ := ho1.slice; have HS3 := Sc.mk hs3; clear ho1 hs3))
        generalize drop' l d = m at HL2 HS2 HS3
        obtain ⟨n, hn⟩ : ∃ n, m.length = n := ⟨_, rfl⟩
        rw [hn] at HL2 ⊢
        have HN := Sc.mk hn
        clear hn
        have hn20 : n ≤ 20 := HL2.out
        go_loopg [8] n (fun kx s8 wx => ∃ (k : Nat) (q : List (Int × Int)), s8 = .int .i64 k ∧ k ≤ 20 ∧ k ≤ kx ∧ Sc (q.length = k) ∧ Sc (StD w1 wx w1.heap.size q))
        case atStart => exact ⟨n, m, rfl, hn20, Nat.le_refl _, HN, HS3⟩
        case round =>
          obtain ⟨k, q, rfl, hk20, hkg, HQ, HSq⟩ := hrel
          by_cases hk : 0 < k
          · obtain ⟨k, rfl⟩ : ∃ j, k = j + 1 := ⟨k - 1, by omega⟩
            obtain ⟨wp, rfl⟩ : ∃ wp : World, wp = wr := ⟨_, rfl⟩
            go_wp2_with (first | (go_at_call 15; refine (dirtyAll_st w1 _ _ _ HSq.out (by rw [HQ.out]; omega)).mono ?_; rintro e w4 ⟨v1, rfl, ho1, hs4⟩; obtain ⟨A2, c2, rfl, _, _⟩ := ho1.slice; have HO4 := Sc.mk ho1; have HS4 := Sc.mk hs4; have HT4 : Sc (∃ row, TabD w4 w1.heap.size row q) := ⟨by obtain ⟨row, ht, _⟩ := hs4.tab; exact ⟨row, ht⟩⟩; clear ho1 hs4) | (go_at_call 33; refine (dirtyLeast_any _ _ HT4.out.choose _ HT4.out.choose_spec (by rw [HQ.out]; omega)).mono ?_; rintro e w5 ⟨rfl, hb5⟩; have HB5 := Sc.mk hb5; have HS5 := Sc.mk (HS4.out.bel hb5); clear hb5))
            have hql : q.length ≤ 20 := by rw [HQ.out]; omega
            go_loop [11, 12] (fun s11 s12 => ∃ j : Nat, s12 = .int .i64 j ∧ j ≤ q.length ∧ ∃ a : Int, s11 = .int .i64 a ∧ Sc ((a = -1 ∧ ∀ t y, t < j → q[t]? = some y → y.2 ≠ least q) ∨ (∃ t : Nat, a = t ∧ ∃ y, q[t]? = some y ∧ y.2 = least q))) (fun _ s12 => q.length - (intOf s12).toNat)
            case atStart => exact ⟨0, rfl, by omega, -1, rfl, ⟨.inl ⟨rfl, fun t y ht => absurd ht (Nat.not_lt_zero _)⟩⟩⟩
            case round =>
              obtain ⟨j, rfl, hj, a, rfl, HA⟩ := hrel
              by_cases hlt : j < q.length
              · obtain ⟨x, hx⟩ : ∃ x, q[j]? = some x := ⟨_, List.getElem?_eq_getElem hlt⟩
                obtain ⟨g, cq, he, _, _, _, _⟩ := HO4.out.form (by omega)
                injection he with hA2 _ hC
                subst hA2
                have HO5 := HO4.out.below HB5.out
                obtain ⟨d0, d1⟩ := HO5.cells2 hx
                have hle2 : least q ≤ x.2 := least_place hx
                have hnl : ¬ x.2 < least q := by omega
                have HX := Sc.mk hx
                have hjl : (j : Int) < q.length := by omega
                clear hx HO5 hC
                by_cases hp : x.2 = least q
                · have hb : (x.2 == least q) = true := by simp [hp]
                  have HJ : Sc (((j : Int) = -1 ∧ ∀ t y, t < j + 1 → q[t]? = some y → y.2 ≠ least q) ∨ (∃ t : Nat, (j : Int) = t ∧ ∃ y, q[t]? = some y ∧ y.2 = least q)) := ⟨.inr ⟨j, rfl, x, HX.out, hp⟩⟩
                  clear hp hle2
                  go_wp2
                  go_round
                  case rel => exact ⟨j + 1, by go_num, by omega, _, rfl, HJ⟩
                  case measure => simp [intOf]; omega
                · have hb : (x.2 == least q) = false := by simp [hp]
                  have HJ : Sc ((a = -1 ∧ ∀ t y, t < j + 1 → q[t]? = some y → y.2 ≠ least q) ∨ (∃ t : Nat, a = t ∧ ∃ y, q[t]? = some y ∧ y.2 = least q)) := ⟨by
                    rcases HA.out with ⟨h1, h2⟩ | h
                    · refine .inl ⟨h1, fun t y ht hy => ?_⟩
                      rcases Nat.lt_succ_iff_lt_or_eq.1 ht with h | h
                      · exact h2 t y h hy
                      · subst h; have h3 := HX.out; rw [hy] at h3; injection h3 with h3; subst h3; exact hp
                    · exact .inr h⟩
                  clear hp hle2
                  go_wp2
                  go_round
                  case rel => exact ⟨j + 1, by go_num, by omega, _, rfl, HJ⟩
                  case measure => simp [intOf]; omega
              · obtain ⟨t, y, rfl, hy, hyl⟩ : ∃ (t : Nat) (y : Int × Int), a = t ∧ q[t]? = some y ∧ y.2 = least q := by
                  rcases HA.out with ⟨_, h2⟩ | ⟨t, h1, y, h2, h3⟩
                  · obtain ⟨t, y, ht, hy, he⟩ := least_at (l := q) (by rw [HQ.out]; omega)
                    exact absurd he (h2 t y (by omega) hy)
                  · exact ⟨t, y, h1, h2, h3⟩
                have htl := (List.getElem?_eq_some_iff.1 hy).1
                obtain ⟨g, cq, he, _, _, _, _⟩ := HO4.out.form (by omega)
                injection he with hA2 _ hC
                subst hA2
                have HO5 := HO4.out.below HB5.out
                obtain ⟨d0, d1⟩ := HO5.cells2 hy
                have hyh := has_place hy
                have HH := Sc.mk hyh
                have HR2 : Sc ((drop' q y.1).length = k) := ⟨by
                  obtain ⟨row, ht, _⟩ := HSq.out.tab
                  have := drop'_length_yes ht.rising hyh
                  rw [HQ.out] at this; omega⟩
                have htI : (t : Int) < q.length := by omega
                have hne : ((q.length : Int) != (k : Int) + 1) = false := by rw [HQ.out]; simp
                clear hy hyl HO5 hC hyh
                go_wp2_with (go_at_call 28; refine (dirtyDrop_st w1 _ _ q _ HS5.out (by rw [HQ.out]; omega)).mono ?_; rintro e w6 ⟨rfl, hs6⟩; rw [HH.out]; have HS6 := Sc.mk hs6; clear hs6)
                go_roundg k
                case measure => omega
                case rel => exact ⟨k, _, by go_num, by omega, Nat.le_refl _, HR2, HS6⟩
          · obtain rfl : k = 0 := by omega
            obtain rfl : q = [] := List.eq_nil_of_length_eq_zero HQ.out
            go_wp2_with (go_at_call 33; refine (dirtyLeast_st w1 _ _ [] HSq.out (by simp)).mono ?_; rintro e w5 ⟨rfl, hs5⟩; have HS5 := Sc.mk hs5; clear hs5)
            go_ret
            exact ⟨rfl, below_down HB1.out HS5.out.below⟩
end Go.Proofs.Ytmaknknldegmhaa
