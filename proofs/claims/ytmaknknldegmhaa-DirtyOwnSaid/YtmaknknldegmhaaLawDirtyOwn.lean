/- The walk of DirtyOwn: what is told of all is its own. -/
import Derived.Test.YtmaknknldegmhaaDFirst
import Derived.Test.YtmaknknldegmhaaRefD
import Derived.Test.YtmaknknldegmhaaNum
namespace Go.Proofs.Ytmaknknldegmhaa
open Go.RowKit

set_option maxHeartbeats 2000000 in
theorem dirtyOwn_walk (a0 : Option Addr) (len0 cap0 : Nat) (z0 : List Int) (w : World) (w0 : IsRow .i64 w a0 len0 cap0 z0) :
    Calls Try.prog 3 #[.slice a0 len0 cap0] w fun e w' => e = .returned (.bool true) ∧ Below w.heap.size w w' := by
  by_cases hbig : 20 < len0
  · clear w0
    go_enter Try.func3, Try.ntmps3
    go_wp2_with (go_at_call 12; refine (dirtyFirst0_any _).mono ?_; rintro e w1 ⟨rfl, hb⟩)
    go_ret
    exact ⟨rfl, hb⟩
  · have hle : len0 ≤ 20 := by omega
    clear hbig
    have HW := Sc.mk w0
    clear w0
    go_enter Try.func3, Try.ntmps3
    go_wp2_with (go_at_call 12; refine (dirtyFirst0_any _).mono ?_; rintro e w1 ⟨rfl, hb⟩; have HB1 := Sc.mk hb; clear hb)
    go_loopg [5] len0 (fun kx s5 wr => ∃ (i : Nat) (l : List (Int × Int)), s5 = .int .i64 i ∧ i ≤ len0 ∧ len0 - i ≤ kx ∧ l.length ≤ i ∧ Sc (StD w1 wr w1.heap.size l))
    case atStart => exact ⟨0, [], rfl, by omega, by omega, by simp, ⟨StD.new w1⟩⟩
    case round =>
      obtain ⟨i, l, rfl, hi, hg, hll, HS⟩ := hrel
      by_cases hlt : i < len0
      · obtain ⟨b, off, rfl, hbw, hcells⟩ := HW.out.at (by omega)
        have hc := cell_down HB1.out HS.out.below (hcells i hlt)
        generalize z0.getD i 0 = z at hc
        have hadd := add_length l (z % 12, (i : Int) + 1)
        have HA := Sc.mk hadd
        have hil : (i : Int) < len0 := by omega
        clear hcells hadd
        go_wp2_with (first | (go_at_call 14; refine (number_any _ 12 _ (by omega) (by omega)).mono ?_; rintro e w2 ⟨rfl, rfl⟩) | (go_at_call 13; refine (dirtyAdd_st w1 _ _ l _ _ HS.out (by omega)).mono ?_; rintro e w2 ⟨rfl, hs⟩; have HS2 := Sc.mk hs; clear hs))
        go_roundg (len0 - (i + 1))
        case measure => omega
        case rel => exact ⟨i + 1, _, by go_num, by omega, Nat.le_refl _, by have := HA.out; omega, HS2⟩
      · have HL : Sc (l.length ≤ 20) := ⟨by omega⟩
        obtain rfl : i = len0 := by omega
        obtain ⟨wo, rfl⟩ : ∃ wo : World, wo = wr := ⟨_, rfl⟩
        obtain ⟨row, ht, hr⟩ := HS.out.tab
        have HT := Sc.mk ht
        have HRL : Sc ((∀ q, row = some q → q < wo.heap.size) ∧ w1.heap.size < wo.heap.size) := ⟨by
          obtain ⟨⟨v, hv, hc, hown⟩, _, _⟩ := ht
          exact ⟨fun q hq => (hown.lt q (by rw [hv]; exact hq)).2, heap_lt hc⟩⟩
        clear hll hg hi hlt ht hr
        go_wp2_with (first | (go_at_call 15; refine (dirtyAll_any _ _ row l HT.out (by have := HL.out; omega)).mono ?_; rintro e w2 ⟨v1, rfl, ho1, hb2⟩; obtain ⟨A1, c1, rfl, _, _⟩ := ho1.slice; have HO1 := Sc.mk ho1; have HG0 : Sc (∀ q, (Value.slice A1 l.length c1).ownBlock = some q → q < w2.heap.size) := ⟨fun q hq => (ho1.lt q hq).2⟩; have HB2 := Sc.mk hb2; clear ho1 hb2) | (go_at_call 16; refine (dirtyCopy_any _ _ _ l HO1.out (by have := HL.out; omega)).mono ?_; rintro e w3 ⟨v2, rfl, ho2, hb3⟩; obtain ⟨A2, c2, rfl, _, _⟩ := ho2.slice; have HO2 := Sc.mk ho2; have HB3 := Sc.mk hb3; clear ho2 hb3))
        obtain ⟨n, hn⟩ : ∃ n, l.length = n := ⟨_, rfl⟩
        rw [hn] at HL HO1 HO2 HG0 ⊢
        have HN := Sc.mk hn
        clear hn
        have hn20 : n ≤ 20 := HL.out
        go_loopg [8] n (fun kx s8 wx => ∃ (j : Nat) (la : List (Int × Int)), s8 = .int .i64 j ∧ j ≤ n ∧ n - j ≤ kx ∧ Sc (la.length = n) ∧ Sc (Own enc2 2 32 wo.heap.size wx (.slice A1 n c1) la) ∧
          Sc (TabD wx w1.heap.size row l) ∧ Sc (Own enc2 2 32 w2.heap.size wx (.slice A2 n c2) l) ∧ Sc (Below w1.heap.size w1 wx))
        case atStart => exact ⟨0, l, rfl, by omega, by omega, HN, ⟨HO1.out.below HB3.out⟩, ⟨(HT.out.bel HB2.out).bel HB3.out⟩, HO2, ⟨(HS.out.below.trans (HB2.out.mono HS.out.below.size)).trans (HB3.out.mono (Nat.le_trans HS.out.below.size HB2.out.size))⟩⟩
        case round =>
          obtain ⟨j, la, rfl, hj, hg, HLA, HOa, HTa, HOb, HBa⟩ := hrel
          by_cases hlt : j < n
          · obtain ⟨x, hx⟩ : ∃ x, la[j]? = some x := ⟨_, List.getElem?_eq_getElem (by rw [HLA.out]; exact hlt)⟩
            obtain ⟨g1, cq, he, hg1, _, _, _⟩ := HOa.out.form (by rw [HLA.out]; omega)
            injection he with hA _ hC
            subst hA
            obtain ⟨d0, d1⟩ := HOa.out.cells2 hx
            have z0 := HOa.out.unfrozen (j * 2)
            have z1 := HOa.out.unfrozen (j * 2 + 1)
            have HX := Sc.mk hx
            have hG := Sc.mk hg1
            have HG1 : Sc (g1 < w2.heap.size) := ⟨HG0.out g1 rfl⟩
            have hjl : (j : Int) < n := by omega
            clear hx hC hg1
            go_wp2
            go_roundg (n - (j + 1))
            case measure => omega
            case rel =>
              have hg1 : wo.heap.size ≤ g1 := hG.out
              have hk1 := Kp.setCell wr ⟨g1, j * 2, none⟩ (.int .i64 99)
              have hk2 := hk1.trans (Kp.setCell (wr.setCell ⟨g1, j * 2, none⟩ (.int .i64 99)) ⟨g1, j * 2 + 1, none⟩ (.int .i64 (-7))) (fun q hq => .inl hq)
              have hlt1 : g1 < w2.heap.size := HG1.out
              refine ⟨j + 1, (la.set j (99, x.2)).set j (99, -7), by go_num, by omega, Nat.le_refl _, ⟨by rw [List.length_set, List.length_set]; exact HLA.out⟩, ⟨?_⟩, ⟨HTa.out.kp hk2 ?_ ?_⟩, ⟨HOb.out.kp hk2 ?_⟩, ⟨(HBa.out.setCell ?_ _).setCell ?_ _⟩⟩
              · have h1 := Own.set kind2 HOa.out (k := j) (j := 0) (x := x) (x' := (99, x.2)) (u := .int .i64 99) HX.out (by omega) rfl
                exact Own.set kind2 h1 (k := j) (j := 1) (x := (99, x.2)) (x' := (99, -7)) (u := .int .i64 (-7)) (by rw [List.getElem?_set_self (by rw [HLA.out]; exact hlt)]) (by omega) rfl
              · show ¬ w1.heap.size = g1
                have := HRL.out.2; omega
              · intro q hq
                show ¬ q = g1
                have := HRL.out.1 q hq; omega
              · intro q hq
                show ¬ q = g1
                have := (HOb.out.lt q hq).1; omega
              · show w1.heap.size ≤ g1
                have := HRL.out.2; omega
              · show w1.heap.size ≤ g1
                have := HRL.out.2; omega
          · go_wp2_with (first | (go_at_call 15; refine (dirtyAll_any _ _ row l HTa.out (by rw [HN.out]; omega)).mono ?_; rintro e w4 ⟨v3, rfl, ho3, hb4⟩; have HO3 := Sc.mk ho3; have HB4 := Sc.mk hb4; clear ho3 hb4) | (go_at_call 17; refine (dirtySame_refl _ _ _ _ _ l HO3.out (HOb.out.below HB4.out) (by rw [HN.out]; omega)).mono ?_; rintro e w5 ⟨rfl, hb5⟩; have HB5 := Sc.mk hb5; clear hb5))
            go_ret
            exact ⟨rfl, below_down HB1.out ((HBa.out.trans (HB4.out.mono HBa.out.size)).trans (HB5.out.mono (Nat.le_trans HBa.out.size HB4.out.size)))⟩
end Go.Proofs.Ytmaknknldegmhaa
