/- The walk of DirtyFirst: what was first stays, till it is dropped; the least is no more than any; pages rise. -/
import Derived.Test.YtmaknknldegmhaaDFirst
import Derived.Test.YtmaknknldegmhaaNum
import Derived.Laws.StructEq
import Derived.Test.YtmaknknldegmhaaBelowQ
namespace Go.Proofs.Ytmaknknldegmhaa
open Go.RowKit

theorem below_drew {B : Nat} {w W : World} (h : Below B w W) (n : Nat) : Below B w (W.drewN n) := ⟨h.os, h.tape, h.output, h.size, h.block⟩
theorem StD.drew {w0 w : World} {tb : Nat} {l : List (Int × Int)} (h : StD w0 w tb l) (n : Nat) : StD w0 (w.drewN n) tb l := h.bel (below_drew (Below.refl _ _) n)
theorem Own.lenD {α : Type} {enc : α → List Value} {sz : Nat} {e : TypeId} {base : Nat} {w : World} {A : Option Addr} {n c : Nat} {l : List α} (h : Own enc sz e base w (.slice A n c) l) : n = l.length := by
  obtain ⟨A', c', he, _, _⟩ := h.slice
  injection he
theorem StD.rising {w0 w : World} {tb : Nat} {l : List (Int × Int)} (h : StD w0 w tb l) : Rising l := by
  obtain ⟨row, ht, _⟩ := h.tab
  exact ht.rising
/-- A table that a law made, and a list of the law's own beside it. -/
structure StDO (w0 w : World) (tb : Nat) (l : List (Int × Int)) (base : Nat) (v : Value) (L : List (Int × Int)) : Prop where
  tab : ∃ row, TabD w tb row l ∧ (∀ q, row = some q → w0.heap.size ≤ q) ∧ (∀ q, v.ownBlock = some q → q ≠ tb ∧ row ≠ some q)
  made : w0.heap.size ≤ tb
  below : Below w0.heap.size w0 w
  own : Own enc2 2 32 base w v L
section
variable {w0 w w' : World} {tb : Nat} {l l' L : List (Int × Int)} {base : Nat} {v : Value}
theorem StDO.st (h : StDO w0 w tb l base v L) : StD w0 w tb l := by
  obtain ⟨⟨row, ht, hr, _⟩, hm, hb, _⟩ := h
  exact ⟨⟨row, ht, hr⟩, hm, hb⟩
theorem StDO.bel (h : StDO w0 w tb l base v L) (hb : Below w.heap.size w w') : StDO w0 w' tb l base v L := by
  obtain ⟨⟨row, ht, hr, hX⟩, hm, hbb, ho⟩ := h
  exact ⟨⟨row, ht.bel hb, hr, hX⟩, hm, hbb.trans (hb.mono hbb.size), ho.below hb⟩
theorem StDO.drop (h : StDO w0 w tb l base v L) (p : Int) (hlen : l.length ≤ 1000000) :
    Calls Try.prog 28 #[.pointer (some ⟨tb, 0, none⟩), .int .i64 p] w fun e w' => e = .returned (.bool (has l p)) ∧ StDO w0 w' tb (drop' l p) base v L := by
  have hst := h.st
  obtain ⟨⟨row, ht, hr, hX⟩, hm, hbb, ho⟩ := h
  refine (dirtyDrop_any w tb row l p ht hlen).mono fun e w' ⟨he, hl⟩ => ⟨he, ?_⟩
  have hs := hst.step ht hr hl
  obtain ⟨row', ht', hk, hat⟩ := hl
  refine ⟨⟨row', ht', fun q hq => ?_, fun q hq => ⟨(hX q hq).1, ?_⟩⟩, hm, hs.below, ho.kp hk (fun q hq h2 => h2.elim (hX q hq).1 (fun h3 => (hX q hq).2 h3.symm))⟩
  · rcases hat with hat | ⟨q', hq', hle⟩
    · exact hr q (by rw [← hat]; exact hq)
    · rw [hq'] at hq; injection hq with hq; subst hq; exact Nat.le_trans hbb.size hle
  · rcases hat with hat | ⟨q', hq', hle⟩
    · rw [hat]; exact (hX q hq).2
    · rw [hq']; intro he; injection he with he; subst he; have := (ho.lt _ hq).2; omega
def AllDO (w0 w : World) (tb : Nat) (l : List (Int × Int)) (e : Ending) (w' : World) : Prop :=
  ∃ A c, e = .returned (.slice A l.length c) ∧ StDO w0 w' tb l w.heap.size (.slice A l.length c) l
def AllD2 (w : World) (n : Nat) (e : Ending) (w' : World) : Prop :=
  ∃ A c, e = .returned (.slice A n c) ∧ Below w.heap.size w w'
theorem StDO.all (h : StDO w0 w tb [] base v L) :
    Calls Try.prog 15 #[.pointer (some ⟨tb, 0, none⟩)] w (AllD2 w 0) := by
  obtain ⟨⟨row, ht, hr, _⟩, hm, hbb, _⟩ := h
  refine (dirtyAll_any w tb row [] ht (by simp)).mono fun e w' ⟨v, he, ho, hb⟩ => ?_
  obtain ⟨A, c, rfl, _, _⟩ := ho.slice
  exact ⟨A, c, he, hb⟩
theorem StD.all (h : StD w0 w tb l) (hlen : l.length ≤ 1000000) :
    Calls Try.prog 15 #[.pointer (some ⟨tb, 0, none⟩)] w (AllDO w0 w tb l) := by
  obtain ⟨⟨row, ht, hr⟩, hm, hbb⟩ := h
  refine (dirtyAll_any w tb row l ht hlen).mono fun e w' ⟨v, he, ho, hb⟩ => ?_
  obtain ⟨A, c, rfl, _, _⟩ := ho.slice
  refine ⟨A, c, he, ⟨row, ht.bel hb, hr, fun q hq => ?_⟩, hm, hbb.trans (hb.mono hbb.size), ho⟩
  have hlt := (ho.lt q hq).1
  obtain ⟨⟨u, hu, hc, hown⟩, hap, _⟩ := ht
  refine ⟨fun he => ?_, fun he => ?_⟩
  · have := heap_lt hc; omega
  · have := (hown.lt q (hu.trans he)).2; omega
end
theorem add_pos {l : List (Int × Int)} {x : Int × Int} : 0 < (add l x).length := by
  have := has_add l x
  obtain ⟨y, hy, _⟩ := has_iff.1 this
  exact List.length_pos_of_mem hy
theorem rising_at {l : List (Int × Int)} (hr : Rising l) {i : Nat} {x y : Int × Int} (hx : l[i]? = some x) (hy : l[i + 1]? = some y) : x.1 < y.1 := hr.lt (Nat.lt_succ_self i) hx hy

set_option maxRecDepth 4000 in
set_option maxHeartbeats 4000000 in
theorem dirtyFirstLaw_walk (a0 : Option Addr) (len0 cap0 : Nat) (z0 : List Int) (d : Int) (w : World) (w0 : IsRow .i64 w a0 len0 cap0 z0) :
    Calls Try.prog 8 #[.slice a0 len0 cap0, .int .i64 d] w fun e w' => e = .returned (.bool true) ∧ Below w.heap.size w w' := by
  by_cases hbig : 30 < len0
  · clear w0
    go_enter Try.func8, Try.ntmps8
    go_wp2_with (go_at_call 12; refine (dirtyFirst0_any _).mono ?_; rintro e w1 ⟨rfl, hb⟩)
    go_ret
    exact ⟨rfl, hb⟩
  · have hle : len0 ≤ 30 := by omega
    clear hbig
    have HW := Sc.mk w0
    clear w0
    have hd1 : 0 ≤ d % 1000 := by omega
    have hd2 : d % 1000 < 1000 := by omega
    go_enter Try.func8, Try.ntmps8
    go_wp2_with (first | (go_at_call 12; refine (dirtyFirst0_any _).mono ?_; rintro e w1 ⟨rfl, hb⟩; have HB1 := Sc.mk hb; clear hb) | (go_at_call 14; refine (number_any _ 1000 _ (by omega) (by omega)).mono ?_; rintro e w2 ⟨rfl, rfl⟩))
    generalize d % 1000 = f at hd1 hd2 ⊢
    go_loopg [7] len0 (fun kx s7 wr => ∃ (i : Nat) (l : List (Int × Int)), s7 = .int .i64 i ∧ i ≤ len0 ∧ len0 - i ≤ kx ∧ Sc (l.length ≤ i ∧ (0 < i → 0 < l.length) ∧ ∀ y ∈ l, 1 ≤ y.2) ∧ Sc (StD w1 wr w1.heap.size l))
    case atStart => exact ⟨0, [], rfl, by omega, by omega, ⟨by simp⟩, ⟨StD.new w1⟩⟩
    case round =>
      obtain ⟨i, l, rfl, hi, hg, HI, HS⟩ := hrel
      by_cases hlt : i < len0
      · obtain ⟨b, off, rfl, hbw, hcells⟩ := HW.out.at (by omega)
        have hc := cell_down HB1.out HS.out.below (hcells i hlt)
        generalize z0.getD i 0 = z at hc
        have hil : (i : Int) < len0 := by omega
        have hll : l.length ≤ 1000000 := by have := HI.out.1; omega
        have HLL := Sc.mk hll
        have HLA : Sc ((add l (z % 9, f + 1 + (i : Int))).length ≤ 1000000) := ⟨by have := add_length l (z % 9, f + 1 + (i : Int)); have := HI.out.1; omega⟩
        have HI2 : Sc ((add l (z % 9, f + 1 + (i : Int))).length ≤ i + 1 ∧ (0 < i + 1 → 0 < (add l (z % 9, f + 1 + (i : Int))).length) ∧ ∀ y ∈ add l (z % 9, f + 1 + (i : Int)), 1 ≤ y.2) := ⟨by
          refine ⟨?_, fun _ => add_pos, fun y hy => ?_⟩
          · have := add_length l (z % 9, f + 1 + (i : Int)); have := HI.out.1; omega
          · rcases mem_add hy with rfl | hy
            · show 1 ≤ f + 1 + (i : Int); omega
            · exact HI.out.2.2 y hy⟩
        have HH2 : Sc (has (add l (z % 9, f + 1 + (i : Int))) (z % 9) = true) := ⟨has_add l (z % 9, f + 1 + (i : Int))⟩
        have HR := Sc.mk HS.out.rising
        clear hcells hll
        cases hh : has l (z % 9) with
        | true =>
          have HH := Sc.mk hh
          have HE : Sc ((look (add l (z % 9, f + 1 + (i : Int))) (z % 9)).getD 0 = (look l (z % 9)).getD 0) := ⟨by rw [add_there hh]⟩
          clear hh
          go_wp2_with (first | (go_at_call 14; refine (number_any _ 9 _ (by omega) (by omega)).mono ?_; rintro e w2 ⟨rfl, rfl⟩) | (go_at_call 31; first | (refine (dirtyFrom_st w1 _ _ _ _ HS3.out HLA.out).mono ?_; rintro e w4 ⟨rfl, hs⟩; rw [HE.out, HH2.out]; have HS4 := Sc.mk hs; clear hs) | (refine (dirtyFrom_st w1 _ _ _ _ HS.out HLL.out).mono ?_; rintro e w2 ⟨rfl, hs⟩; rw [HH.out]; have HS2 := Sc.mk hs; clear hs)) | (go_at_call 13; refine (dirtyAdd_st w1 _ _ l _ _ HS2.out HLL.out).mono ?_; rintro e w3 ⟨rfl, hs⟩; have HS3 := Sc.mk hs; clear hs))
          go_roundg (len0 - (i + 1))
          case measure => omega
          case rel => exact ⟨i + 1, _, by go_num, by omega, Nat.le_refl _, HI2, HS4⟩
        | false =>
          have HH := Sc.mk hh
          have HE : Sc ((look (add l (z % 9, f + 1 + (i : Int))) (z % 9)).getD 0 = f + 1 + (i : Int)) := ⟨by rw [look_add_new HR.out (x := (z % 9, f + 1 + (i : Int))) hh]; rfl⟩
          clear hh
          go_wp2_with (first | (go_at_call 14; refine (number_any _ 9 _ (by omega) (by omega)).mono ?_; rintro e w2 ⟨rfl, rfl⟩) | (go_at_call 31; first | (refine (dirtyFrom_st w1 _ _ _ _ HS3.out HLA.out).mono ?_; rintro e w4 ⟨rfl, hs⟩; rw [HE.out, HH2.out]; have HS4 := Sc.mk hs; clear hs) | (refine (dirtyFrom_st w1 _ _ _ _ HS.out HLL.out).mono ?_; rintro e w2 ⟨rfl, hs⟩; rw [HH.out]; have HS2 := Sc.mk hs; clear hs)) | (go_at_call 13; refine (dirtyAdd_st w1 _ _ l _ _ HS2.out HLL.out).mono ?_; rintro e w3 ⟨rfl, hs⟩; have HS3 := Sc.mk hs; clear hs))
          go_roundg (len0 - (i + 1))
          case measure => omega
          case rel => exact ⟨i + 1, _, by go_num, by omega, Nat.le_refl _, HI2, HS4⟩
      · obtain rfl : i = len0 := by omega
        obtain ⟨wo, rfl⟩ : ∃ wo : World, wo = wr := ⟨_, rfl⟩
        obtain ⟨m, hm⟩ : ∃ m, l.length = m := ⟨_, rfl⟩
        have HM := Sc.mk hm
        have hm30 : m ≤ 30 := by have := HI.out.1; omega
        have hmi : 0 < i → 0 < m := by have := HI.out.2.1; omega
        have hmi2 : m ≤ i := by have := HI.out.1; omega
        have HMI := Sc.mk (And.intro hmi hmi2)
        have HR := Sc.mk HS.out.rising
        clear hm hg hi hlt hmi hmi2
        have HLL : Sc (l.length ≤ 1000000) := ⟨by rw [HM.out]; omega⟩
        go_wp2_with (go_at_call 15; refine (StD.all HS.out HLL.out).mono ?_; rintro e w3 ⟨A1, c1, rfl, hs3⟩; have HS3 := Sc.mk hs3; clear hs3)
        have HM2 := HM.out
        rw [HM2] at HS3 ⊢
        clear HM2
        go_loopg [14] m (fun kx s14 wr => ∃ (k : Nat), s14 = .int .i64 k ∧ k ≤ m ∧ m - k ≤ kx ∧ Sc (StDO w1 wr w1.heap.size l wo.heap.size (.slice A1 m c1) l))
        case atStart => exact ⟨0, rfl, by omega, by omega, HS3⟩
        case round =>
          obtain ⟨k, rfl, hk, hg, HSO⟩ := hrel
          have HSk := Sc.mk HSO.out.st
          have HOk := Sc.mk HSO.out.own
          by_cases hlt : k < m
          · obtain ⟨x, hx⟩ : ∃ x, l[k]? = some x := ⟨_, List.getElem?_eq_getElem (by rw [HM.out]; exact hlt)⟩
            obtain ⟨g, cq, he, _, _, _, _⟩ := HOk.out.form (by rw [HM.out]; omega)
            injection he with hA1 hn2 hC
            subst hA1
            obtain ⟨d0, d1⟩ := HOk.out.cells2 hx
            have hnl : ¬ x.2 < least l := by have := least_place hx; omega
            have hkl : (k : Int) < m := by omega
            have HX := Sc.mk hx
            clear hx hC hn2
            have q0 : ∀ X : From wr, X.world.cell? ⟨g, k * 2, none⟩ = some (.int .i64 x.1) := fun X => X.cell d0
            have q1 : ∀ X : From wr, X.world.cell? ⟨g, k * 2 + 1, none⟩ = some (.int .i64 x.2) := fun X => X.cell d1
            have HT : Sc (∃ row, TabD wr w1.heap.size row l) := ⟨by obtain ⟨row, ht, _⟩ := HSk.out.tab; exact ⟨row, ht⟩⟩
            clear d0 d1
            rcases Nat.eq_zero_or_pos k with rfl | hk0
            · go_wp2_with fail
              refine wp_region_below (by kernel_rfl) (by kernel_rfl) ?_
              repeat (go_big_quiet_step ((go_at_call 33; refine From.call _ (dirtyLeast_any _ _ HT.out.choose _ (HT.out.choose_spec.bel (From.below _)) HLL.out))))
              refine wpQuiet_nil ?_
              intro wq hw'
              have HBQ := Sc.mk (From.of_class hw')
              clear hw'
              go_wp2
              go_roundg (m - 1)
              case measure => omega
              case rel => exact ⟨1, by go_num, by omega, Nat.le_refl _, ⟨HSO.out.bel HBQ.out⟩⟩
            · obtain ⟨j, hj1, hj2, hjk⟩ : ∃ j : Nat, IntKind.i64.wrap ((k : Int) - 1) = j ∧ (k : Int) - 1 = j ∧ j + 1 = k := ⟨k - 1, by rw [IntKind.wrap_i64]; omega, by omega, by omega⟩
              obtain ⟨y, hy⟩ : ∃ y, l[j]? = some y := ⟨_, List.getElem?_eq_getElem (by rw [HM.out]; omega)⟩
              have hnp : decide (x.1 ≤ y.1) = false := by
                refine decide_eq_false ?_
                have h1 := HX.out
                rw [← hjk] at h1
                have := rising_at HR.out hy h1
                omega
              obtain ⟨e0, e1⟩ := HOk.out.cells2 hy
              have p0 : ∀ X : From wr, X.world.cell? ⟨g, j * 2, none⟩ = some (.int .i64 y.1) := fun X => X.cell e0
              have hjm : (j : Int) < m := by omega
              have hk1 : 0 < (k : Int) := by omega
              clear e0 e1 hy hjk
              go_wp2_with fail
              refine wp_region_below (by kernel_rfl) (by kernel_rfl) ?_
              repeat (go_big_quiet_step ((go_at_call 33; refine From.call _ (dirtyLeast_any _ _ HT.out.choose _ (HT.out.choose_spec.bel (From.below _)) HLL.out))))
              refine wpQuiet_nil ?_
              intro wq hw'
              have HBQ := Sc.mk (From.of_class hw')
              clear hw'
              clear hj1 hj2
              go_wp2
              go_roundg (m - (k + 1))
              case measure => omega
              case rel => exact ⟨k + 1, by go_num, by omega, Nat.le_refl _, ⟨HSO.out.bel HBQ.out⟩⟩
          · obtain rfl : k = m := by omega
            obtain ⟨wp, rfl⟩ : ∃ wp : World, wp = wr := ⟨_, rfl⟩
            clear hk hg hlt
            go_wp2_with fail
            go_loopg [15] k (fun kx s15 wr => ∃ (j : Nat), s15 = .int .i64 j ∧ j ≤ k ∧ k - j ≤ kx ∧ Sc (StDO w1 wr w1.heap.size (l.drop j) wo.heap.size (.slice A1 k c1) l))
            case atStart => exact ⟨0, rfl, by omega, by omega, HSO⟩
            case round =>
              obtain ⟨j, rfl, hj, hg, HSO⟩ := hrel
              have HSj := Sc.mk HSO.out.st
              have HOj := Sc.mk HSO.out.own
              by_cases hlt : j < k
              · obtain ⟨x, hx⟩ : ∃ x, l[j]? = some x := ⟨_, List.getElem?_eq_getElem (by rw [HM.out]; exact hlt)⟩
                obtain ⟨g, cq, he, _, _, _, _⟩ := HOj.out.form (by rw [HM.out]; omega)
                injection he with hA1 hn2 hC
                subst hA1
                obtain ⟨d0, d1⟩ := HOj.out.cells2 hx
                have hdr : l.drop j = x :: l.drop (j + 1) := by
                  obtain ⟨h1, h2⟩ := List.getElem?_eq_some_iff.1 hx
                  rw [List.drop_eq_getElem_cons h1, h2]
                have hrr := HSj.out.rising
                rw [hdr] at hrr
                have HH1 : Sc (has (l.drop j) x.1 = true) := ⟨by rw [hdr]; exact has_place (j := 0) rfl⟩
                have HD1 : Sc (drop' (l.drop j) x.1 = l.drop (j + 1)) := ⟨by rw [hdr]; exact drop'_head hrr⟩
                have HH2 : Sc (has (l.drop (j + 1)) x.1 = false) := ⟨has_tail hrr⟩
                have HD2 : Sc (drop' (l.drop (j + 1)) x.1 = l.drop (j + 1)) := ⟨drop'_no (has_tail hrr)⟩
                have HL1 : Sc ((l.drop j).length ≤ 1000000) := ⟨by rw [List.length_drop, HM.out]; omega⟩
                have HL2 : Sc ((l.drop (j + 1)).length ≤ 1000000) := ⟨by rw [List.length_drop, HM.out]; omega⟩
                have hjl : (j : Int) < k := by omega
                have HX := Sc.mk hx
                clear hx hC hn2 hdr hrr
                go_wp2_with (go_at_call 28; refine (StDO.drop HSO.out _ HL1.out).mono ?_; rintro e w4 ⟨rfl, hs4⟩; rw [HH1.out]; rw [HD1.out] at hs4; have HS4 := Sc.mk hs4; obtain ⟨e0, e1⟩ := hs4.own.cells2 HX.out; clear hs4)
                go_wp2_with (go_at_call 28; refine (StDO.drop HS4.out _ HL2.out).mono ?_; rintro e w5 ⟨rfl, hs5⟩; rw [HH2.out]; rw [HD2.out] at hs5; have HS5 := Sc.mk hs5; clear hs5)
                go_roundg (k - (j + 1))
                case measure => omega
                case rel => exact ⟨j + 1, by go_num, by omega, Nat.le_refl _, HS5⟩
              · obtain rfl : j = k := by omega
                have hnil : l.drop j = [] := List.drop_eq_nil_of_le (by rw [HM.out]; exact Nat.le_refl _)
                rw [hnil] at HSO
                clear hnil hlt hg hj
                obtain ⟨wq, rfl⟩ : ∃ wq : World, wq = wr := ⟨_, rfl⟩
                rcases Nat.eq_zero_or_pos j with rfl | hj0
                · obtain rfl : i = 0 := by
                    rcases Nat.eq_zero_or_pos i with h | h
                    · exact h
                    · have := HMI.out.1 h; omega
                  go_wp2_with (go_at_call 15; refine (StDO.all HSO.out).mono ?_; rintro e w4 ⟨A4, c4, rfl, hb4⟩; have HB4 := Sc.mk hb4; have HS4 := Sc.mk (HSO.out.bel hb4).st; clear hb4)
                  go_wp2_with (go_at_call 33; refine (dirtyLeast_st w1 _ _ [] HS4.out (by simp)).mono ?_; rintro e w5 ⟨rfl, hs5⟩; have HS5 := Sc.mk hs5; clear hs5)
                  go_ret
                  exact ⟨rfl, below_down HB1.out HS5.out.below⟩
                · obtain ⟨x, hx⟩ : ∃ x, l[0]? = some x := ⟨_, List.getElem?_eq_getElem (by rw [HM.out]; exact hj0)⟩
                  obtain ⟨g, cq, he, _, _, _, _⟩ := HSO.out.own.form (by rw [HM.out]; omega)
                  injection he with hA1 hn2 hC
                  subst hA1
                  have hx2 : (x.2 == 0) = false := by
                    have := HI.out.2.2 x (List.mem_of_getElem? hx)
                    rw [beq_eq_false_iff_ne]; omega
                  have hji : ((i : Int) == 0) = false := by
                    have := HMI.out.2
                    rw [beq_eq_false_iff_ne]; omega
                  have hjj : ((j : Int) == 0) = false := by rw [beq_eq_false_iff_ne]; omega
                  have hst : Try.prog.stoodInHeld 32 = false := by kernel_rfl
                  have h0j : (0 : Int) < j := by omega
                  have HX := Sc.mk hx
                  clear hx hC hn2 hj0
                  go_wp2_with (go_at_call 15; refine (StDO.all HSO.out).mono ?_; rintro e w4 ⟨A4, c4, rfl, hb4⟩; have HB4 := Sc.mk hb4; have HS4 := Sc.mk (HSO.out.bel hb4); clear hb4)
                  have HT : Sc (∃ row, TabD w4 w1.heap.size row []) := ⟨by obtain ⟨row, ht, _⟩ := HS4.out.tab; exact ⟨row, ht⟩⟩
                  go_wp2_with (go_at_call 33; refine (dirtyLeast_any _ _ HT.out.choose [] HT.out.choose_spec (by simp)).mono ?_; rintro e w5 ⟨rfl, hb5⟩; have HS5 := Sc.mk (HS4.out.bel hb5); obtain ⟨e0, e1⟩ := HS5.out.own.cells2 HX.out; clear hb5)
                  go_ret
                  exact ⟨rfl, below_down HB1.out HS5.out.below⟩
end Go.Proofs.Ytmaknknldegmhaa
