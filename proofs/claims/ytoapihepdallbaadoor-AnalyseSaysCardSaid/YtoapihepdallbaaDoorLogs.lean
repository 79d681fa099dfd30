/- Both logs with the same records: logs; first. -/
import Derived.Test.YtoapihepdallbaaDoorNewM
import Derived.Test.YtoapihepdallbaaDoorRW2
import Derived.Test.YtoapihepdallbaaDoorSeeG
import Derived.Test.YtoapihepdallbaaDoorAna
namespace Go.Proofs.YtoapihepdallbaaDoor
open Go.RowKit

/-- Both logs, apart, from block B on. -/
structure TwoL (B : Nat) (w : World) (lb lg : Nat) (rw rr : Option Nat) (L M : List RecD) (bs : Int) : Prop where
  p : LogP w lb rw L bs
  r : LogR w lg rr M bs
  np : B ≤ lb
  nr : B ≤ lg
  ne : lb ≠ lg
  nrw : ∀ q, rw = some q → B ≤ q
  nrr : ∀ q, rr = some q → B ≤ q
  a : rw ≠ some lg
  b : rr ≠ some lb
  d : ∀ q, rw = some q → rr ≠ some q
theorem LogR.lt' {W : World} {lb : Nat} {row : Option Nat} {L : List RecD} {bs : Int} (h : LogR W lb row L bs) : lb < W.heap.size := h.lt
theorem TwoL.bel {B lb lg : Nat} {w w1 : World} {rw rr : Option Nat} {L M : List RecD} {bs : Int} (h : TwoL B w lb lg rw rr L M bs) (hb : Below w.heap.size w w1) : TwoL B w1 lb lg rw rr L M bs :=
  ⟨h.p.bel hb, h.r.bel hb, h.np, h.nr, h.ne, h.nrw, h.nrr, h.a, h.b, h.d⟩
theorem TwoL.stepP {B lb lg : Nat} {w w1 : World} {rw rr : Option Nat} {L M L' : List RecD} {bs : Int} (h : TwoL B w lb lg rw rr L M bs) (hl : LeftL lb rw L' bs w w1) (hB : B ≤ w.heap.size) : ∃ rw', TwoL B w1 lb lg rw' rr L' M bs ∧ Below B w w1 := by
  obtain ⟨rw', hp, hk, hat⟩ := hl
  have hr : LogR w1 lg rr M bs := h.r.kp hk (fun he => he.elim (fun e => h.ne e.symm) (fun e => h.a e.symm)) (fun q hq he => he.elim (fun e => h.b (by rw [hq, e])) (fun e => h.d q e.symm hq))
  have hb : Below B w w1 := hk.below hB (fun q hq => by
    rcases hq with hq | hq
    · rw [hq]; exact h.np
    · exact h.nrw q hq.symm)
  have lr := h.r.lt
  have lrr := h.r.rowlt
  refine ⟨rw', ⟨hp, hr, h.np, h.nr, h.ne, fun q hq => ?_, h.nrr, fun he => ?_, h.b, fun q hq he => ?_⟩, hb⟩
  · rcases hat with e | ⟨p, e, hp'⟩
    · exact h.nrw q (e.symm.trans hq)
    · rw [e] at hq; injection hq with hq; omega
  · rcases hat with e | ⟨p, e, hp'⟩
    · exact h.a (e.symm.trans he)
    · rw [e] at he; injection he with he; omega
  · rcases hat with e | ⟨p, e, hp'⟩
    · exact h.d q (e.symm.trans hq) he
    · rw [e] at hq; injection hq with hq; have := lrr q he; omega
theorem TwoL.stepR {B lb lg : Nat} {w w1 : World} {rw rr : Option Nat} {L M M' : List RecD} {bs : Int} (h : TwoL B w lb lg rw rr L M bs) (hl : LeftR lg rr M' bs w w1) (hB : B ≤ w.heap.size) : ∃ rr', TwoL B w1 lb lg rw rr' L M' bs ∧ Below B w w1 := by
  obtain ⟨rr', hp, hk, hat⟩ := hl
  have hr : LogP w1 lb rw L bs := h.p.kp hk (fun he => he.elim (fun e => h.ne e) (fun e => h.b e.symm)) (fun q hq he => he.elim (fun e => h.a (by rw [hq, e])) (fun e => h.d q hq e.symm))
  have hb : Below B w w1 := hk.below hB (fun q hq => by
    rcases hq with hq | hq
    · rw [hq]; exact h.nr
    · exact h.nrr q hq.symm)
  have lr := h.p.lt
  have lrr := h.p.rowlt
  refine ⟨rr', ⟨hr, hp, h.np, h.nr, h.ne, h.nrw, fun q hq => ?_, h.a, fun he => ?_, fun q hq he => ?_⟩, hb⟩
  · rcases hat with e | ⟨p, e, hp'⟩
    · exact h.nrr q (e.symm.trans hq)
    · rw [e] at hq; injection hq with hq; omega
  · rcases hat with e | ⟨p, e, hp'⟩
    · exact h.b (e.symm.trans he)
    · rw [e] at he; injection he with he; omega
  · rcases hat with e | ⟨p, e, hp'⟩
    · exact h.d q hq (e.symm.trans he)
    · rw [e] at he; injection he with he; have := lrr q hq; omega
abbrev good (l : List RecD) : List RecD := l.filter goodR
theorem good_yes {l : List RecD} {i : Nat} {x : RecD} (hx : l[i]? = some x) (h : goodR x = true) : good (l.take (i + 1)) = good (l.take i) ++ [x] := by
  rw [List.take_add_one, hx]; simp [List.filter_append, h]
theorem good_no {l : List RecD} {i : Nat} {x : RecD} (hx : l[i]? = some x) (h : goodR x = false) : good (l.take (i + 1)) = good (l.take i) := by
  rw [List.take_add_one, hx]; simp [List.filter_append, h]
theorem good_len {l : List RecD} {i : Nat} : (good (l.take i)).length ≤ i := Nat.le_trans (List.length_filter_le _ _) (by rw [List.length_take]; omega)

set_option maxRecDepth 4000 in
set_option maxHeartbeats 4000000 in
theorem logs_any (f : Nat → Addr) (w : World) (base : Nat) (v : Value) (l : List RecD) (bs : Int) (hS : Sents w f) (hown : Own encR 10 51 base w v l) (hlen : l.length ≤ 170) (h0 : 0 ≤ bs) (h1 : bs ≤ 1000) :
    Calls Tryd.prog 9 #[v, .int .i64 bs] w fun e w' => ∃ lb lg rw rr, e = .returned (.tuple #[.pointer (some ⟨lb, 0, none⟩), .pointer (some ⟨lg, 0, none⟩), .bool true]) ∧ LogP w' lb rw (good l) bs ∧ LogR w' lg rr (good l) bs ∧ Below w.heap.size w w' := by
  obtain ⟨A, cap, rfl, hnc, hcm⟩ := hown.slice
  obtain ⟨n, hn⟩ : ∃ n, l.length = n := ⟨_, rfl⟩
  rw [hn] at hown hlen hnc ⊢
  have HN := Sc.mk hn
  have HO := Sc.mk hown
  have HS := Sc.mk hS
  have h1' : bs ≤ 1000000 := by omega
  clear hown hn hS
  go_enter Tryd.func9, Tryd.ntmps9
  go_wp2_with fail
  refine (diskNew_any _).mono ?_
  rintro e w1 ⟨rfl, hb⟩
  have HB1 := Sc.mk hb
  clear hb
  go_wp2_with fail
  refine (walNew_any _ _ bs).mono ?_
  rintro e w2 ⟨rfl, hl, hb⟩
  obtain ⟨lb, hlb⟩ : ∃ lb, w1.heap.size = lb := ⟨_, rfl⟩
  rw [hlb] at hl ⊢
  have HLB : Sc (w.heap.size ≤ lb) := ⟨by have := HB1.out.size; omega⟩
  have HB2 := Sc.mk (below_down HB1.out hb)
  have HL2 := Sc.mk hl
  clear hb hl hlb
  go_wp2_with fail
  refine (refDisk_any _).mono ?_
  rintro e w3 ⟨rfl, hb⟩
  have HB3 := Sc.mk (below_down HB2.out hb)
  have HL3 := Sc.mk (HL2.out.bel hb)
  clear hb
  go_wp2_with fail
  refine (refNew_any _ _ bs).mono ?_
  rintro e w4 ⟨rfl, hl, hb⟩
  have HT : Sc (TwoL w.heap.size w4 lb w3.heap.size none none [] [] bs) := ⟨⟨HL3.out.bel hb, hl, HLB.out, HB3.out.size, by have := HL3.out.lt; omega, fun q h => by simp at h, fun q h => by simp at h, by simp, by simp, fun q h => by simp at h⟩⟩
  obtain ⟨lg, hlg⟩ : ∃ lg, w3.heap.size = lg := ⟨_, rfl⟩
  rw [hlg] at HT ⊢
  have HB4 := Sc.mk (below_down HB3.out hb)
  clear hb hl hlg HL2 HL3
  go_wp2_with fail
  go_loopg [4, 5, 6, 10] n (fun kx s4 s5 s6 s10 wr => ∃ (i : Nat) (rw rr : Option Nat), s4 = .pointer none ∧ s5 = .pointer none ∧ s6 = .bool false ∧ s10 = .int .i64 i ∧ i ≤ n ∧ n - i ≤ kx ∧ Sc (Below w.heap.size w wr) ∧ Sc (TwoL w.heap.size wr lb lg rw rr (good (l.take i)) (good (l.take i)) bs))
  case atStart => exact ⟨0, none, none, rfl, rfl, rfl, rfl, by omega, by omega, HB4, ⟨by rw [List.take_zero]; exact HT.out⟩⟩
  case round =>
    obtain ⟨i, rw0, rr0, rfl, rfl, rfl, rfl, hin, hg, HB, HR⟩ := hrel
    by_cases hlt : i < n
    · obtain ⟨x, hx⟩ : ∃ x, l[i]? = some x := ⟨_, List.getElem?_eq_getElem (by rw [HN.out]; exact hlt)⟩
      obtain ⟨g, c2, he, _, _, _, _⟩ := HO.out.form (by rw [HN.out]; omega)
      injection he with hA hn2 hC
      subst hA
      obtain ⟨c0, c1, c2, c3, c4, c5, c6, c7, c8, c9⟩ := (HO.out.below HB.out).cellsR hx
      have HX := Sc.mk hx
      have hgl : (good (l.take i)).length ≤ 170 := Nat.le_trans good_len (by omega)
      have hil : (i : Int) < n := by omega
      clear hx hn2 hC
      go_wp2_with fail
      refine (walAppend_any f _ lb rw0 _ bs x (HS.out.bel HB.out) HR.out.p (by omega) h0 h1').mono ?_
      cases hgd : goodR x with
      | false =>
        have HG := Sc.mk (good_no HX.out hgd)
        intro e w5 ha
        rw [AppP, if_neg (by rw [hgd]; simp)] at ha
        obtain ⟨rfl, hl⟩ := ha
        obtain ⟨rw1, ht, hb⟩ := HR.out.stepP hl HB.out.size
        have HR1 := Sc.mk ht
        have HB5 := Sc.mk (HB.out.trans hb)
        have HGD := Sc.mk hgd
        clear ht hb hl c0 c1 c2 c3 c4 c5 c6 c7 c8 c9 hgd
        obtain ⟨c0, c1, c2, c3, c4, c5, c6, c7, c8, c9⟩ := (HO.out.below HB5.out).cellsR HX.out
        go_wp2_with fail
        refine (refAppend_any _ lg rr0 _ bs x HR1.out.r (by omega) h0 h1').mono ?_
        intro e w6 ha
        rw [AppR, if_neg (by rw [HGD.out]; simp)] at ha
        obtain ⟨rfl, hl⟩ := ha
        obtain ⟨rr1, ht, hb⟩ := HR1.out.stepR hl HB5.out.size
        have HR2 := Sc.mk ht
        have HB6 := Sc.mk (HB5.out.trans hb)
        clear ht hb hl c0 c1 c2 c3 c4 c5 c6 c7 c8 c9
        go_wp2_with fail
        refine (is_any (f := f) (.bad 1 (by omega) (HS.out.bel HB6.out))).mono ?_
        rintro e w7 ⟨rfl, hb⟩
        have HR3 := Sc.mk (HR2.out.bel hb)
        have HB7 := Sc.mk (HB6.out.trans (hb.mono HB6.out.size))
        clear hb
        go_wp2
        go_roundg (n - (i + 1))
        case measure => omega
        case rel => exact ⟨i + 1, rw1, rr1, rfl, rfl, rfl, by go_num, by omega, Nat.le_refl _, HB7, ⟨by rw [HG.out]; exact HR3.out⟩⟩
      | true =>
        have HG := Sc.mk (good_yes HX.out hgd)
        intro e w5 ha
        rw [AppP, if_pos hgd] at ha
        obtain ⟨rfl, hl⟩ := ha
        obtain ⟨rw1, ht, hb⟩ := HR.out.stepP hl HB.out.size
        have HR1 := Sc.mk ht
        have HB5 := Sc.mk (HB.out.trans hb)
        have HGD := Sc.mk hgd
        clear ht hb hl c0 c1 c2 c3 c4 c5 c6 c7 c8 c9 hgd
        obtain ⟨c0, c1, c2, c3, c4, c5, c6, c7, c8, c9⟩ := (HO.out.below HB5.out).cellsR HX.out
        go_wp2_with fail
        refine (refAppend_any _ lg rr0 _ bs x HR1.out.r (by omega) h0 h1').mono ?_
        intro e w6 ha
        rw [AppR, if_pos HGD.out] at ha
        obtain ⟨rfl, hl⟩ := ha
        obtain ⟨rr1, ht, hb⟩ := HR1.out.stepR hl HB5.out.size
        have HR2 := Sc.mk ht
        have HB6 := Sc.mk (HB5.out.trans hb)
        clear ht hb hl c0 c1 c2 c3 c4 c5 c6 c7 c8 c9
        go_wp2_with fail
        refine (is_any (f := f) .ok).mono ?_
        rintro e w7 ⟨rfl, hb⟩
        have HR3 := Sc.mk (HR2.out.bel hb)
        have HB7 := Sc.mk (HB6.out.trans (hb.mono HB6.out.size))
        clear hb
        go_wp2
        go_roundg (n - (i + 1))
        case measure => omega
        case rel => exact ⟨i + 1, rw1, rr1, rfl, rfl, rfl, by go_num, by omega, Nat.le_refl _, HB7, ⟨by rw [HG.out]; exact HR3.out⟩⟩
    · obtain rfl : i = n := by omega
      have HE : Sc (l.take i = l) := ⟨by rw [← HN.out, List.take_length]⟩
      go_wp2
      refine bodyPost_ret (v := .tuple #[.pointer (some ⟨lb, 0, none⟩), .pointer (some ⟨lg, 0, none⟩), .bool true]) (by simp [results, Tryd.results9, go_sem]) rfl ⟨lb, lg, rw0, rr0, rfl, ?_, ?_, HB.out⟩
      · have := HR.out.p; rwa [HE.out] at this
      · have := HR.out.r; rwa [HE.out] at this

theorem anaP_nil : anaP [] 0 4 0 = (none, An.zero false) := by rfl
set_option maxRecDepth 4000 in
set_option maxHeartbeats 2000000 in
theorem first20_any (f : Nat → Addr) (w : World) (hS : Sents w f) :
    Calls Tryd.prog 6 #[] w fun e w' => e = .returned (.bool true) ∧ Below w.heap.size w w' := by
  have HS := Sc.mk hS
  clear hS
  go_enter Tryd.func6, Tryd.ntmps6
  go_wp2_with fail
  refine (logs_any f _ 0 _ [] 0 HS.out Own.nil (by simp) (by omega) (by omega)).mono ?_
  rintro e w1 ⟨lb, lg, rw1, rr1, rfl, hp, hr, hb⟩
  have HB1 := Sc.mk hb
  have HL := Sc.mk hp
  clear hp hr hb
  go_wp2_with fail
  refine (anaLog_any (f := f) w1 4 0 HL.out (HS.out.bel HB1.out) (by simp) (by omega) (by omega)).mono ?_
  have ha : anaP (good []) 0 4 0 = (none, An.zero false) := anaP_nil
  rw [ha]
  rintro e w2 ⟨h | ⟨vt, vd, _, rfl, ht, hd⟩, hb⟩
  · obtain ⟨p, b, h, _⟩ := h
    simp at h
  have HB2 := Sc.mk (below_down HB1.out hb)
  obtain ⟨At, ct, rfl, _, _⟩ := ht.slice
  obtain ⟨Ad, cd, rfl, _, _⟩ := hd.slice
  have hz := heap_alloc_new w2 (.cells #[.slice At 0 ct, .slice Ad 0 cd, .int .i64 0] 37)
  obtain ⟨q0, q1, q2⟩ := cells_fd hz
  clear hz hb ht hd
  go_wp2
  go_ret
  exact ⟨rfl, dn_alloc HB2.out _⟩
end Go.Proofs.YtoapihepdallbaaDoor
