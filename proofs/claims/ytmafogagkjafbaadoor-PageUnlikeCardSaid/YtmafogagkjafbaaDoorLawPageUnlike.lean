/- The walk of PageUnlike: unlike pages have unlike bytes; a byte turned makes them none. -/
import Derived.Test.YtmafogagkjafbaaDoorPVar
import Derived.Test.YtmafogagkjafbaaDoorFirst7
import Derived.Test.YtmafogagkjafbaaDoorRefB
import Derived.Test.YtmafogagkjafbaaDoorSee
import Derived.Test.YtmafogagkjafbaaDoorLawPageBounds
namespace Go.Proofs.YtmafogagkjafbaaDoor
open Go.RowKit

theorem alike_dec {n m : Int} {l k : List (Int × Int)} (h1 : OkP n l ∧ Vals l) (h2 : OkP m k ∧ Vals k) : decide (pageB n l = pageB m k) = decide (n = m ∧ l = k) := by
  by_cases h : n = m ∧ l = k
  · rw [decide_eq_true h, h.1, h.2]; simp
  · rw [decide_eq_false h, decide_eq_false (fun he => h (pageB_inj h1.1 h2.1 h1.2 h2.2 he))]

set_option maxRecDepth 10000 in
set_option maxHeartbeats 1500000 in
theorem pageUnlike_walk (a : Option Addr) (len cap : Nat) (zs : List Int) (a' : Option Addr) (len' cap' : Nat) (zs' : List Int) (at0 : Int) (w : World) (hrow : IsRow .i64 w a len cap zs) (hrow' : IsRow .i64 w a' len' cap' zs') (f : Nat → Addr) (hS : Sents w f) :
    Calls Tryd.prog 10 #[.slice a len cap, .slice a' len' cap', .int .i64 at0] w fun e w' => e = .returned (.bool true) ∧ Below w.heap.size w w' := by
  have HW := Sc.mk hrow
  have HW' := Sc.mk hrow'
  have HS := Sc.mk hS
  clear hrow hrow' hS
  by_cases hbig : 100 < len
  · have hbig' : decide ((100 : Int) < len) = true := decide_eq_true (by omega)
    clear HW HW'
    go_enter Tryd.func10, Tryd.ntmps10
    go_wp2_with (go_at_call 28; refine (first7_any f _ HS.out.errs).mono ?_; rintro e w1 ⟨rfl, hb⟩)
    go_ret
    exact ⟨rfl, hb⟩
  · by_cases hbig2 : 100 < len'
    · have hbig' : decide ((100 : Int) < len) = false := decide_eq_false (by omega)
      have hbig'' : decide ((100 : Int) < len') = true := decide_eq_true (by omega)
      clear HW HW'
      go_enter Tryd.func10, Tryd.ntmps10
      go_wp2_with (go_at_call 28; refine (first7_any f _ HS.out.errs).mono ?_; rintro e w1 ⟨rfl, hb⟩)
      go_ret
      exact ⟨rfl, hb⟩
    · have hbig' : decide ((100 : Int) < len) = false := decide_eq_false (by omega)
      have hbig'' : decide ((100 : Int) < len') = false := decide_eq_false (by omega)
      go_enter Tryd.func10, Tryd.ntmps10
      go_wp2_with fail
      refine (first7_any f _ HS.out.errs).mono ?_
      rintro e w1 ⟨rfl, hb⟩
      have HB1 := Sc.mk hb
      clear hb
      go_wp2_with fail
      refine (makePage_any w _ _ a len cap zs 0 18 (SeqIs.made HW.out HB1.out) (by omega) (by omega)).mono ?_
      rintro e w2 ⟨n, l, A, s, c, k', rfl, hn1, hn50, hr, hl20, hl18, hrange, ho, hs, hk', hkp⟩
      have HOK := Sc.mk (made_ok hn1 hn50 hr hl20 hrange)
      have HP2 : Sc (PageVar w (w2.alloc (.cells #[.int .i64 n, .slice A s c] 29)) w2.heap.size n (.slice A s c) l) := ⟨PageVar.of (made_below HB1.out hkp rfl) (ho.mono (by have := HB1.out.size; simp; omega))⟩
      obtain ⟨_, _, heq, _, _⟩ := ho.slice
      have HSL : Sc (s = l.length) := ⟨by injection heq⟩
      have HL := Sc.mk hl18
      clear ho hr hl20 hl18 hrange hs hk' hkp hn1 hn50 heq
      have HSQ : Sc (SeqIs w ((w2.alloc (.cells #[.int .i64 n, .slice A s c] 29)).alloc (.cells #[.slice a' len' cap', .int .i64 0] 26)) (w2.heap.size + 1) a' len' cap' zs' 0) := ⟨by have := SeqIs.made HW'.out HP2.out.below; simpa using this⟩
      go_wp2_with fail
      refine (makePage_any w _ _ a' len' cap' zs' 0 18 HSQ.out (by omega) (by omega)).mono ?_
      rintro e w3 ⟨m, k, A', s', c', k'', rfl, hn1, hn50, hr, hl20, hl18, hrange, ho, hs, hk', hkp⟩
      have HOK' := Sc.mk (made_ok hn1 hn50 hr hl20 hrange)
      have HP3 := Sc.mk (HP2.out.past hkp (by simp))
      have HQ3 : Sc (PageVar w (w3.alloc (.cells #[.int .i64 m, .slice A' s' c'] 29)) w3.heap.size m (.slice A' s' c') k) := ⟨PageVar.of HP3.out.below (ho.mono (by have := HP2.out.below.size; simp at this ⊢; omega))⟩
      have HP3a := Sc.mk (HP3.out.alloc (.cells #[.int .i64 m, .slice A' s' c'] 29))
      have HL' := Sc.mk hl18
      clear ho hr hl20 hl18 hrange hs hk' hkp hn1 hn50
      obtain ⟨p0, p1⟩ := cells_page HP3a.out.cells
      obtain ⟨q0, q1⟩ := cells_page HQ3.out.cells
      have lp := heap_lt HP3a.out.cells
      have lq := heap_lt HQ3.out.cells
      go_wp2_with fail
      refine (pageBytes_any f _ w.heap.size n _ l (HS.out.bel HP3a.out.below).errs HP3a.out.own (by have := HL.out; omega)).mono ?_
      intro e w4 hres
      obtain ⟨g, cx, rfl, hox, hb4⟩ := hres.yes HOK.out.1
      have HX4 := Sc.mk hox
      have HP4 := Sc.mk (HP3a.out.bel hb4)
      have HQ4 := Sc.mk (HQ3.out.bel hb4)
      have HG4 : Sc (w3.heap.size + 1 ≤ g) := ⟨by have := (hox.lt g rfl).1; simpa using this⟩
      clear hres hox hb4 p0 p1 q0 q1 lp lq
      obtain ⟨p0, p1⟩ := cells_page HP4.out.cells
      obtain ⟨q0, q1⟩ := cells_page HQ4.out.cells
      go_wp2_with fail
      refine (pageBytes_any f _ w.heap.size m _ k (HS.out.bel HP4.out.below).errs HQ4.out.own (by have := HL'.out; omega)).mono ?_
      intro e w5 hres
      obtain ⟨g', cy, rfl, hoy, hb5⟩ := hres.yes HOK'.out.1
      have HX5 := Sc.mk (HX4.out.below hb5)
      have HY5 := Sc.mk hoy
      have HP5 := Sc.mk (HP4.out.bel hb5)
      have HQ5 := Sc.mk (HQ4.out.bel hb5)
      clear hres hoy hb5 p0 p1 q0 q1
      obtain ⟨p0, p1⟩ := cells_page HP5.out.cells
      obtain ⟨q0, q1⟩ := cells_page HQ5.out.cells
      have r0 : ∀ X : From w5, X.world.cell? ⟨w2.heap.size, 0, none⟩ = some (.int .i64 n) := fun X => X.cell p0
      have r1 : ∀ X : From w5, X.world.cell? ⟨w2.heap.size, 1, none⟩ = some (.slice A s c) := fun X => X.cell p1
      have r2 : ∀ X : From w5, X.world.cell? ⟨w3.heap.size, 0, none⟩ = some (.int .i64 m) := fun X => X.cell q0
      have r3 : ∀ X : From w5, X.world.cell? ⟨w3.heap.size, 1, none⟩ = some (.slice A' s' c') := fun X => X.cell q1
      obtain ⟨qq, hqq⟩ : ∃ qq, decide (n = m ∧ l = k) = qq := ⟨_, rfl⟩
      have HD := Sc.mk hqq
      have HD' : Sc (decide (pageB n l = pageB m k) = qq) := ⟨(alike_dec HOK.out HOK'.out).trans hqq⟩
      clear p0 p1 q0 q1 hqq
      have CB : ∀ X : From w5, Calls Tryd.prog 32 #[.slice (some ⟨g, 0, none⟩) 256 cx, .slice (some ⟨g', 0, none⟩) 256 cy] X.world fun e w' => e = .returned (.bool qq) ∧ Below X.world.heap.size X.world w' := fun X => by
        have h := bytesSame_any _ _ _ (pageB n l) (pageB m k) (HX5.out.below X.below).rd (HY5.out.below X.below).rd (by rw [pageB_length]; omega) (by rw [pageB_length]; omega)
        rw [HD'.out] at h
        exact h
      have CP : ∀ X : From w5, Calls Tryd.prog 22 #[aggP n (.slice A s c), aggP m (.slice A' s' c')] X.world fun e w' => e = .returned (.bool qq) ∧ Below X.world.heap.size X.world w' := fun X => by
        have h := samePage_any _ w.heap.size w.heap.size n m _ _ l k (HP5.out.own.below X.below) (HQ5.out.own.below X.below) (by have := HL.out; omega) (by have := HL'.out; omega)
        rw [HD.out] at h
        exact h
      go_wp2_with fail
      refine wp_region_below (by kernel_rfl) (by kernel_rfl) ?_
      repeat (go_big_quiet_step (first
        | (go_at_call 32; exact From.call _ (CB _))
        | (go_at_call 22; exact From.call _ (CP _))))
      refine wpQuiet_nil ?_
      intro w6 hw'
      have hb6 := From.of_class hw'
      have HX6 := Sc.mk (HX5.out.below hb6)
      have HP6 := Sc.mk (HP5.out.bel hb6)
      clear hw' hb6 r0 r1 r2 r3
      obtain ⟨p0, p1⟩ := cells_page HP6.out.cells
      obtain ⟨t0, ht0⟩ : ∃ t0, at0 % 10 = t0 := ⟨_, rfl⟩
      obtain ⟨t1, ht1⟩ : ∃ t1, at0 % (256 - (16 + 12 * (s : Int))) = t1 := ⟨_, rfl⟩
      have hs18 : s ≤ 18 := by rw [HSL.out]; exact HL.out
      have h00 : 0 ≤ t0 := by omega
      have h01 : t0 < 10 := by omega
      have h10 : 0 ≤ t1 := by rw [← ht1]; exact Int.emod_nonneg _ (by omega)
      have h11 : t1 < 256 - (16 + 12 * (s : Int)) := by rw [← ht1]; exact Int.emod_lt_of_pos _ (by omega)
      have HT0 := Sc.mk ht0
      have HT1 := Sc.mk ht1
      clear ht0 ht1
      go_wp2_with fail
      refine (number_is at0 10 t0 _ HT0.out (by omega) (by omega)).mono ?_
      rintro e w6' ⟨rfl, rfl⟩
      go_upto_if 78 with fail
      go_cut [15] from 76 to 84 (fun s15 wx => ∃ kk : Nat, s15 = .int .i64 kk ∧ kk < 256 ∧ ((6 ≤ kk ∧ kk < 16) ∨ 16 + 12 * s ≤ kk) ∧ wx = w6)
      case first =>
        generalize (bits BinOp.and IntKind.i64 at0 1 == 0) = qa
        cases qa with
        | true =>
          go_wp2_with fail
          refine (number_is at0 _ t1 _ HT1.out (by omega) (by omega)).mono ?_
          rintro e w6' ⟨rfl, rfl⟩
          go_wp2_with fail
          go_meet
          case rel => exact ⟨(16 + 12 * (s : Int) + t1).toNat, by congr 1; omega, by omega, .inr (by omega), rfl⟩
        | false =>
          go_wp2_with fail
          go_meet
          case rel => exact ⟨(6 + t0).toNat, by congr 1; omega, by omega, .inl (by omega), rfl⟩
      case rest =>
        obtain ⟨kk, rfl, hk1, hk2, rfl⟩ := hcut
        obtain ⟨x, hx⟩ : ∃ x, (pageB n l)[kk]? = some x := ⟨_, List.getElem?_eq_getElem (by rw [pageB_length]; exact hk1)⟩
        have c0 := HX6.out.cellB hx
        have z0 := HX6.out.unfrozen kk
        have hki : (kk : Int) < 256 := by omega
        have HX7 := Sc.mk (HX6.out.setB 3 hx)
        have HB7 : Sc (Below w.heap.size w (wc.setCell ⟨g, kk, none⟩ (.int .u8 3))) := ⟨HP6.out.below.setCell (by have := HG4.out; have := HP3.out.below.size; show w.heap.size ≤ g; omega) _⟩
        have HNO : Sc (¬ ReadOk ((pageB n l).set kk 3)) := ⟨turned_not HOK.out.1 HOK.out.2 (by rw [← HSL.out]; exact hk2) hk1 (by omega)⟩
        have HY7 : Sc (Byt ((pageB n l).set kk 3)) := ⟨fun z hz => by
          rcases List.mem_or_eq_of_mem_set hz with h | h
          · exact pageB_byt n l z h
          · omega⟩
        clear hk2 hx p0 p1
        go_wp2_with fail
        refine (pageRead_any f _ _ ((pageB n l).set kk 3) (HS.out.bel HB7.out).errs HX7.out.rd HY7.out (by rw [List.length_set, pageB_length]; omega)).mono ?_
        intro e w8 hres
        obtain ⟨rfl, hb8⟩ := hres.turned (by rw [List.length_set, pageB_length]) HNO.out
        have HB8 : Sc (Below w.heap.size w w8) := ⟨below_down HB7.out hb8⟩
        clear hres hb8 c0 z0
        go_wp2_with fail
        refine (isE _ 6 107 (by omega) ((HS.out.bel HB8.out).bel ((Below.refl _ _).alloc (Nat.le_refl _) _)) rfl).mono ?_
        rintro e w9 ⟨rfl, hb9⟩
        have HB9 : Sc (Below w.heap.size w w9) := ⟨below_down (dn_alloc HB8.out _) hb9⟩
        clear hb9
        go_wp2_with fail
        go_ret
        exact ⟨rfl, HB9.out⟩
end Go.Proofs.YtmafogagkjafbaaDoor
