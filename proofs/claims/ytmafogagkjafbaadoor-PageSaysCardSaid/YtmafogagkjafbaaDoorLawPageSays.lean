/- The walk of PageSays: whether a page may be, its bytes, what bytes are as one; keys found, put, removed. -/
import Derived.Test.YtmafogagkjafbaaDoorSays7
namespace Go.Proofs.YtmafogagkjafbaaDoor
open Go.RowKit

set_option maxRecDepth 10000 in
set_option maxHeartbeats 2000000 in
theorem pageSays_walk (n0 : Int) (v0 : Value) (l0 : List (Int × Int)) (a : Option Addr) (len cap : Nat) (zs : List Int) (vb : Value) (lb : List Int) (at0 by0 key0 v : Int) (w : World)
    (hraw : RdE w v0 l0) (hrow : IsRow .i64 w a len cap zs) (hb : RdB w vb lb) (hyb : Byt lb) (f : Nat → Addr) (hS : Sents w f) :
    Calls Tryd.prog 12 #[aggP n0 v0, .slice a len cap, vb, .int .i64 at0, .int .u8 by0, .int .i64 key0, .int .i64 v] w fun e w' => e = .returned (.bool true) ∧ Below w.heap.size w w' := by
  obtain ⟨A0, c0, rfl, _, _⟩ := hraw.slice
  obtain ⟨Ab, cb, rfl⟩ := hb.slice
  obtain ⟨N0, hN0⟩ : ∃ N, l0.length = N := ⟨_, rfl⟩
  obtain ⟨Nb, hNb⟩ : ∃ N, lb.length = N := ⟨_, rfl⟩
  rw [hN0] at hraw ⊢
  rw [hNb] at hb ⊢
  have HN0 := Sc.mk hN0
  have HNb := Sc.mk hNb
  have HW := Sc.mk hrow
  have HR0 := Sc.mk (PRaw.made (n := n0) hraw)
  have HBB := Sc.mk hb
  have HYB := Sc.mk hyb
  have HS := Sc.mk hS
  obtain ⟨b7, hb7⟩ : ∃ b, w.heap.size = b := ⟨_, rfl⟩
  rw [hb7] at HR0
  obtain ⟨w0, hw0⟩ : ∃ w0, w.alloc (.cells #[.int .i64 n0, .slice A0 N0 c0] 29) = w0 := ⟨_, rfl⟩
  rw [hw0] at HR0
  clear hraw hrow hb hyb hS hN0 hNb
  go_enter Tryd.func12, Tryd.ntmps12
  go_wp2_with fail
  clear hb7 hw0
  refine (first7_any f _ (HS.out.bel HR0.out.below).errs).mono ?_
  rintro e w1 ⟨rfl, hb⟩
  have HR1 := Sc.mk (HR0.out.bel hb)
  obtain ⟨p0, p1⟩ := cells_page HR1.out.cells
  have lp := heap_lt HR1.out.cells
  clear hb
  by_cases hbig : 30 < N0
  · have h1 : decide ((30 : Int) < N0) = true := decide_eq_true (by omega)
    go_wp2
    go_ret
    exact ⟨rfl, HR1.out.below⟩
  · have h1 : decide ((30 : Int) < N0) = false := decide_eq_false (by omega)
    by_cases hbig2 : 150 < len
    · have h2 : decide ((150 : Int) < len) = true := decide_eq_true (by omega)
      go_wp2
      go_ret
      exact ⟨rfl, HR1.out.below⟩
    · have h2 : decide ((150 : Int) < len) = false := decide_eq_false (by omega)
      by_cases hbig3 : 300 < Nb
      · have h3 : decide ((300 : Int) < Nb) = true := decide_eq_true (by omega)
        go_wp2
        go_ret
        exact ⟨rfl, HR1.out.below⟩
      · have h3 : decide ((300 : Int) < Nb) = false := decide_eq_false (by omega)
        obtain ⟨kd, hkd⟩ : ∃ kd, key0 % 60 = kd := ⟨_, rfl⟩
        have HKD := Sc.mk hkd
        clear hkd
        go_wp2_with fail
        refine (makePage_any w _ _ a len cap zs 0 24 (SeqIs.made HW.out HR1.out.below) (by omega) (by omega)).mono ?_
        rintro e w2 ⟨n, l, A, s, c, k', rfl, hn1, hn50, hr, hl20, hl18, hrange, ho, hs, hk', hkp⟩
        have HOK := Sc.mk (made_ok hn1 hn50 hr hl20 hrange)
        have HB2 : Sc (Below w1.heap.size w1 w2) := ⟨made_below (Below.refl _ _) hkp rfl⟩
        have HR2 := Sc.mk ((HR1.out.bel HB2.out).alloc (.cells #[.int .i64 n, .slice A s c] 29))
        have HP2 : Sc (PageVar w (w2.alloc (.cells #[.int .i64 n, .slice A s c] 29)) w2.heap.size n (.slice A s c) l) := ⟨PageVar.of (below_down HR1.out.below HB2.out) (ho.mono (by have := HR1.out.below.size; simp; omega))⟩
        have HL := Sc.mk hl20
        have HR := Sc.mk hr
        clear ho hr hl20 hl18 hrange hs hk' hkp hn1 hn50 p0 p1 lp
        obtain ⟨wv, hwv⟩ : ∃ wv, w2.alloc (.cells #[.int .i64 n, .slice A s c] 29) = wv := ⟨_, rfl⟩
        obtain ⟨bp, hbp⟩ : ∃ b, w2.heap.size = b := ⟨_, rfl⟩
        rw [hwv] at HR2
        rw [hwv, hbp] at HP2
        go_wp2_with fail
        clear hwv hbp HB2
        refine (number_is key0 60 kd _ HKD.out (by omega) (by omega)).mono ?_
        rintro e w2' ⟨rfl, rfl⟩
        obtain ⟨gd, hgd⟩ : ∃ g : Bool, (g = true ↔ OkP n0 l0) := by
          by_cases h : OkP n0 l0
          · exact ⟨true, by simp [h]⟩
          · exact ⟨false, by simp [h]⟩
        have HGD := Sc.mk hgd
        obtain ⟨p0, p1⟩ := cells_page HR2.out.cells
        clear hgd
        go_wp2_with fail
        refine (refGood_any _ n0 _ l0 HR2.out.rd (by rw [HN0.out]; omega)).mono ?_
        rintro e w3 ⟨hres, hb⟩
        have hres' : e = .returned (.bool gd) := by
          rcases hres with ⟨h, he⟩ | ⟨h, he⟩
          · rw [he, HGD.out.2 h]
          · cases gd with
            | false => exact he
            | true => exact absurd (HGD.out.1 rfl) h
        subst hres'
        have HR3 := Sc.mk (HR2.out.bel hb)
        have HP3 := Sc.mk (HP2.out.bel hb)
        clear hres hb p0 p1
        obtain ⟨p0, p1⟩ := cells_page HR3.out.cells
        go_upto_if 67 with fail
        go_cut [17] from 67 to 67 (fun s17 wx => ∃ cw : Int, s17 = .int .i64 cw ∧ Sc ((gd = true → cw = 0) ∧ (gd = false → cw = 102)) ∧ wx = w3)
        case first =>
          cases gd with
          | true =>
            go_wp2_with fail
            go_meet
            case rel => exact ⟨0, rfl, ⟨by simp⟩, rfl⟩
          | false =>
            go_wp2_with fail
            go_meet
            case rel => exact ⟨102, rfl, ⟨by simp⟩, rfl⟩
        case rest =>
          obtain ⟨cw, rfl, HCW, rfl⟩ := hcut
          go_wp2_with fail
          refine (pageBytesR_any f _ n0 _ l0 (HS.out.bel HR3.out.below).errs HR3.out.rd (by rw [HN0.out]; omega)).mono ?_
          intro e w4 hres
          obtain ⟨vx, ve, Ax, kx, cx, rfl, rfl, hb, hcase⟩ := hres.res HGD.out
          have HR4 := Sc.mk (HR3.out.bel hb)
          have HP4 := Sc.mk (HP3.out.bel hb)
          have HCA := Sc.mk hcase
          clear hres hb hcase p0 p1
          obtain ⟨p0, p1⟩ := cells_page HR4.out.cells
          go_upto_region 12 with fail
          go_cut [103] from 73 to 102 (fun s103 wx => s103 = .bool false ∧ Sc (Below w4.heap.size w4 wx))
          case first =>
            cases gd with
            | true =>
              obtain rfl : cw = 0 := HCW.out.1 rfl
              obtain ⟨rfl, hx4⟩ : ve = .nilIface ∧ RdB w4 (.slice Ax kx cx) (pageB n0 l0) := by
                rcases HCA.out with ⟨_, h, h'⟩ | ⟨h, _⟩
                · exact ⟨h, h'⟩
                · cases h
              have HX4 := Sc.mk hx4
              have HOK0 := Sc.mk (HGD.out.1 rfl)
              clear hx4
              go_wp2_with fail
              refine (pageCheckR_any f _ n0 _ l0 (HS.out.bel HR4.out.below).errs HR4.out.rd (by rw [HN0.out]; omega)).mono ?_
              rintro e w5 ⟨hres, hb⟩
              have hres' : e = .returned .nilIface := by
                rcases hres with ⟨_, he⟩ | ⟨hno, _⟩
                · exact he
                · exact absurd HOK0.out hno
              subst hres'
              have HB5 := Sc.mk hb
              clear hres hb p0 p1
              go_wp2_with fail
              refine (is_any (f := f) (w := w5) ErrIs.ok).mono ?_
              rintro e w6 ⟨rfl, hb⟩
              have HB6 : Sc (Below w4.heap.size w4 w6) := ⟨below_down HB5.out hb⟩
              clear hb
              go_wp2_with fail
              refine (is_any (f := f) (w := w6) ErrIs.ok).mono ?_
              rintro e w7 ⟨rfl, hb⟩
              have HB7 : Sc (Below w4.heap.size w4 w7) := ⟨below_down HB6.out hb⟩
              have HR7 := Sc.mk (HR4.out.bel HB7.out)
              clear hb
              obtain ⟨p0, p1⟩ := cells_page HR7.out.cells
              go_wp2_with fail
              refine (refPageBR_any _ n0 _ l0 HR7.out.rd HOK0.out.2.2.1).mono ?_
              rintro e w8 ⟨vy, rfl, hoy, hb⟩
              have HB8 : Sc (Below w4.heap.size w4 w8) := ⟨below_down HB7.out hb⟩
              have HY8 := Sc.mk hoy.rd
              have HX8 := Sc.mk (HX4.out.bel HB8.out)
              clear hb hoy p0 p1
              go_wp2_with fail
              refine (bytesSame_any _ _ _ (pageB n0 l0) (pageB n0 l0) HX8.out HY8.out (by rw [pageB_length]; omega) (by rw [pageB_length]; omega)).mono ?_
              rw [decide_eq_true rfl]
              rintro e w9 ⟨rfl, hb⟩
              have HB9 : Sc (Below w4.heap.size w4 w9) := ⟨below_down HB8.out hb⟩
              clear hb
              go_wp2_with fail
              go_meet
              case rel => exact ⟨rfl, HB9⟩
            | false =>
              obtain rfl : cw = 102 := HCW.out.2 rfl
              obtain ⟨rfl, hx4⟩ : ve = errV (f 1) ∧ Value.slice Ax kx cx = .slice none 0 0 := by
                rcases HCA.out with ⟨h, _⟩ | ⟨_, h, h'⟩
                · cases h
                · exact ⟨h, h'⟩
              obtain rfl : kx = 0 := by injection hx4
              have HOK0 : Sc (¬ OkP n0 l0) := ⟨fun h => by have := HGD.out.2 h; cases this⟩
              clear hx4
              go_wp2_with fail
              refine (pageCheckR_any f _ n0 _ l0 (HS.out.bel HR4.out.below).errs HR4.out.rd (by rw [HN0.out]; omega)).mono ?_
              rintro e w5 ⟨hres, hb⟩
              have hres' : e = .returned (errV (f 1)) := by
                rcases hres with ⟨hok, _⟩ | ⟨_, he⟩
                · exact absurd hok HOK0.out
                · exact he
              subst hres'
              have HB5 := Sc.mk hb
              clear hres hb p0 p1
              go_wp2_with fail
              refine (isE w5 1 102 (by omega) ((HS.out.bel HR4.out.below).bel HB5.out) rfl).mono ?_
              rintro e w6 ⟨rfl, hb⟩
              have HB6 : Sc (Below w4.heap.size w4 w6) := ⟨below_down HB5.out hb⟩
              clear hb
              go_wp2_with fail
              refine (isE w6 1 102 (by omega) ((HS.out.bel HR4.out.below).bel HB6.out) rfl).mono ?_
              rintro e w7 ⟨rfl, hb⟩
              have HB7 : Sc (Below w4.heap.size w4 w7) := ⟨below_down HB6.out hb⟩
              clear hb
              go_wp2_with fail
              go_meet
              case rel => exact ⟨rfl, HB7⟩
          case rest =>
            obtain ⟨rfl, HBC⟩ := hcut
            have HP5 := Sc.mk (HP4.out.bel HBC.out)
            clear p0 p1 HCA HR4 HR3 HR2 HR1 HR0
            obtain ⟨q0, q1⟩ := cells_page HP5.out.cells
            go_wp2_with fail
            refine (refPageB_any _ w.heap.size n _ l HP5.out.own HL.out).mono ?_
            rintro e w6 ⟨vc, rfl, hoc, hb⟩
            have HC6 := Sc.mk hoc.rd
            have HP6 := Sc.mk (HP5.out.bel hb)
            obtain ⟨Ac, cc, rfl⟩ := HC6.out.slice
            rw [pageB_length] at HC6 ⊢
            clear hb hoc q0 q1
            go_wp2_with fail
            refine (bytesCopy_any _ _ (pageB n l) HC6.out (by rw [pageB_length]; omega)).mono ?_
            rintro e w7 ⟨vd, rfl, hod, hb⟩
            obtain ⟨gq, cd, rfl, hgq, _, _, _⟩ := hod.form (by rw [pageB_length]; omega)
            rw [pageB_length] at hod ⊢
            have HC7 := Sc.mk (HC6.out.bel hb)
            have HP7 := Sc.mk (HP6.out.bel hb)
            obtain ⟨k, hk⟩ : ∃ k : Nat, at0 % 256 = (k : Int) := ⟨(at0 % 256).toNat, by omega⟩
            have hk256 : k < 256 := by omega
            have hki : (k : Int) < 256 := by omega
            have HK := Sc.mk hk
            obtain ⟨x, hx⟩ : ∃ x, (pageB n l)[k]? = some x := ⟨_, List.getElem?_eq_getElem (by rw [pageB_length]; exact hk256)⟩
            have c1 := hod.cellB hx
            have z1 := hod.unfrozen k
            obtain ⟨y, hy⟩ : ∃ y, bits BinOp.xor IntKind.u8 x by0 = y := ⟨_, rfl⟩
            have HY : Sc (Byt ((pageB n l).set k y)) := ⟨fun z hz => by
              rcases List.mem_or_eq_of_mem_set hz with h | h
              · exact pageB_byt n l z h
              · rw [h, ← hy]; exact u8_rng x by0⟩
            have HD8 := Sc.mk (hod.setB y hx).rd
            have HP8 : Sc (PageVar w (w7.setCell ⟨gq, k, none⟩ (.int .u8 y)) bp n (.slice A s c) l) := ⟨HP7.out.store (by have := heap_lt HP6.out.cells; omega) (fun he => by have := (HP6.out.own.lt _ he).2; omega) (by have := HP6.out.below.size; omega)⟩
            have HBB8 := Sc.mk (HBB.out.bel HP8.out.below)
            have HC8 : Sc (RdB (w7.setCell ⟨gq, k, none⟩ (.int .u8 y)) (.slice Ac 256 cc) (pageB n l)) := ⟨by
              have hb' : Below w6.heap.size w6 (w7.setCell ⟨gq, k, none⟩ (.int .u8 y)) := hb.setCell hgq _
              exact HC6.out.bel hb'⟩
            clear hb hod hk hx hgq
            go_wp2_with fail
            refine (number_is at0 256 (k : Int) _ HK.out (by omega) (by omega)).mono ?_
            rintro e w7' ⟨rfl, rfl⟩
            go_wp2_with fail
            clear hy c1 z1
            refine (refFill_any _ _ lb 256 256 HBB8.out rfl (by rw [HNb.out]; omega) (by omega)).mono ?_
            rintro e w9 ⟨vF, rfl, hoF, hb⟩
            have HF9 := Sc.mk hoF.rd
            obtain ⟨lF, hlF⟩ : ∃ lF, lb ++ List.replicate (256 - lb.length) (0 : Int) = lF := ⟨_, rfl⟩
            have HYF : Sc (Byt lF ∧ lF.length ≤ 1000) := ⟨by
              subst hlF
              refine ⟨fun z hz => ?_, by rw [List.length_append, List.length_replicate, HNb.out]; omega⟩
              rcases List.mem_append.1 hz with h | h
              · exact HYB.out z h
              · have := List.eq_of_mem_replicate h; omega⟩
            rw [hlF] at HF9
            obtain ⟨AF, cF, rfl⟩ := HF9.out.slice
            have HP9 := Sc.mk ((HP8.out.bel hb).alloc (.cells #[.slice Ab Nb cb, .slice AF lF.length cF, .slice Ac 256 cc, .slice (some ⟨gq, 0, none⟩) 256 cd] 61))
            have hall := heap_alloc_new w9 (.cells #[.slice Ab Nb cb, .slice AF lF.length cF, .slice Ac 256 cc, .slice (some ⟨gq, 0, none⟩) 256 cd] 61)
            obtain ⟨wv, hwv⟩ : ∃ wv, w9.alloc (.cells #[.slice Ab Nb cb, .slice AF lF.length cF, .slice Ac 256 cc, .slice (some ⟨gq, 0, none⟩) 256 cd] 61) = wv := ⟨_, rfl⟩
            obtain ⟨bv, hbv⟩ : ∃ b, w9.heap.size = b := ⟨_, rfl⟩
            have hbe : Below w9.heap.size w9 wv := hwv ▸ (Below.refl _ _).alloc (Nat.le_refl _) _
            rw [hwv] at HP9 hall
            rw [hbv] at hall
            have HV : Sc (∀ i, i < 4 → ∃ (A' : Option Addr) (k' c' : Nat) (li : List Int), wv.cell? ⟨bv, i, none⟩ = some (.slice A' k' c') ∧ RdB wv (.slice A' k' c') li ∧ Byt li ∧ li.length ≤ 1000) := ⟨fun i hi => by
              match i, hi with
              | 0, _ => exact ⟨_, _, _, lb, by simp [World.cell?, hall], (HBB8.out.bel hb).bel hbe, HYB.out, by rw [HNb.out]; omega⟩
              | 1, _ => exact ⟨_, _, _, lF, by simp [World.cell?, hall], HF9.out.bel hbe, HYF.out.1, HYF.out.2⟩
              | 2, _ => exact ⟨_, _, _, pageB n l, by simp [World.cell?, hall], (HC8.out.bel hb).bel hbe, pageB_byt n l, by rw [pageB_length]; omega⟩
              | 3, _ => exact ⟨_, _, _, (pageB n l).set k y, by simp [World.cell?, hall], (HD8.out.bel hb).bel hbe, HY.out, by rw [List.length_set, pageB_length]; omega⟩
              | i + 4, hi => exact absurd hi (by omega)⟩
            clear hlF hoF hall hb hbe
            go_wp2_with fail
            clear hwv hbv
            go_loopg [14, 24] 4 (fun kx s14 s24 wr => ∃ i : Nat, s14 = .bool false ∧ s24 = .int .i64 i ∧ i ≤ 4 ∧ 4 - i ≤ kx ∧ Sc (Below wv.heap.size wv wr))
            case atStart => exact ⟨0, rfl, rfl, by omega, by omega, ⟨Below.refl _ _⟩⟩
            case round =>
              obtain ⟨i, rfl, rfl, hi, hg, HB⟩ := hrel
              by_cases hlt : i < 4
              · have hil : (i : Int) < 4 := by omega
                obtain ⟨A', k', c', li, hcl, hrd, hyt, hln⟩ := HV.out i hlt
                have HP10 := Sc.mk (HP9.out.bel HB.out)
                have HCL := Sc.mk hcl
                have HRD := Sc.mk hrd
                have HYT := Sc.mk hyt
                have d0 := (HB.out.cell (World.block_lt_of_cell? _ _ hcl)).trans hcl
                clear hcl hrd hyt
                go_wp2_with fail
                refine (pageRead_any f _ _ li (HS.out.bel HP10.out.below).errs (HRD.out.bel HB.out) HYT.out (by omega)).mono ?_
                intro e w11 hres
                obtain ⟨u, code, ny, Ay, sy, cy, ly, rfl, hoy, hb, hrr, herr⟩ := hres.res
                have HB11 : Sc (Below wv.heap.size wv (w11.alloc (.cells #[.int .i64 ny, .slice Ay sy cy] 29))) := ⟨dn_alloc (below_down HB.out hb) _⟩
                have HY11 : Sc (PageVar w (w11.alloc (.cells #[.int .i64 ny, .slice Ay sy cy] 29)) w11.heap.size ny (.slice Ay sy cy) ly) := ⟨PageVar.of (below_down HP10.out.below hb) (hoy.mono HP10.out.below.size)⟩
                have HRR := Sc.mk hrr
                have HER := Sc.mk herr
                have d1 := (HB11.out.cell (World.block_lt_of_cell? _ _ HCL.out)).trans HCL.out
                clear hres hoy hb hrr herr d0
                go_wp2_with fail
                refine (refRead_any _ _ li (HRD.out.bel HB11.out) HYT.out (by omega)).mono ?_
                intro e w12 hres
                obtain ⟨code', nz, Az, sz, cz, lz, rfl, hoz, hb, hrr⟩ := hres.res
                obtain ⟨rfl, rfl, rfl⟩ := HRR.out.same hrr
                have HB12 : Sc (Below wv.heap.size wv (w12.alloc (.cells #[.int .i64 nz, .slice Az sz cz] 29))) := ⟨dn_alloc (below_down HB11.out hb) _⟩
                have HY12 := Sc.mk ((HY11.out.bel hb).alloc (.cells #[.int .i64 nz, .slice Az sz cz] 29))
                have HZ12 : Sc (PageVar w (w12.alloc (.cells #[.int .i64 nz, .slice Az sz cz] 29)) w12.heap.size nz (.slice Az sz cz) lz) := ⟨PageVar.of (HY11.out.bel hb).below (hoz.mono HY11.out.below.size)⟩
                have HLY := Sc.mk hrr.len
                clear hres hoz hb hrr d1
                obtain ⟨e0, e1⟩ := cells_page HY12.out.cells
                obtain ⟨e2, e3⟩ := cells_page HZ12.out.cells
                have l1 := heap_lt HY12.out.cells
                have l2 := heap_lt HZ12.out.cells
                go_wp2_with fail
                refine (samePage_refl _ w.heap.size w.heap.size nz _ _ lz HY12.out.own HZ12.out.own (by have := HLY.out; omega)).mono ?_
                rintro e w13 ⟨rfl, hb⟩
                have HB13 : Sc (Below wv.heap.size wv w13) := ⟨below_down HB12.out hb⟩
                clear hb e0 e1 e2 e3 l1 l2
                go_wp2_with fail
                refine (is_any (HER.out w13 (HS.out.bel (below_down HP9.out.below HB13.out)))).mono ?_
                rintro e w14 ⟨rfl, hb⟩
                have HB14 : Sc (Below wv.heap.size wv w14) := ⟨below_down HB13.out hb⟩
                clear hb
                go_wp2_with fail
                go_roundg (4 - (i + 1))
                case measure => omega
                case rel => exact ⟨i + 1, rfl, by go_num, by omega, Nat.le_refl _, HB14⟩
              · obtain rfl : i = 4 := by omega
                have HP10 := Sc.mk (HP9.out.bel HB.out)
                obtain ⟨yv, hyv⟩ : ∃ yv, (look l kd).getD 0 = yv := ⟨_, rfl⟩
                obtain ⟨bq, hbq⟩ : ∃ bq, has l kd = bq := ⟨_, rfl⟩
                obtain ⟨qn, hqn⟩ : ∃ qn, putN n l kd = qn := ⟨_, rfl⟩
                obtain ⟨ql, hql⟩ : ∃ ql, putL l kd v = ql := ⟨_, rfl⟩
                obtain ⟨qb, hqb⟩ : ∃ qb, decide (has l kd = true ∨ l.length < 20) = qb := ⟨_, rfl⟩
                obtain ⟨rl, hrl⟩ : ∃ rl, drop' l kd = rl := ⟨_, rfl⟩
                have HDF := Sc.mk (And.intro hyv (And.intro hbq (And.intro hqn (And.intro hql (And.intro hqb hrl)))))
                have HLQ : Sc (ql.length ≤ 1000 ∧ rl.length ≤ 1000) := ⟨by rw [← hql, ← hrl]; have := putL_length l kd v HL.out; have := drop'_length l kd; have := HL.out; omega⟩
                clear hyv hbq hqn hql hqb hrl
                obtain ⟨q0, q1⟩ := cells_page HP10.out.cells
                go_wp2_with fail
                refine (pageGet_any _ w.heap.size n _ l kd HP10.out.own HR.out (by have := HL.out; omega)).mono ?_
                rw [HDF.out.1, HDF.out.2.1]
                rintro e w11 ⟨rfl, hb⟩
                have HP11 := Sc.mk (HP10.out.bel hb)
                clear hb q0 q1
                obtain ⟨q0, q1⟩ := cells_page HP11.out.cells
                go_wp2_with fail
                refine (refFind_any _ w.heap.size n _ l kd HP11.out.own HR.out (by have := HL.out; omega)).mono ?_
                rw [HDF.out.1, HDF.out.2.1]
                rintro e w12 ⟨rfl, hb⟩
                have HP12 := Sc.mk (HP11.out.bel hb)
                clear hb q0 q1
                obtain ⟨q0, q1⟩ := cells_page HP12.out.cells
                go_wp2_with fail
                refine (pagePut_any _ w.heap.size n _ l kd v HP12.out.own HR.out (by have := HL.out; omega)).mono ?_
                intro e w13 hres
                have hres := hres.res
                rw [HDF.out.2.2.1, HDF.out.2.2.2.1, HDF.out.2.2.2.2.1] at hres
                obtain ⟨A1, s1, c1, rfl, ho, hb⟩ := hres
                have HP13 := Sc.mk ((HP12.out.bel hb).alloc (.cells #[.int .i64 qn, .slice A1 s1 c1] 29))
                have HQ13 : Sc (PageVar w (w13.alloc (.cells #[.int .i64 qn, .slice A1 s1 c1] 29)) w13.heap.size qn (.slice A1 s1 c1) ql) := ⟨PageVar.of (HP12.out.bel hb).below (ho.mono HP12.out.below.size)⟩
                clear ho hb q0 q1
                obtain ⟨q0, q1⟩ := cells_page HP13.out.cells
                have lp := heap_lt HP13.out.cells
                go_wp2_with fail
                refine (refPut_any _ w.heap.size n _ l kd v HP13.out.own HR.out (by have := HL.out; omega)).mono ?_
                intro e w14 hres
                have hres := hres.res
                rw [HDF.out.2.2.1, HDF.out.2.2.2.1, HDF.out.2.2.2.2.1] at hres
                obtain ⟨A2, s2, c2, rfl, ho, hb⟩ := hres
                have HP14 := Sc.mk ((HP13.out.bel hb).alloc (.cells #[.int .i64 qn, .slice A2 s2 c2] 29))
                have HQ14 := Sc.mk ((HQ13.out.bel hb).alloc (.cells #[.int .i64 qn, .slice A2 s2 c2] 29))
                have HR14 : Sc (PageVar w (w14.alloc (.cells #[.int .i64 qn, .slice A2 s2 c2] 29)) w14.heap.size qn (.slice A2 s2 c2) ql) := ⟨PageVar.of (HP13.out.bel hb).below (ho.mono HP13.out.below.size)⟩
                clear ho hb q0 q1 lp
                obtain ⟨q0, q1⟩ := cells_page HP14.out.cells
                have lp := heap_lt HP14.out.cells
                go_wp2_with fail
                refine (pageRemove_any _ w.heap.size n _ l kd HP14.out.own HR.out (by have := HL.out; omega)).mono ?_
                rw [HDF.out.2.1, HDF.out.2.2.2.2.2]
                rintro e w15 ⟨A3, s3, c3, rfl, ho, hb⟩
                have HP15 := Sc.mk ((HP14.out.bel hb).alloc (.cells #[.int .i64 n, .slice A3 s3 c3] 29))
                have HQ15 := Sc.mk ((HQ14.out.bel hb).alloc (.cells #[.int .i64 n, .slice A3 s3 c3] 29))
                have HR15 := Sc.mk ((HR14.out.bel hb).alloc (.cells #[.int .i64 n, .slice A3 s3 c3] 29))
                have HT15 : Sc (PageVar w (w15.alloc (.cells #[.int .i64 n, .slice A3 s3 c3] 29)) w15.heap.size n (.slice A3 s3 c3) rl) := ⟨PageVar.of (HP14.out.bel hb).below (ho.mono HP14.out.below.size)⟩
                clear ho hb q0 q1 lp
                obtain ⟨q0, q1⟩ := cells_page HP15.out.cells
                have lp := heap_lt HP15.out.cells
                go_wp2_with fail
                refine (refRemove_any _ w.heap.size n _ l kd HP15.out.own HR.out (by have := HL.out; omega)).mono ?_
                rw [HDF.out.2.1, HDF.out.2.2.2.2.2]
                rintro e w16 ⟨A4, s4, c4, rfl, ho, hb⟩
                have HQ16 := Sc.mk ((HQ15.out.bel hb).alloc (.cells #[.int .i64 n, .slice A4 s4 c4] 29))
                have HR16 := Sc.mk ((HR15.out.bel hb).alloc (.cells #[.int .i64 n, .slice A4 s4 c4] 29))
                have HT16 := Sc.mk ((HT15.out.bel hb).alloc (.cells #[.int .i64 n, .slice A4 s4 c4] 29))
                have HU16 : Sc (PageVar w (w16.alloc (.cells #[.int .i64 n, .slice A4 s4 c4] 29)) w16.heap.size n (.slice A4 s4 c4) rl) := ⟨PageVar.of (HP15.out.bel hb).below (ho.mono HP15.out.below.size)⟩
                clear ho hb q0 q1 lp
                obtain ⟨q0, q1⟩ := cells_page HQ16.out.cells
                obtain ⟨r0, r1⟩ := cells_page HR16.out.cells
                have lq := heap_lt HQ16.out.cells
                have lr := heap_lt HR16.out.cells
                go_wp2_with fail
                refine (samePage_refl _ w.heap.size w.heap.size qn _ _ ql HQ16.out.own HR16.out.own (by have := HLQ.out; omega)).mono ?_
                rintro e w17 ⟨rfl, hb⟩
                have HT17 := Sc.mk (HT16.out.bel hb)
                have HU17 := Sc.mk (HU16.out.bel hb)
                clear hb q0 q1 r0 r1 lq lr
                obtain ⟨q0, q1⟩ := cells_page HT17.out.cells
                obtain ⟨r0, r1⟩ := cells_page HU17.out.cells
                go_wp2_with fail
                refine (samePage_refl _ w.heap.size w.heap.size n _ _ rl HT17.out.own HU17.out.own (by have := HLQ.out; omega)).mono ?_
                rintro e w18 ⟨rfl, hb⟩
                have HB18 : Sc (Below w.heap.size w w18) := ⟨below_down HT17.out.below hb⟩
                clear hb q0 q1 r0 r1
                go_wp2_with fail
                go_ret
                exact ⟨rfl, HB18.out⟩
end Go.Proofs.YtmafogagkjafbaaDoor
