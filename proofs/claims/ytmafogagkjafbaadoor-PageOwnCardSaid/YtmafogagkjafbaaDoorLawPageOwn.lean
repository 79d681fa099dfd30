/- The walk of PageOwn: a page that was handed in stays as it was, whatever is done to what came of it. -/
import Derived.Test.YtmafogagkjafbaaDoorPVar
import Derived.Test.YtmafogagkjafbaaDoorFirst7
import Derived.Test.YtmafogagkjafbaaDoorPageC
import Derived.Test.YtmafogagkjafbaaDoorRef7B
import Derived.Test.YtmafogagkjafbaaDoorErrs3
namespace Go.Proofs.YtmafogagkjafbaaDoor
open Go.RowKit

/-- One cell of a page's row turned. -/
theorem PageVar.cell1 {w wx : World} {b g k c : Nat} {n : Int} {l : List (Int × Int)} (h : PageVar w wx b n (.slice (some ⟨g, 0, none⟩) k c) l) {i : Nat} {x : Int × Int} (hx : l[i]? = some x) (y : Int) : PageVar w (wx.setCell ⟨g, i * 2 + 1, none⟩ (.int .i64 y)) b n (.slice (some ⟨g, 0, none⟩) k c) (l.set i (x.1, y)) :=
  ⟨h.below.setCell (h.own.lt g rfl).1 _, h.new, (Below.heap_setCell _ _ _ _ (fun he => h.apart (by rw [he]; rfl))).trans h.cells, Own.set kind2 h.own (k := i) (j := 1) (x := x) (x' := (x.1, y)) (u := .int .i64 y) hx (by omega) rfl, h.apart⟩
theorem PageVar.cell0 {w wx : World} {b g k c : Nat} {n : Int} {l : List (Int × Int)} (h : PageVar w wx b n (.slice (some ⟨g, 0, none⟩) k c) l) {i : Nat} {x : Int × Int} (hx : l[i]? = some x) (y : Int) : PageVar w (wx.setCell ⟨g, i * 2, none⟩ (.int .i64 y)) b n (.slice (some ⟨g, 0, none⟩) k c) (l.set i (y, x.2)) :=
  ⟨h.below.setCell (h.own.lt g rfl).1 _, h.new, (Below.heap_setCell _ _ _ _ (fun he => h.apart (by rw [he]; rfl))).trans h.cells, Own.set kind2 h.own (k := i) (j := 0) (x := x) (x' := (y, x.2)) (u := .int .i64 y) hx (by omega) rfl, h.apart⟩
/-- What Read leaves, whichever it is. -/
theorem ReadLeft.any {f : Nat → Addr} {b : List Int} {w w' : World} {e : Ending} (h : ReadLeft f b w e w') :
    ∃ (u : Value) (n : Int) (A : Option Addr) (s c : Nat) (l : List (Int × Int)), e = .returned (.tuple #[aggP n (.slice A s c), u]) ∧ Own enc2 2 56 w.heap.size w' (.slice A s c) l ∧ Below w.heap.size w w' := by
  obtain ⟨h1, h2⟩ := h
  rcases h1 with ⟨_, rfl⟩ | ⟨_, _, A, k, c, rfl, ho⟩ | ⟨_, _, rfl⟩
  · exact ⟨_, _, _, _, _, [], rfl, Own.nil, h2⟩
  · exact ⟨_, _, _, _, _, _, rfl, ho, h2⟩
  · exact ⟨_, _, _, _, _, [], rfl, Own.nil, h2⟩
/-- The row of one lies in no block of another. -/
def Off (v : Value) (b : Nat) (u : Value) : Prop := ∀ g, v.ownBlock = some g → g ≠ b ∧ u.ownBlock ≠ some g
theorem Off.later {v u : Value} {b B : Nat} {w : World} {e : TypeId} {base : Nat} {l : List (Int × Int)} (hv : ∀ g, v.ownBlock = some g → g < B) (hb : B ≤ b) (hu : Own enc2 2 e base w u l) (hB : B ≤ base) : Off v b u := fun g hg => by
  have h1 := hv g hg
  exact ⟨by omega, fun he => by have := (hu.lt g he).1; omega⟩

set_option maxRecDepth 10000 in
set_option maxHeartbeats 2000000 in
theorem pageOwn_walk (a : Option Addr) (len cap : Nat) (zs : List Int) (key0 v : Int) (w : World) (hrow : IsRow .i64 w a len cap zs) (f : Nat → Addr) (hE : Errs w f) :
    Calls Tryd.prog 11 #[.slice a len cap, .int .i64 key0, .int .i64 v] w fun e w' => e = .returned (.bool true) ∧ Below w.heap.size w w' := by
  have HW := Sc.mk hrow
  have HE := Sc.mk hE
  clear hrow hE
  by_cases hbig : 100 < len
  · have hbig' : (100 : Int) < len := by omega
    clear HW
    go_enter Tryd.func11, Tryd.ntmps11
    go_wp2_with (go_at_call 28; refine (first7_any f _ HE.out).mono ?_; rintro e w1 ⟨rfl, hb⟩)
    go_ret
    exact ⟨rfl, hb⟩
  · have hbig' : ¬ (100 : Int) < len := by omega
    obtain ⟨key, hkd⟩ : ∃ kd, key0 % 60 = kd := ⟨_, rfl⟩
    have HKD := Sc.mk hkd
    clear hkd
    go_enter Tryd.func11, Tryd.ntmps11
    go_wp2_with fail
    refine (first7_any f _ HE.out).mono ?_
    rintro e w1 ⟨rfl, hb⟩
    have HB1 := Sc.mk hb
    clear hb
    go_wp2_with fail
    refine (makePage_any w _ _ a len cap zs 0 18 (SeqIs.made HW.out HB1.out) (by omega) (by omega)).mono ?_
    rintro e w2 ⟨n, l, A, s, c, k', rfl, hn1, hn50, hr, hl20, hl18, hrange, ho, hs, hk', hkp⟩
    have HP2 : Sc (PageVar w (w2.alloc (.cells #[.int .i64 n, .slice A s c] 29)) w2.heap.size n (.slice A s c) l) := ⟨PageVar.of (made_below HB1.out hkp rfl) (ho.mono (by have := HB1.out.size; simp; omega))⟩
    have HL := Sc.mk hl18
    have HR := Sc.mk hr
    clear ho hr hl20 hl18 hrange hs hk' hkp hn1 hn50
    obtain ⟨p0, p1⟩ := cells_page HP2.out.cells
    have lp := heap_lt HP2.out.cells
    go_wp2_with fail
    refine (pageCopy_any _ w.heap.size n _ l HP2.out.own (by have := HL.out; omega)).mono ?_
    rintro e w3 ⟨A3, s3, c3, rfl, ho, hb⟩
    have HP3 := Sc.mk ((HP2.out.bel hb).alloc (.cells #[.int .i64 n, .slice A3 s3 c3] 29))
    have HQ3 : Sc (PageVar w (w3.alloc (.cells #[.int .i64 n, .slice A3 s3 c3] 29)) w3.heap.size n (.slice A3 s3 c3) l) := ⟨PageVar.of (below_down HP2.out.below hb) (ho.mono HP2.out.below.size)⟩
    clear ho hb p0 p1 lp
    obtain ⟨W, hW⟩ : ∃ W, w3.alloc (.cells #[.int .i64 n, .slice A3 s3 c3] 29) = W := ⟨_, rfl⟩
    obtain ⟨b9, hb9⟩ : ∃ b9, w3.heap.size = b9 := ⟨_, rfl⟩
    obtain ⟨b8, hb8⟩ : ∃ b8, w2.heap.size = b8 := ⟨_, rfl⟩
    rw [hW, hb8] at HP3
    rw [hW, hb9] at HQ3
    go_wp2_with fail
    clear hW hb8 hb9
    clear HP2
    refine (number_is key0 60 key _ HKD.out (by omega) (by omega)).mono ?_
    rintro e w3' ⟨rfl, rfl⟩
    obtain ⟨p0, p1⟩ := cells_page HP3.out.cells
    go_wp2_with fail
    refine (pagePut_any _ w.heap.size n _ l key v HP3.out.own HR.out (by have := HL.out; omega)).mono ?_
    intro e w4 hp
    obtain ⟨bb, na, Aa, sa, ca, la, rfl, ho, hb, _⟩ := hp.any
    have HB4 := Sc.mk hb
    have HA4 : Sc (PageVar W (w4.alloc (.cells #[.int .i64 na, .slice Aa sa ca] 29)) w4.heap.size na (.slice Aa sa ca) la) := ⟨PageVar.of hb ho⟩
    have HLA : Sc (∀ g, (Value.slice Aa sa ca).ownBlock = some g → g < w4.heap.size) := ⟨fun g hg => (ho.lt g hg).2⟩
    clear hp ho hb p0 p1
    have HP5 := Sc.mk ((HP3.out.bel HB4.out).alloc (.cells #[.int .i64 na, .slice Aa sa ca] 29))
    have HBA : Sc (Below W.heap.size W (w4.alloc (.cells #[.int .i64 na, .slice Aa sa ca] 29))) := ⟨dn_alloc HB4.out _⟩
    obtain ⟨p0, p1⟩ := cells_page HP5.out.cells
    have lp := heap_lt HP5.out.cells
    go_wp2_with fail
    refine (pageRemove_any _ w.heap.size n _ l key HP5.out.own HR.out (by have := HL.out; omega)).mono ?_
    rintro e w5 ⟨Ab, sb, cb, rfl, ho, hb⟩
    have HB5 : Sc (Below W.heap.size W w5) := ⟨below_down HBA.out hb⟩
    have HA5 := Sc.mk ((HA4.out.bel hb).alloc (.cells #[.int .i64 n, .slice Ab sb cb] 29))
    have HV5 : Sc (PageVar W (w5.alloc (.cells #[.int .i64 n, .slice Ab sb cb] 29)) w5.heap.size n (.slice Ab sb cb) (drop' l key)) := ⟨PageVar.of HB5.out (ho.mono HBA.out.size)⟩
    have HAB : Sc (Off (.slice Aa sa ca) w5.heap.size (.slice Ab sb cb)) := ⟨Off.later HLA.out (by have := hb.size; simp at this; omega) ho (by simp)⟩
    have HP6 := Sc.mk ((HP5.out.bel hb).alloc (.cells #[.int .i64 n, .slice Ab sb cb] 29))
    have HLB : Sc (∀ g, (Value.slice Ab sb cb).ownBlock = some g → g < w5.heap.size) := ⟨fun g hg => (ho.lt g hg).2⟩
    have HBB : Sc (Below W.heap.size W (w5.alloc (.cells #[.int .i64 n, .slice Ab sb cb] 29))) := ⟨dn_alloc HB5.out _⟩
    clear ho hb p0 p1 lp
    obtain ⟨p0, p1⟩ := cells_page HP6.out.cells
    have lp := heap_lt HP6.out.cells
    go_wp2_with fail
    refine (refPageB_any _ w.heap.size n _ l HP6.out.own (by have := HL.out; omega)).mono ?_
    rintro e w6 ⟨vx, rfl, hox, hb⟩
    have HB6 : Sc (Below W.heap.size W w6) := ⟨below_down HBB.out hb⟩
    have HA6 := Sc.mk (HA5.out.bel hb)
    have HV6 := Sc.mk (HV5.out.bel hb)
    have HX6 := Sc.mk hox.rd
    have HP7 := Sc.mk (HP6.out.bel hb)
    clear hox hb p0 p1 lp
    go_wp2_with fail
    refine (pageRead_any f _ _ (pageB n l) (HE.out.bel HP7.out.below) HX6.out (pageB_byt _ _) (by rw [pageB_length]; omega)).mono ?_
    intro e w7 hp
    obtain ⟨u, nc, Ac, sc, cc, lc, rfl, ho, hb⟩ := hp.any
    have HB7 : Sc (Below W.heap.size W w7) := ⟨below_down HB6.out hb⟩
    have HA7 := Sc.mk ((HA6.out.bel hb).alloc (.cells #[.int .i64 nc, .slice Ac sc cc] 29))
    have HV7 := Sc.mk ((HV6.out.bel hb).alloc (.cells #[.int .i64 nc, .slice Ac sc cc] 29))
    have HC7 : Sc (PageVar W (w7.alloc (.cells #[.int .i64 nc, .slice Ac sc cc] 29)) w7.heap.size nc (.slice Ac sc cc) lc) := ⟨PageVar.of HB7.out (ho.mono HB6.out.size)⟩
    have HAC : Sc (Off (.slice Aa sa ca) w7.heap.size (.slice Ac sc cc)) := ⟨Off.later HLA.out (by have := HA6.out.new; have := heap_lt HA6.out.cells; have := hb.size; omega) ho (by have := heap_lt HA6.out.cells; omega)⟩
    have HBC : Sc (Off (.slice Ab sb cb) w7.heap.size (.slice Ac sc cc)) := ⟨Off.later HLB.out (by have := heap_lt HV6.out.cells; have := hb.size; omega) ho (by have := heap_lt HV6.out.cells; omega)⟩
    clear hp ho hb
    obtain ⟨W8, hW8⟩ : ∃ W8, w7.alloc (.cells #[.int .i64 nc, .slice Ac sc cc] 29) = W8 := ⟨_, rfl⟩
    obtain ⟨ba, hba⟩ : ∃ ba, w4.heap.size = ba := ⟨_, rfl⟩
    obtain ⟨bb, hbb⟩ : ∃ bb, w5.heap.size = bb := ⟨_, rfl⟩
    obtain ⟨bc, hbc⟩ : ∃ bc, w7.heap.size = bc := ⟨_, rfl⟩
    rw [hW8, hba] at HA7
    rw [hW8, hbb] at HV7
    rw [hW8, hbc] at HC7
    rw [hbb] at HAB
    rw [hbc] at HAC HBC
    go_wp2_with fail
    clear hW8 hba hbb hbc
    go_loopg [16] sa (fun kx s16 wr => ∃ (i : Nat) (l' : List (Int × Int)), s16 = .int .i64 i ∧ i ≤ sa ∧ sa - i ≤ kx ∧ Sc (PageVar W wr ba na (.slice Aa sa ca) l') ∧ Sc (PageVar W wr bb n (.slice Ab sb cb) (drop' l key)) ∧ Sc (PageVar W wr bc nc (.slice Ac sc cc) lc))
    case atStart => exact ⟨0, la, rfl, by omega, by omega, HA7, HV7, HC7⟩
    case round =>
      obtain ⟨i, l', rfl, hi, hg, HA, HV, HC⟩ := hrel
      obtain ⟨e0, e1⟩ := cells_page HA.out.cells
      by_cases hlt : i < sa
      · have hln := HA.out.own.len
        obtain ⟨g, cq, he, _, _, hcq, hcm⟩ := HA.out.own.form (by omega)
        have hs63 : sa ≤ 9223372036854775807 := by unfold maxLen at hcm; omega
        injection he with hA hK hC
        obtain ⟨x, hx⟩ : ∃ x, l'[i]? = some x := ⟨_, List.getElem?_eq_getElem (by omega)⟩
        subst hA
        obtain ⟨d0, d1⟩ := HA.out.own.cells2 hx
        have z1 := HA.out.own.unfrozen (i * 2 + 1)
        have hil : (i : Int) < sa := by omega
        have HX := Sc.mk hx
        clear hx hln hK hC hcq hcm
        go_wp2
        go_roundg (sa - (i + 1))
        case measure => omega
        case rel => exact ⟨i + 1, _, by go_num, by omega, Nat.le_refl _, ⟨HA.out.cell1 HX.out 77⟩, ⟨HV.out.store (HAB.out g rfl).1 (HAB.out g rfl).2 (HA.out.own.lt g rfl).1⟩, ⟨HC.out.store (HAC.out g rfl).1 (HAC.out g rfl).2 (HA.out.own.lt g rfl).1⟩⟩
      · obtain rfl : sa = i := by omega
        go_wp2_with fail
        clear e0 e1 HA
        go_loopg [17] sb (fun kx s17 wr => ∃ (i : Nat) (l' : List (Int × Int)), s17 = .int .i64 i ∧ i ≤ sb ∧ sb - i ≤ kx ∧ Sc (PageVar W wr bb n (.slice Ab sb cb) l') ∧ Sc (PageVar W wr bc nc (.slice Ac sc cc) lc))
        case atStart => exact ⟨0, drop' l key, rfl, by omega, by omega, HV, HC⟩
        case round =>
          obtain ⟨i, l', rfl, hi, hg, HA, HC⟩ := hrel
          obtain ⟨e0, e1⟩ := cells_page HA.out.cells
          by_cases hlt : i < sb
          · have hln := HA.out.own.len
            obtain ⟨g, cq, he, _, _, hcq, hcm⟩ := HA.out.own.form (by omega)
            have hs63 : sb ≤ 9223372036854775807 := by unfold maxLen at hcm; omega
            injection he with hA hK hC
            obtain ⟨x, hx⟩ : ∃ x, l'[i]? = some x := ⟨_, List.getElem?_eq_getElem (by omega)⟩
            subst hA
            obtain ⟨d0, d1⟩ := HA.out.own.cells2 hx
            have z1 := HA.out.own.unfrozen (i * 2 + 1)
            have hil : (i : Int) < sb := by omega
            have HX := Sc.mk hx
            clear hx hln hK hC hcq hcm
            go_wp2
            go_roundg (sb - (i + 1))
            case measure => omega
            case rel => exact ⟨i + 1, _, by go_num, by omega, Nat.le_refl _, ⟨HA.out.cell1 HX.out 78⟩, ⟨HC.out.store (HBC.out g rfl).1 (HBC.out g rfl).2 (HA.out.own.lt g rfl).1⟩⟩
          · obtain rfl : sb = i := by omega
            go_wp2_with fail
            clear e0 e1 HA
            go_loopg [18] sc (fun kx s18 wr => ∃ (i : Nat) (l' : List (Int × Int)), s18 = .int .i64 i ∧ i ≤ sc ∧ sc - i ≤ kx ∧ Sc (PageVar W wr bc nc (.slice Ac sc cc) l'))
            case atStart => exact ⟨0, lc, rfl, by omega, by omega, HC⟩
            case round =>
              obtain ⟨i, l', rfl, hi, hg, HA⟩ := hrel
              obtain ⟨e0, e1⟩ := cells_page HA.out.cells
              by_cases hlt : i < sc
              · have hln := HA.out.own.len
                obtain ⟨g, cq, he, _, _, hcq, hcm⟩ := HA.out.own.form (by omega)
                have hs63 : sc ≤ 9223372036854775807 := by unfold maxLen at hcm; omega
                injection he with hA hK hC
                obtain ⟨x, hx⟩ : ∃ x, l'[i]? = some x := ⟨_, List.getElem?_eq_getElem (by omega)⟩
                subst hA
                obtain ⟨d0, d1⟩ := HA.out.own.cells2 hx
                have z1 := HA.out.own.unfrozen (i * 2)
                have hil : (i : Int) < sc := by omega
                have HX := Sc.mk hx
                clear hx hln hK hC hcq hcm
                go_wp2
                go_roundg (sc - (i + 1))
                case measure => omega
                case rel => exact ⟨i + 1, _, by go_num, by omega, Nat.le_refl _, ⟨HA.out.cell0 HX.out 79⟩⟩
              · obtain rfl : sc = i := by omega
                have HBZ : Sc (Below W.heap.size W wr) := ⟨HA.out.below⟩
                have HPZ := Sc.mk (HP3.out.bel HBZ.out)
                have HQZ := Sc.mk (HQ3.out.bel HBZ.out)
                obtain ⟨p0, p1⟩ := cells_page HPZ.out.cells
                obtain ⟨q0, q1⟩ := cells_page HQZ.out.cells
                go_wp2_with fail
                refine (samePage_refl _ w.heap.size w.heap.size n _ _ l HPZ.out.own HQZ.out.own (by have := HL.out; omega)).mono ?_
                rintro e w9 ⟨rfl, hb⟩
                have HB9 : Sc (Below w.heap.size w w9) := ⟨below_down HPZ.out.below hb⟩
                clear hb p0 p1 q0 q1
                go_wp2_with fail
                go_ret
                exact ⟨rfl, HB9.out⟩
end Go.Proofs.YtmafogagkjafbaaDoor
