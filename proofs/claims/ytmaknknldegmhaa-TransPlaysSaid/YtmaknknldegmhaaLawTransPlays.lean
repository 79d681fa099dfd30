/- The walk of TransPlays: whatever begins, is put in, noted, dropped, the table and the document's table tell the same. -/
import Derived.Test.YtmaknknldegmhaaTwoT
import Derived.Deep.CutRange
import Derived.Deep.CutBlock
namespace Go.Proofs.Ytmaknknldegmhaa
open Go.RowKit

theorem txnSame1_refl (x : TX) (w : World) :
    Calls Try.prog 42 #[.agg #[.int .i64 x.1, .int .i64 x.2.1, .int .i64 x.2.2.1, .int .i64 x.2.2.2], .agg #[.int .i64 x.1, .int .i64 x.2.1, .int .i64 x.2.2.1, .int .i64 x.2.2.2]] w fun e w' => e = .returned (.bool true) ∧ Below w.heap.size w w' :=
  (txnSame1_any x x w).mono fun e w' ⟨he, hb⟩ => ⟨by rw [he, decide_eq_true rfl], hb⟩

set_option maxRecDepth 4000 in
set_option maxHeartbeats 8000000 in
theorem transPlays_walk (a0 : Option Addr) (len0 cap0 : Nat) (w : World) (w0 : IsRecs 4 w a0 len0) :
    Calls Try.prog 11 #[.slice a0 len0 cap0] w fun e w' => e = .returned (.bool true) ∧ Below w.heap.size w w' := by
  by_cases hbig : 80 < len0
  · clear w0
    go_enter Try.func11, Try.ntmps11
    go_wp2_with (go_at_call 18; refine (txnFirst0_any _).mono ?_; rintro e w1 ⟨rfl, hb⟩)
    go_ret
    exact ⟨rfl, hb⟩
  · have hle : len0 ≤ 80 := by omega
    clear hbig
    have HW := Sc.mk w0
    clear w0
    go_enter Try.func11, Try.ntmps11
    go_wp2_with (go_at_call 18; refine (txnFirst0_any _).mono ?_; rintro e w1 ⟨rfl, hb⟩; have HB1 := Sc.mk hb; clear hb)
    go_loopg [6] len0 (fun kx s6 wr => ∃ (i : Nat) (l : List TX) (m : Int), s6 = .int .i64 i ∧ i ≤ len0 ∧ len0 - i ≤ kx ∧ Sc (l.length ≤ i ∧ 0 ≤ m) ∧ Sc (StTR w1 wr w1.heap.size (w1.heap.size + 1) l m l m))
    case atStart => exact ⟨0, [], 0, rfl, by omega, by omega, ⟨by simp⟩, ⟨StTR.new w1⟩⟩
    case round =>
      obtain ⟨i, l, m, rfl, hi, hg, HLI, HS⟩ := hrel
      by_cases hlt : i < len0
      · obtain ⟨b, off, rfl, hbw, z, hz⟩ := HW.out.at (by omega)
        have HZ : Sc (∀ j, j < 4 → w.cell? ⟨b, off + i * 4 + j, none⟩ = some (.int .i64 (z i j))) := ⟨hz i hlt⟩
        obtain ⟨zk, zi, za, zb, HZ2⟩ : ∃ zk zi za zb, Sc (w.cell? ⟨b, off + i * 4, none⟩ = some (.int .i64 zk) ∧ w.cell? ⟨b, off + i * 4 + 1, none⟩ = some (.int .i64 zi) ∧ w.cell? ⟨b, off + i * 4 + 2, none⟩ = some (.int .i64 za) ∧ w.cell? ⟨b, off + i * 4 + 3, none⟩ = some (.int .i64 zb)) := ⟨_, _, _, _, ⟨HZ.out 0 (by omega), HZ.out 1 (by omega), HZ.out 2 (by omega), HZ.out 3 (by omega)⟩⟩
        have HCD : Sc (∀ W, Below w1.heap.size w1 W → W.cell? ⟨b, off + i * 4, none⟩ = some (.int .i64 zk) ∧ W.cell? ⟨b, off + i * 4 + 1, none⟩ = some (.int .i64 zi) ∧ W.cell? ⟨b, off + i * 4 + 2, none⟩ = some (.int .i64 za) ∧ W.cell? ⟨b, off + i * 4 + 3, none⟩ = some (.int .i64 zb)) := ⟨fun W hb => ⟨cell_down HB1.out hb HZ2.out.1, cell_down HB1.out hb HZ2.out.2.1, cell_down HB1.out hb HZ2.out.2.2.1, cell_down HB1.out hb HZ2.out.2.2.2⟩⟩
        obtain ⟨c0, c1, c2, c3⟩ := HCD.out _ HS.out.below
        have hil : (i : Int) < len0 := by omega
        have HLL : Sc (l.length ≤ 1000000) := ⟨by have := HLI.out.1; omega⟩
        have HSL : Sc (∀ x : TX, (setIn l x).length ≤ i + 1) := ⟨fun x => by have := setIn_length l x; have := HLI.out.1; omega⟩
        have ha1 : 0 ≤ za % 3 := by omega
        have ha2 : za % 3 < 3 := by omega
        clear hz HZ
        go_upto_if 42 with (go_at_call 14; refine (number_any _ 12 _ (by omega) (by omega)).mono ?_; rintro e w2 ⟨rfl, rfl⟩)
        go_cut [7] from 30 to 49 (fun s7 wx => (∃ p : Int, s7 = .int .i64 p) ∧ wr = wx)
        case first =>
          go_wp2_with (go_at_call 14; refine (number_any _ 3 _ (by omega) (by omega)).mono ?_; rintro e w2 ⟨rfl, rfl⟩)
          all_goals
            go_meet
            case rel => exact ⟨⟨_, rfl⟩, rfl⟩
        case rest =>
          obtain ⟨⟨p, rfl⟩, rfl⟩ := hcut
          go_upto_block 2 with (go_at_call 14; refine (number_any _ 7 _ (by omega) (by omega)).mono ?_; rintro e w2 ⟨rfl, rfl⟩)
          go_cut [8, 9, 10, 11, 12] from 50 to 153 (fun s8 s9 s10 s11 s12 wx => ∃ (L : List TX) (M : Int), Sc (StTR w1 wx w1.heap.size (w1.heap.size + 1) L M L M) ∧ Sc (L.length ≤ i + 1 ∧ 0 ≤ M))
          case first =>
            obtain ⟨kk, hkk⟩ : ∃ kk, zk % 7 = kk := ⟨_, rfl⟩
            rw [hkk]
            have h7 : kk = 0 ∨ kk = 1 ∨ kk = 2 ∨ kk = 3 ∨ kk = 4 ∨ kk = 5 ∨ kk = 6 := by omega
            have HSD := Sc.mk (HS.out.bel (Below.refl _ _).drew)
            clear hkk
            rcases h7 with rfl | rfl | rfl | rfl | rfl | rfl | rfl
            · by_cases hM : m < 60000
              · go_wp2_with (first | (go_at_call 22; refine (StTR.viaT HS.out (fun row ht => txnBegin_yes _ _ row l m ht HLL.out HLI.out.2 hM)).mono ?_; rintro e w3 ⟨rfl, hs⟩; have HS3 := Sc.mk hs; clear hs) | (go_at_call 35; refine (StTR.viaR HS3.out (fun row ht => rBegin_yes _ _ row l m ht HLL.out HLI.out.2 hM)).mono ?_; rintro e w4 ⟨rfl, hs⟩; have HS4 := Sc.mk hs; clear hs))
                go_meet
                case rel => exact ⟨_, _, HS4, ⟨by have := setIn_length l (m + 1, 0, 0, 0); have := HLI.out.1; omega, by have := HLI.out.2; omega⟩⟩
              · have hM2 : 60000 ≤ m := by omega
                have HM2 := Sc.mk hM2
                clear hM hM2
                go_wp2_with (first | (go_at_call 22; refine (StTR.viaT HS.out (fun row ht => (txnBegin_no _ _ row l m ht HM2.out).mono fun e w3 ⟨he, hw⟩ => ⟨he, by subst hw; exact LeftT.same ht (Below.refl _ _)⟩)).mono ?_; rintro e w3 ⟨rfl, hs⟩; have HS3 := Sc.mk hs; clear hs) | (go_at_call 35; refine (StTR.viaR HS3.out (fun row ht => (rBegin_no _ _ row l m ht HM2.out).mono fun e w3 ⟨he, hw⟩ => ⟨he, by subst hw; exact RLeftT.same ht (Below.refl _ _)⟩)).mono ?_; rintro e w4 ⟨rfl, hs⟩; have HS4 := Sc.mk hs; clear hs))
                go_meet
                case rel => exact ⟨_, _, HS4, ⟨by have := HLI.out.1; omega, HLI.out.2⟩⟩
            · by_cases hM : m < 60000
              · go_wp2_with (first | (go_at_call 22; refine (StTR.viaT HS.out (fun row ht => txnBegin_yes _ _ row l m ht HLL.out HLI.out.2 hM)).mono ?_; rintro e w3 ⟨rfl, hs⟩; have HS3 := Sc.mk hs; clear hs) | (go_at_call 35; refine (StTR.viaR HS3.out (fun row ht => rBegin_yes _ _ row l m ht HLL.out HLI.out.2 hM)).mono ?_; rintro e w4 ⟨rfl, hs⟩; have HS4 := Sc.mk hs; clear hs))
                go_meet
                case rel => exact ⟨_, _, HS4, ⟨by have := setIn_length l (m + 1, 0, 0, 0); have := HLI.out.1; omega, by have := HLI.out.2; omega⟩⟩
              · have hM2 : 60000 ≤ m := by omega
                have HM2 := Sc.mk hM2
                clear hM hM2
                go_wp2_with (first | (go_at_call 22; refine (StTR.viaT HS.out (fun row ht => (txnBegin_no _ _ row l m ht HM2.out).mono fun e w3 ⟨he, hw⟩ => ⟨he, by subst hw; exact LeftT.same ht (Below.refl _ _)⟩)).mono ?_; rintro e w3 ⟨rfl, hs⟩; have HS3 := Sc.mk hs; clear hs) | (go_at_call 35; refine (StTR.viaR HS3.out (fun row ht => (rBegin_no _ _ row l m ht HM2.out).mono fun e w3 ⟨he, hw⟩ => ⟨he, by subst hw; exact RLeftT.same ht (Below.refl _ _)⟩)).mono ?_; rintro e w4 ⟨rfl, hs⟩; have HS4 := Sc.mk hs; clear hs))
                go_meet
                case rel => exact ⟨_, _, HS4, ⟨by have := HLI.out.1; omega, HLI.out.2⟩⟩
            · have hbr : b < wr.heap.size := World.block_lt_of_cell? wr _ c0
              go_wp2_with fail
              go_region
              go_wp2_with fail
              refine (StTR.boxT HSD.out (fun row ht => txnAdd_any _ _ row l m (p, _, za, zb) ht HLL.out)).mono ?_
              rintro e w3 ⟨rfl, hs, hbx⟩
              rw [heap_alloc_new] at hbx
              obtain ⟨q0, q1, q2, q3⟩ := box_cells (b := wr.heap.size) (x := (p, _, za, zb)) hbx
              have HS3 := Sc.mk hs
              clear hs hbx
              go_wp2_with fail
              refine (StTR.viaR HS3.out (fun row ht => rAddT_any _ _ row l m (p, _, za, zb) ht HLL.out)).mono ?_
              rintro e w4 ⟨rfl, hs⟩
              have HS4 := Sc.mk hs
              clear hs q0 q1 q2 q3
              go_wp2_with fail
              go_meet
              case rel => exact ⟨_, _, HS4, ⟨HSL.out _, by have := HLI.out.2; omega⟩⟩
            · go_wp2_with fail
              go_region_held3 (fun W => W.cell? ⟨b, off + i * 4 + 2, none⟩ = some (.int .i64 za) ∧ W.cell? ⟨b, off + i * 4 + 3, none⟩ = some (.int .i64 zb)) (first | exact ⟨(HCD.out _ HSD.out.below).2.2.1, (HCD.out _ HSD.out.below).2.2.2⟩ | exact ⟨(HCD.out _ HS3.out.below).2.2.1, (HCD.out _ HS3.out.below).2.2.2⟩ | exact ⟨(HCD.out _ HS4.out.below).2.2.1, (HCD.out _ HS4.out.below).2.2.2⟩)
              (first
                | (go_at_call 25; refine (StTR.viaT HSD.out (fun row ht => txnNote_any _ _ row l m _ _ _ ht HLL.out)).mono ?_; rintro e w3 ⟨rfl, hs⟩; have HS3 := Sc.mk hs; clear hs)
                | (go_at_call 37; refine (StTR.viaR HS3.out (fun row ht => rNoteT_any _ _ row l m _ _ _ ht HLL.out)).mono ?_; rintro e w4 ⟨rfl, hs⟩; have HS4 := Sc.mk hs; clear hs))
              all_goals
                go_wp2_with fail
                go_meet
                case rel => exact ⟨_, _, HS4, ⟨by rw [upd_length]; have := HLI.out.1; omega, HLI.out.2⟩⟩
            · go_wp2_with fail
              go_region_held3 (fun W => W.cell? ⟨b, off + i * 4 + 2, none⟩ = some (.int .i64 za)) (first | exact (HCD.out _ HSD.out.below).2.2.1 | exact (HCD.out _ HS3.out.below).2.2.1 | exact (HCD.out _ HS4.out.below).2.2.1)
              (first
                | (go_at_call 27; refine (StTR.viaT HSD.out (fun row ht => txnState_any _ _ row l m _ _ ht HLL.out)).mono ?_; rintro e w3 ⟨rfl, hs⟩; have HS3 := Sc.mk hs; clear hs)
                | (go_at_call 38; refine (StTR.viaR HS3.out (fun row ht => rStateT_any _ _ row l m _ _ ht HLL.out)).mono ?_; rintro e w4 ⟨rfl, hs⟩; have HS4 := Sc.mk hs; clear hs))
              all_goals
                go_wp2_with fail
                go_meet
                case rel => exact ⟨_, _, HS4, ⟨by rw [upd_length]; have := HLI.out.1; omega, HLI.out.2⟩⟩
            · go_wp2_with (first | (go_at_call 21; refine (StTR.viaT HS.out (fun row ht => txnDrop_any _ _ row l m _ ht HLL.out)).mono ?_; rintro e w3 ⟨rfl, hs⟩; have HS3 := Sc.mk hs; clear hs) | (go_at_call 39; refine (StTR.viaR HS3.out (fun row ht => rDropT_any _ _ row l m _ ht HLL.out)).mono ?_; rintro e w4 ⟨rfl, hs⟩; have HS4 := Sc.mk hs; clear hs))
              go_meet
              case rel => exact ⟨_, _, HS4, ⟨by have := drop'_length l p; have := HLI.out.1; omega, HLI.out.2⟩⟩
            · go_wp2_with (first | (go_at_call 19; refine (StTR.viaT HS.out (fun row ht => txnSeen_any _ _ row l m _ ht)).mono ?_; rintro e w3 ⟨rfl, hs⟩; have HS3 := Sc.mk hs; clear hs) | (go_at_call 40; refine (StTR.viaR HS3.out (fun row ht => rSeenT_any _ _ row l m _ ht)).mono ?_; rintro e w4 ⟨rfl, hs⟩; have HS4 := Sc.mk hs; clear hs))
              go_meet
              case rel => exact ⟨_, _, HS4, ⟨by have := HLI.out.1; omega, by have := HLI.out.2; omega⟩⟩
          case rest =>
            obtain ⟨L, M, HSB, HLB⟩ := hcut
            have HL2 : Sc (L.length ≤ 1000000) := ⟨by have := HLB.out.1; omega⟩
            obtain ⟨x, hx⟩ : ∃ x, got L p = x := ⟨_, rfl⟩
            obtain ⟨y, hy⟩ : ∃ y, has L p = y := ⟨_, rfl⟩
            have HX := Sc.mk (And.intro hx hy)
            clear hx hy c0 c1 c2 c3
            go_wp2_with fail
            refine (tGet2 HSB.out p HL2.out).mono ?_
            rintro e w3 ⟨rfl, hb3⟩
            rw [HX.out.1, HX.out.2]
            have HS3 := Sc.mk (HSB.out.bel hb3)
            clear hb3
            go_wp2_with fail
            refine (rGet2 (HS3.out.alloc _) p HL2.out).mono ?_
            rintro e w4 ⟨rfl, hb4⟩
            rw [HX.out.1, HX.out.2]
            have HS4 := Sc.mk ((HS3.out.alloc _).bel hb4)
            have HX3 : Sc (w4.heap[w3.heap.size]? = some (.cells (enc4 x).toArray 41 (0, 0))) := ⟨(hb4.block _ (by simp)).trans (heap_alloc_new _ _)⟩
            clear hb4
            go_wp2_with fail
            generalize hW : World.alloc w4 _ = W0
            have HX4 : Sc (W0.heap[w4.heap.size]? = some (.cells (enc4 x).toArray 41 (0, 0))) := ⟨by rw [← hW]; exact heap_alloc_new _ _⟩
            have HX5 : Sc (W0.heap[w3.heap.size]? = some (.cells (enc4 x).toArray 41 (0, 0))) := ⟨by rw [← hW, heap_alloc_old _ _ (heap_lt HX3.out)]; exact HX3.out⟩
            have HSW : Sc (StTR w1 W0 w1.heap.size (w1.heap.size + 1) L M L M) := ⟨by rw [← hW]; exact HS4.out.alloc _⟩
            clear hW HX3 HX
            obtain ⟨e0, e1, e2, e3⟩ := box_cells HX5.out
            obtain ⟨f0, f1, f2, f3⟩ := box_cells HX4.out
            obtain ⟨AX, nx, cx, g0, g1, hox⟩ := HSW.out.ref
            have HOX := Sc.mk hox
            have SK : Sc (∀ W, Below W0.heap.size W0 W → (fun W => W.cell? ⟨w3.heap.size, 0, none⟩ = some (.int .i64 x.1) ∧ W.cell? ⟨w3.heap.size, 1, none⟩ = some (.int .i64 x.2.1) ∧ W.cell? ⟨w3.heap.size, 2, none⟩ = some (.int .i64 x.2.2.1) ∧ W.cell? ⟨w3.heap.size, 3, none⟩ = some (.int .i64 x.2.2.2) ∧ W.cell? ⟨w4.heap.size, 0, none⟩ = some (.int .i64 x.1) ∧ W.cell? ⟨w4.heap.size, 1, none⟩ = some (.int .i64 x.2.1) ∧ W.cell? ⟨w4.heap.size, 2, none⟩ = some (.int .i64 x.2.2.1) ∧ W.cell? ⟨w4.heap.size, 3, none⟩ = some (.int .i64 x.2.2.2) ∧ W.cell? ⟨w1.heap.size + 1, 0, none⟩ = some (.slice AX nx cx) ∧ W.cell? ⟨w1.heap.size + 1, 1, none⟩ = some (.int .i64 M)) W) := ⟨fun W hb => ⟨(hb.cell (World.block_lt_of_cell? _ _ e0)).trans e0, (hb.cell (World.block_lt_of_cell? _ _ e1)).trans e1, (hb.cell (World.block_lt_of_cell? _ _ e2)).trans e2, (hb.cell (World.block_lt_of_cell? _ _ e3)).trans e3, (hb.cell (World.block_lt_of_cell? _ _ f0)).trans f0, (hb.cell (World.block_lt_of_cell? _ _ f1)).trans f1, (hb.cell (World.block_lt_of_cell? _ _ f2)).trans f2, (hb.cell (World.block_lt_of_cell? _ _ f3)).trans f3, (hb.cell (World.block_lt_of_cell? _ _ g0)).trans g0, (hb.cell (World.block_lt_of_cell? _ _ g1)).trans g1⟩⟩
            clear hox
            go_region_held3 (fun W => W.cell? ⟨w3.heap.size, 0, none⟩ = some (.int .i64 x.1) ∧ W.cell? ⟨w3.heap.size, 1, none⟩ = some (.int .i64 x.2.1) ∧ W.cell? ⟨w3.heap.size, 2, none⟩ = some (.int .i64 x.2.2.1) ∧ W.cell? ⟨w3.heap.size, 3, none⟩ = some (.int .i64 x.2.2.2) ∧ W.cell? ⟨w4.heap.size, 0, none⟩ = some (.int .i64 x.1) ∧ W.cell? ⟨w4.heap.size, 1, none⟩ = some (.int .i64 x.2.1) ∧ W.cell? ⟨w4.heap.size, 2, none⟩ = some (.int .i64 x.2.2.1) ∧ W.cell? ⟨w4.heap.size, 3, none⟩ = some (.int .i64 x.2.2.2) ∧ W.cell? ⟨w1.heap.size + 1, 0, none⟩ = some (.slice AX nx cx) ∧ W.cell? ⟨w1.heap.size + 1, 1, none⟩ = some (.int .i64 M)) (first | exact SK.out _ (Below.refl _ _).drew | exact SK.out _ HB5.out | exact SK.out _ HB6.out | exact SK.out _ HB7.out)
              (first
                | (go_at_call 42; go_loud (refine (txnSame1_refl x _).mono ?_; rintro e w5 ⟨rfl, hb5⟩; have HB5 : Sc (Below W0.heap.size W0 w5) := ⟨⟨hb5.os, hb5.tape, hb5.output, hb5.size, hb5.block⟩⟩; clear hb5))
                | (go_at_call 24; refine (tAll2 (HSW.out.bel HB5.out) HL2.out).mono ?_; rintro e w6 ⟨A6, n6, c6, rfl, ho6, hb6⟩; have HB6 : Sc (Below W0.heap.size W0 w6) := ⟨HB5.out.trans (hb6.mono HB5.out.size)⟩; have HO6 := Sc.mk ho6; clear ho6 hb6)
                | (go_at_call 43; refine (txnSame_refl _ _ _ _ _ L HO6.out (HOX.out.below HB6.out) HL2.out).mono ?_; rintro e w7 ⟨rfl, hb7⟩; have HB7 : Sc (Below W0.heap.size W0 w7) := ⟨HB6.out.trans (hb7.mono HB6.out.size)⟩; clear hb7)
                | (go_at_call 23; refine (tMost2 (HSW.out.bel HB7.out)).mono ?_; rintro e w8 ⟨rfl, rfl⟩))
            all_goals
              go_wp2_with fail
              go_roundg (len0 - (i + 1))
              case measure => omega
              case rel => exact ⟨i + 1, L, M, by go_num, by omega, Nat.le_refl _, HLB, ⟨HSW.out.bel HB7.out⟩⟩
      · obtain rfl : i = len0 := by omega
        go_wp2
        go_ret
        exact ⟨rfl, below_down HB1.out HS.out.below⟩
end Go.Proofs.Ytmaknknldegmhaa
