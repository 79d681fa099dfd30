/- A sector as a page: page.Read. -/
import Derived.StillTailTactics
import Derived.Test.YtmafogagkjafbaaDoorPageB
import Derived.Test.YtmafogagkjafbaaDoorBytesEq
namespace Go.Proofs.YtmafogagkjafbaaDoor
open Go.RowKit

/-- The entry at place i. -/
def readE (b : List Int) (i : Nat) : Int × Int := (getS b (16 + 12 * i) 4, IntKind.i64.wrap (getS b (20 + 12 * i) 8))
def readL (b : List Int) (m : Nat) : List (Int × Int) := (List.range m).map (readE b)
/-- How many entries are read. -/
def readM (b : List Int) : Nat := min (getS b 4 2).toNat 20
def readP (b : List Int) : List (Int × Int) := readL b (readM b)
/-- The bytes are a page's. -/
def ReadOk (b : List Int) : Prop := OkP (getS b 0 4) (readP b) ∧ pageB (getS b 0 4) (readP b) = b
theorem readL_length (b : List Int) (m : Nat) : (readL b m).length = m := by simp [readL]
theorem readL_succ (b : List Int) (m : Nat) : readL b (m + 1) = readL b m ++ [readE b m] := by unfold readL; rw [List.range_succ, List.map_append]; rfl
theorem RdB.drew {w : World} {v : Value} {l : List Int} (h : RdB w v l) : RdB w.drew v l := h
theorem RdB.alloc {w : World} {v : Value} {l : List Int} (h : RdB w v l) (o : Obj) : RdB (w.alloc o) v l := h.bel ((Below.refl _ _).alloc (Nat.le_refl _) o)

/-- What Read leaves. -/
def ReadLeft (f : Nat → Addr) (b : List Int) (w : World) (e : Ending) (w' : World) : Prop :=
  ((b.length ≠ 256 ∧ e = .returned (.tuple #[aggP 0 (.slice none 0 0), errV (f 2)])) ∨
   (b.length = 256 ∧ ReadOk b ∧ ∃ A k c, e = .returned (.tuple #[aggP (getS b 0 4) (.slice A k c), .nilIface]) ∧ Own enc2 2 56 w.heap.size w' (.slice A k c) (readP b)) ∨
   (b.length = 256 ∧ ¬ ReadOk b ∧ e = .returned (.tuple #[aggP 0 (.slice none 0 0), errV (f 6)]))) ∧ Below w.heap.size w w'

set_option maxRecDepth 4000 in
set_option maxHeartbeats 2000000 in
theorem pageRead_any (f : Nat → Addr) (w : World) (v : Value) (b : List Int) (hE : Errs w f) (hrd : RdB w v b) (hyt : Byt b) (hlen : b.length ≤ 1000000) :
    Calls Tryd.prog 33 #[v] w (ReadLeft f b w) := by
  obtain ⟨A, c, rfl⟩ := hrd.slice
  obtain ⟨N, hN⟩ : ∃ N, b.length = N := ⟨_, rfl⟩
  rw [hN] at hrd hlen ⊢
  have HN := Sc.mk hN
  have HE1 := Sc.mk (hE.bel ((Below.refl w.heap.size w).alloc (Nat.le_refl _) (.cells #[.int .i64 0, .slice none 0 0] 29)))
  have HY := Sc.mk hyt
  have HRD := Sc.mk (hrd.alloc (.cells #[.int .i64 0, .slice none 0 0] 29))
  have HW1 : Sc (Below w.heap.size w (w.alloc (.cells #[.int .i64 0, .slice none 0 0] 29))) := ⟨(Below.refl _ _).alloc (Nat.le_refl _) _⟩
  have HZ : Sc ((w.alloc (.cells #[.int .i64 0, .slice none 0 0] 29)).heap[w.heap.size]? = some (.cells #[.int .i64 0, .slice none 0 0] 29 (0, 0))) := ⟨heap_alloc_new _ _⟩
  have hg0 : (0 : Nat) < w.heap.size := World.block_lt_of_cell? _ _ hE.page
  have hg2 : (2 : Nat) < w.heap.size := World.block_lt_of_cell? _ _ hE.short
  obtain ⟨i0, hi0, hz0, hz1, hz2⟩ := info_parts infoCloE
  clear hN hE hyt hrd
  by_cases h256 : N = 256
  · subst h256
    obtain ⟨n, hn⟩ : ∃ n, getS b 0 4 = n := ⟨_, rfl⟩
    obtain ⟨q, hq⟩ : ∃ q, getS b 4 2 = q := ⟨_, rfl⟩
    obtain ⟨M, hM⟩ : ∃ M, readM b = M := ⟨_, rfl⟩
    have hn0 : 0 ≤ n := by rw [← hn]; exact getS_lo HY.out _ _
    have hn1 : n < 4294967296 := by rw [← hn]; exact getS_hi HY.out _ _
    have hq0 : 0 ≤ q := by rw [← hq]; exact getS_lo HY.out _ _
    have hq1 : q < 65536 := by rw [← hq]; exact getS_hi HY.out _ _
    have hm : min q 20 = (M : Int) := by rw [← hM, ← hq]; rw [← hq] at hq0; unfold readM; omega
    have hM20 : M ≤ 20 := by omega
    have HNQ := Sc.mk hn
    have HQQ := Sc.mk hq
    have HMM := Sc.mk hM
    have HV0 : Sc (PageVar (w.alloc (.cells #[.int .i64 0, .slice none 0 0] 29)) ((w.alloc (.cells #[.int .i64 0, .slice none 0 0] 29)).alloc (.cells #[.int .i64 n, .slice none 0 0] 29)) (w.heap.size + 1) n (.slice none 0 0) []) := ⟨by
      have := PageVar.made (n := n) (Below.refl (w.alloc (.cells #[.int .i64 0, .slice none 0 0] 29)).heap.size (w.alloc (.cells #[.int .i64 0, .slice none 0 0] 29))) (Own.nil (e := 56) (sz := 2) (enc := enc2)) (Nat.le_refl _)
      simpa using this⟩
    clear hn hq hM
    go_enter Tryd.func33, Tryd.ntmps33
    go_upto_region 4 with (go_at_call 50; (with_reducible refine (cellGetI _ _ b _ _ 0 4 HRD.out (by omega) (by omega) HY.out (by rw [HN.out]; omega) (by omega) (by omega) (by rw [HN.out]; omega)).mono ?_); rw [HNQ.out]; rintro e w3 ⟨rfl, rfl⟩)
    go_cut [21, 22] from 18 to 23 (fun s21 s22 wx => s21 = .int .i64 M ∧ s22 = .int .i64 0 ∧ wx = ((w.alloc (.cells #[.int .i64 0, .slice none 0 0] 29)).alloc (.cells #[.int .i64 n, .slice none 0 0] 29)))
    case first =>
      go_wp2_with (go_at_call 50; (with_reducible refine (cellGetI _ _ b _ _ 4 2 (HRD.out.alloc _) (by omega) (by omega) HY.out (by rw [HN.out]; omega) (by omega) (by omega) (by rw [HN.out]; omega)).mono ?_); rw [HQQ.out]; rintro e w3 ⟨rfl, rfl⟩)
      all_goals
        go_meet
        case rel => exact ⟨by congr 1; omega, rfl, rfl⟩
    case rest =>
      obtain ⟨rfl, rfl, rfl⟩ := hcut
      clear hm
      go_wp2
      go_loopg [22] M (fun kx s22 wr => ∃ (i : Nat) (A6 : Option Addr) (k6 c6 : Nat), s22 = .int .i64 i ∧ i ≤ M ∧ M - i ≤ kx ∧ Sc (PageVar (w.alloc (.cells #[.int .i64 0, .slice none 0 0] 29)) wr (w.heap.size + 1) n (.slice A6 k6 c6) (readL b i)))
      case atStart => exact ⟨0, _, _, _, rfl, by omega, by omega, HV0⟩
      case round =>
        obtain ⟨i, A6, k6, c6, rfl, hi, hg, HP⟩ := hrel
        by_cases hlt : i < M
        · obtain ⟨ky, hky⟩ : ∃ ky, getS b (16 + 12 * i) 4 = ky := ⟨_, rfl⟩
          obtain ⟨vl, hvl⟩ : ∃ vl, getS b (20 + 12 * i) 8 = vl := ⟨_, rfl⟩
          have hk0 : 0 ≤ ky := by rw [← hky]; exact getS_lo HY.out _ _
          have hk1 : ky < 4294967296 := by rw [← hky]; exact getS_hi HY.out _ _
          have HXE : Sc (readE b i = (ky, IntKind.i64.wrap vl)) := ⟨by unfold readE; rw [hky, hvl]⟩
          have HKY := Sc.mk hky
          have HVL := Sc.mk hvl
          have HRW := Sc.mk (HRD.out.bel HP.out.below)
          have HEQ : Sc ((16 : Int) + (i : Int) * 12 = ((16 + 12 * i : Nat) : Int) ∧ (16 : Int) + (i : Int) * 12 + 4 = ((20 + 12 * i : Nat) : Int)) := ⟨by omega, by omega⟩
          have HI : Sc (16 + 12 * i + 4 ≤ 256 ∧ 20 + 12 * i + 8 ≤ 256) := ⟨by omega, by omega⟩
          have hi20 : i < 20 := by omega
          have hil : (i : Int) < M := by omega
          obtain ⟨e0, e1⟩ := cells_page HP.out.cells
          have f1 := unfrozen_at HP.out.cells 1
          have l1 := heap_lt HP.out.cells
          have HLL : Sc ((readL b i).length = i) := ⟨readL_length b i⟩
          clear hky hvl
          go_upto_region 8 with fail
          have hw1 : IntKind.i64.wrap ((16 : Int) + (i : Int) * 12 + 4) = (16 : Int) + (i : Int) * 12 + 4 := IntWalk.i64_in _ ⟨by omega, by omega⟩
          have hw2 : IntKind.i64.wrap ky = ky := IntWalk.i64_in _ ⟨by omega, by omega⟩
          obtain ⟨vw, hvw⟩ : ∃ vw, IntKind.i64.wrap vl = vw := ⟨_, rfl⟩
          obtain ⟨m, hmm⟩ : ∃ m, readL b i = m := ⟨_, rfl⟩
          rw [hmm] at HP HLL
          have HM1 : Sc (readL b (i + 1) = m ++ [(ky, vw)]) := ⟨by rw [readL_succ, hmm, HXE.out, hvw]⟩
          have HA2 : Sc (m.length + 1 ≤ maxLen) := ⟨by rw [HLL.out]; unfold maxLen; omega⟩
          have HA3 : Sc ((m.length + 1) * 16 ≤ 140737488355328) := ⟨by rw [HLL.out]; omega⟩
          have HLW : Sc ((w.alloc (.cells #[.int .i64 0, .slice none 0 0] 29)).heap.size ≤ wr.heap.size) := ⟨HP.out.below.size⟩
          clear hmm
          go_region_law (first | ((refine step_append_lies _ (by rfl) (.tmp 29) (.tmp 40) 27 (by rfl) (w.alloc (.cells #[.int .i64 0, .slice none 0 0] 29)).heap.size 56 i0 (.agg #[.int .i64 0, .int .i64 0]) 2 16 Tryd.underlying27 hi0 hz0 hz1 hz2 rfl (by decide) _ m.length (flat enc2 m) (by rfl) ((HP.out.own.alloc _).drew) ⟨wr.heap.size, 0, none⟩ 1 1 (enc2 (ky, vw)) (by rfl) (by rfl) (World.news_of_block (heap_alloc_new wr (.cells (enc2 (ky, vw)).toArray 56))) (kind2.one (ky, vw)) Nat.one_pos HA2.out HA3.out (by have := HLW.out; simp at this ⊢; omega) (wr.heap.size + 1) (by simp) ?_; intro ge ce we h1 h2 h3 h4; obtain ⟨hce, hpv⟩ := HP.out.append h1 (grown_drew h2) h3; have c1 := (cells_page hce).2; have f2 := unfrozen_at hce 1; have HPV := Sc.mk hpv; clear h1 h2 h3 h4 hce hpv)) | (go_simp; go_at_call 50; (with_reducible refine (cellGetI _ _ b _ _ (16 + 12 * i) 4 (by first | with_reducible exact HRW.out | with_reducible exact HRW.out.drew) (by with_reducible exact HEQ.out.1) (by omega) HY.out (by rw [HN.out]; omega) (by omega) (by omega) (by rw [HN.out]; exact HI.out.1)).mono ?_); rw [HKY.out]; rintro e w3 ⟨rfl, rfl⟩) | (go_simp; go_at_call 50; (with_reducible refine (cellGetI _ _ b _ _ (20 + 12 * i) 8 (by first | with_reducible exact HRW.out | with_reducible exact HRW.out.drew) (by with_reducible exact HEQ.out.2) (by omega) HY.out (by rw [HN.out]; omega) (by omega) (by omega) (by rw [HN.out]; exact HI.out.2)).mono ?_); rw [HVL.out]; rintro e w3 ⟨rfl, rfl⟩))
          all_goals
            clear hw1 hw2 hvw
            go_wp2
            go_roundg (M - (i + 1))
            case measure => omega
            case rel => exact ⟨i + 1, _, _, _, by go_num, by omega, Nat.le_refl _, ⟨by rw [HM1.out]; exact HPV.out⟩⟩
        · obtain rfl : i = M := by omega
          have HBR : Sc (Below w.heap.size w wr) := ⟨below_down HW1.out HP.out.below⟩
          have hzr := (HP.out.below.block _ (heap_lt HZ.out)).trans HZ.out
          obtain ⟨e0, e1⟩ := cells_page HP.out.cells
          have HZR := Sc.mk hzr
          have HLR : Sc ((readL b i).length = i) := ⟨readL_length b i⟩
          have HPP : Sc (readP b = readL b i) := ⟨by unfold readP; rw [HMM.out]⟩
          clear hzr
          go_wp2_with fail
          refine (pageBytes_any f _ (w.alloc (.cells #[.int .i64 0, .slice none 0 0] 29)).heap.size n _ (readL b i) (HE1.out.bel HP.out.below) HP.out.own (by rw [HLR.out]; omega)).mono ?_
          rintro e w2 ⟨hres, hb2⟩
          have hz := (hb2.block _ (heap_lt HZR.out)).trans HZR.out
          have hp := (hb2.block _ (heap_lt HP.out.cells)).trans HP.out.cells
          have HB2 : Sc (Below w.heap.size w w2) := ⟨below_down HBR.out hb2⟩
          have HO2 : Sc (Own enc2 2 56 (w.alloc (.cells #[.int .i64 0, .slice none 0 0] 29)).heap.size w2 (.slice A6 k6 c6) (readL b i)) := ⟨HP.out.own.below hb2⟩
          have HR2 := Sc.mk ((HRD.out.bel HP.out.below).bel hb2)
          have hpage := ((HE1.out.bel HP.out.below).bel hb2).page
          have l1 := heap_lt hz
          have l2 := heap_lt hp
          obtain ⟨z0, z1⟩ := cells_page hz
          obtain ⟨p0, p1⟩ := cells_page hp
          have y0 := unfrozen_at hz 0
          have y1 := unfrozen_at hz 1
          clear hz hp e0 e1
          have ha : w.heap.size ≤ w.heap.size := Nat.le_refl _
          rcases hres with ⟨hok, A9, k9, c9, rfl, ho9⟩ | ⟨hok, rfl⟩
          · have HR9 := Sc.mk ho9.rd
            by_cases heq : pageB n (readL b i) = b
            · have HQ : Sc (ReadOk b) := ⟨by unfold ReadOk; rw [HPP.out, HNQ.out]; exact ⟨hok, heq⟩⟩
              have HD : Sc (decide (pageB n (readL b i) = b) = true) := ⟨by simp [heq]⟩
              clear hok heq ho9 hb2 hpage
              go_wp2_with (go_at_call 51; (with_reducible refine (bytesEqual_any _ _ _ _ b HR9.out HR2.out (by rw [pageB_length]; omega) (by rw [HN.out]; omega) (pageB_byt _ _) HY.out).mono ?_); rw [HD.out]; rintro e w3 ⟨rfl, rfl⟩)
              refine bodyPost_ret (v := .tuple #[aggP n (.slice A6 k6 c6), .nilIface]) (by simp [results, Tryd.results33, go_sem, z0, z1]) rfl ⟨.inr (.inl ⟨HN.out, HQ.out, A6, k6, c6, by rw [HNQ.out], ?_⟩), ?_⟩
              · rw [HPP.out]
                exact ((HO2.out.low (a := ⟨w.heap.size, 0, none⟩) (by simp) _).low (a := ⟨w.heap.size, 1, none⟩) (by simp) _).mono HW1.out.size
              · exact (HB2.out.setCell ha _).setCell ha _
            · have HQ : Sc (¬ ReadOk b) := ⟨by unfold ReadOk; rw [HPP.out, HNQ.out]; exact fun h => heq h.2⟩
              have HD : Sc (decide (pageB n (readL b i) = b) = false) := ⟨by simp [heq]⟩
              clear hok heq ho9 hb2
              go_wp2_with (go_at_call 51; (with_reducible refine (bytesEqual_any _ _ _ _ b HR9.out HR2.out (by rw [pageB_length]; omega) (by rw [HN.out]; omega) (pageB_byt _ _) HY.out).mono ?_); rw [HD.out]; rintro e w3 ⟨rfl, rfl⟩)
              go_region
              all_goals
                go_wp2
                refine bodyPost_ret (v := .tuple #[aggP 0 (.slice none 0 0), errV (f 6)]) (by simp [results, Tryd.results33, go_sem, z0, z1]) rfl ⟨.inr (.inr ⟨HN.out, HQ.out, rfl⟩), ?_⟩
                first | exact ((HB2.out.setCell ha _).setCell ha _).drew | exact ((HB2.out.drew.setCell ha _).setCell ha _) | exact ((HB2.out.setCell ha _).setCell ha _)
          · have HQ : Sc (¬ ReadOk b) := ⟨by unfold ReadOk; rw [HPP.out, HNQ.out]; exact fun h => hok h.1⟩
            clear hok hb2
            go_wp2_with fail
            go_region
            all_goals
              go_wp2
              refine bodyPost_ret (v := .tuple #[aggP 0 (.slice none 0 0), errV (f 6)]) (by simp [results, Tryd.results33, go_sem, z0, z1]) rfl ⟨.inr (.inr ⟨HN.out, HQ.out, rfl⟩), ?_⟩
              first | exact ((HB2.out.setCell ha _).setCell ha _).drew | exact ((HB2.out.drew.setCell ha _).setCell ha _) | exact ((HB2.out.setCell ha _).setCell ha _)
  · have h256' : ¬ (N : Int) = 256 := by omega
    have HX : Sc (b.length ≠ 256) := ⟨by rw [HN.out]; exact h256⟩
    have hE2 := HE1.out.short
    obtain ⟨z0, z1⟩ := cells_page HZ.out
    have y0 := unfrozen_at HZ.out 0
    have y1 := unfrozen_at HZ.out 1
    clear h256
    go_enter Tryd.func33, Tryd.ntmps33
    go_upto_region 2 with fail
    go_region
    all_goals
      go_wp2
      refine bodyPost_ret (v := .tuple #[aggP 0 (.slice none 0 0), errV (f 2)]) (by simp [results, Tryd.results33, go_sem, z0, z1]) rfl ⟨.inl ⟨HX.out, rfl⟩, ?_⟩
      exact HW1.out.drew
end Go.Proofs.YtmafogagkjafbaaDoor
