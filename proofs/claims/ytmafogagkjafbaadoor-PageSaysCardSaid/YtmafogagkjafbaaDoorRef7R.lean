/- The document's reading of a page: phoenixref7.Read. -/
import Derived.Test.YtmafogagkjafbaaDoorPVar
import Derived.Test.YtmafogagkjafbaaDoorPageR
import Derived.Test.YtmafogagkjafbaaDoorPagePl
import Derived.Test.YtmafogagkjafbaaDoorRef1G
import Derived.Test.YtmafogagkjafbaaDoorGood7
import Derived.Test.YtmafogagkjafbaaDoorRef7BR
namespace Go.Proofs.YtmafogagkjafbaaDoor
open Go.RowKit

/-- What the document's Read leaves. -/
def RefReadLeft (b : List Int) (w : World) (e : Ending) (w' : World) : Prop :=
  ((b.length ≠ 256 ∧ e = .returned (.tuple #[aggP 0 (.slice none 0 0), .int .i64 103])) ∨
   (b.length = 256 ∧ ReadOk b ∧ ∃ A k c, e = .returned (.tuple #[aggP (getS b 0 4) (.slice A k c), .int .i64 0]) ∧ Own enc2 2 56 w.heap.size w' (.slice A k c) (readP b)) ∨
   (b.length = 256 ∧ ¬ ReadOk b ∧ e = .returned (.tuple #[aggP 0 (.slice none 0 0), .int .i64 107]))) ∧ Below w.heap.size w w'

theorem readOk_cnt {b : List Int} (h : ReadOk b) : getS b 4 2 = ((readP b).length : Int) := by
  have h1 := alike_m (n := getS b 0 4) (l := readP b) (b := b) (fun j _ => by rw [h.2]) h.1.2.2.1
  exact h1
/-- Read up to one entry more than may be, it is the same question. -/
theorem readOk_iff {b : List Int} (hb : Byt b) {M : Nat} (hM : M = min (getS b 4 2).toNat 21) : ReadOk b ↔ OkP (getS b 0 4) (readL b M) ∧ pageB (getS b 0 4) (readL b M) = b := by
  have h0 := getS_lo hb 4 2
  rcases Nat.lt_or_ge 20 (getS b 4 2).toNat with h | h
  · constructor
    · intro hr
      have h1 := readOk_cnt hr
      have h2 := hr.1.2.2.1
      omega
    · intro ⟨h1, _⟩
      have h2 := h1.2.2.1
      rw [readL_length] at h2
      omega
  · have : readM b = M := by unfold readM; omega
    unfold ReadOk readP
    rw [this]
theorem readP_eq {b : List Int} (hb : Byt b) {M : Nat} (hM : M = min (getS b 4 2).toNat 21) (h : M ≤ 20) : readP b = readL b M := by
  have h0 := getS_lo hb 4 2
  have : readM b = M := by unfold readM; omega
  unfold readP
  rw [this]

set_option maxRecDepth 4000 in
set_option maxHeartbeats 2000000 in
theorem refRead_any (w : World) (v : Value) (b : List Int) (hrd : RdB w v b) (hyt : Byt b) (hlen : b.length ≤ 1000000) :
    Calls Tryd.prog 40 #[v] w (RefReadLeft b w) := by
  obtain ⟨A, c, rfl⟩ := hrd.slice
  obtain ⟨N, hN⟩ : ∃ N, b.length = N := ⟨_, rfl⟩
  rw [hN] at hrd hlen ⊢
  have HN := Sc.mk hN
  have HY := Sc.mk hyt
  have HRD := Sc.mk (hrd.alloc (.cells #[.int .i64 0, .slice none 0 0] 29))
  have HW1 : Sc (Below w.heap.size w (w.alloc (.cells #[.int .i64 0, .slice none 0 0] 29))) := ⟨(Below.refl _ _).alloc (Nat.le_refl _) _⟩
  have HZ : Sc ((w.alloc (.cells #[.int .i64 0, .slice none 0 0] 29)).heap[w.heap.size]? = some (.cells #[.int .i64 0, .slice none 0 0] 29 (0, 0))) := ⟨heap_alloc_new _ _⟩
  obtain ⟨i0, hi0, hz0, hz1, hz2⟩ := info_parts infoCloE
  clear hN hyt hrd
  by_cases h256 : N = 256
  · subst h256
    obtain ⟨n, hn⟩ : ∃ n, getS b 0 4 = n := ⟨_, rfl⟩
    obtain ⟨q, hq⟩ : ∃ q, getS b 4 2 = q := ⟨_, rfl⟩
    obtain ⟨M, hM⟩ : ∃ M, min (getS b 4 2).toNat 21 = M := ⟨_, rfl⟩
    have hn0 : 0 ≤ n := by rw [← hn]; exact getS_lo HY.out _ _
    have hn1 : n < 4294967296 := by rw [← hn]; exact getS_hi HY.out _ _
    have hq0 : 0 ≤ q := by rw [← hq]; exact getS_lo HY.out _ _
    have hq1 : q < 65536 := by rw [← hq]; exact getS_hi HY.out _ _
    have hm : (if (21 : Int) < q then (21 : Int) else q) = (M : Int) := by rw [← hM, hq]; split <;> omega
    have hM21 : M ≤ 21 := by omega
    have HNQ := Sc.mk hn
    have HQQ := Sc.mk hq
    have HMM := Sc.mk hM
    have hwn : IntKind.i64.wrap n = n := IntWalk.i64_in _ ⟨by omega, by omega⟩
    have hwq : IntKind.i64.wrap q = q := IntWalk.i64_in _ ⟨by omega, by omega⟩
    have HV0 : Sc (PageVar (w.alloc (.cells #[.int .i64 0, .slice none 0 0] 29)) ((w.alloc (.cells #[.int .i64 0, .slice none 0 0] 29)).alloc (.cells #[.int .i64 n, .slice none 0 0] 29)) (w.heap.size + 1) n (.slice none 0 0) []) := ⟨by
      have := PageVar.made (n := n) (Below.refl (w.alloc (.cells #[.int .i64 0, .slice none 0 0] 29)).heap.size (w.alloc (.cells #[.int .i64 0, .slice none 0 0] 29))) (Own.nil (e := 56) (sz := 2) (enc := enc2)) (Nat.le_refl _)
      simpa using this⟩
    clear hn hq hM
    go_enter Tryd.func40, Tryd.ntmps40
    go_wp2_with fail
    refine (refGet_any _ _ b _ _ 0 4 HRD.out (by omega) (by omega) HY.out (by rw [HN.out]; omega) (by omega) (by omega) (by omega)).mono ?_
    rw [HNQ.out]
    rintro e w3 ⟨rfl, rfl⟩
    go_wp2_with fail
    refine (refGet_any _ _ b _ _ 4 2 (HRD.out.alloc _) (by omega) (by omega) HY.out (by rw [HN.out]; omega) (by omega) (by omega) (by omega)).mono ?_
    rw [HQQ.out]
    rintro e w3 ⟨rfl, rfl⟩
    clear hwq hwn
    go_wp2_with fail
    go_loopg [6] M (fun kx s6 wr => ∃ (i : Nat) (A6 : Option Addr) (k6 c6 : Nat), s6 = .int .i64 i ∧ i ≤ M ∧ M - i ≤ kx ∧ Sc (PageVar (w.alloc (.cells #[.int .i64 0, .slice none 0 0] 29)) wr (w.heap.size + 1) n (.slice A6 k6 c6) (readL b i)))
    case atStart => exact ⟨0, _, _, _, rfl, by omega, by omega, HV0⟩
    case round =>
      obtain ⟨i, A6, k6, c6, rfl, hi, hg, HP⟩ := hrel
      by_cases hlt : i < M
      · obtain ⟨ky, hky⟩ : ∃ ky, getS b (16 + 12 * i) 4 = ky := ⟨_, rfl⟩
        obtain ⟨vl, hvl⟩ : ∃ vl, getS b (20 + 12 * i) 8 = vl := ⟨_, rfl⟩
        have hk0 : 0 ≤ ky := by rw [← hky]; exact getS_lo HY.out _ _
        have hk1 : ky < 4294967296 := by rw [← hky]; exact getS_hi HY.out _ _
        have HXE : Sc (readE b i = (ky, IntKind.i64.wrap vl)) := ⟨by unfold readE; rw [hky, hvl]⟩
        have HKY := Sc.mk hky
        have HVL := Sc.mk hvl
        have HRW := Sc.mk (HRD.out.bel HP.out.below)
        have HEQ : Sc ((16 : Int) + 12 * (i : Int) = ((16 + 12 * i : Nat) : Int) ∧ (20 : Int) + 12 * (i : Int) = ((20 + 12 * i : Nat) : Int)) := ⟨by omega, by omega⟩
        have HI : Sc (16 + 12 * i ≤ 1000000 ∧ 20 + 12 * i ≤ 1000000) := ⟨by omega, by omega⟩
        have hi21 : i < 21 := by omega
        have hil : (i : Int) < M := by omega
        obtain ⟨e0, e1⟩ := cells_page HP.out.cells
        have f1 := unfrozen_at HP.out.cells 1
        have l1 := heap_lt HP.out.cells
        have HLL : Sc ((readL b i).length = i) := ⟨readL_length b i⟩
        clear hky hvl
        go_upto_region 8 with fail
        have hwa : IntKind.i64.wrap (12 * (i : Int)) = 12 * (i : Int) := IntWalk.i64_in _ ⟨by omega, by omega⟩
        have hwb : IntKind.i64.wrap (16 + 12 * (i : Int)) = 16 + 12 * (i : Int) := IntWalk.i64_in _ ⟨by omega, by omega⟩
        have hwc : IntKind.i64.wrap (20 + 12 * (i : Int)) = 20 + 12 * (i : Int) := IntWalk.i64_in _ ⟨by omega, by omega⟩
        have hw2 : IntKind.i64.wrap ky = ky := IntWalk.i64_in _ ⟨by omega, by omega⟩
        obtain ⟨vw, hvw⟩ : ∃ vw, IntKind.i64.wrap vl = vw := ⟨_, rfl⟩
        obtain ⟨m, hmm⟩ : ∃ m, readL b i = m := ⟨_, rfl⟩
        rw [hmm] at HP HLL
        have HM1 : Sc (readL b (i + 1) = m ++ [(ky, vw)]) := ⟨by rw [readL_succ, hmm, HXE.out, hvw]⟩
        have HA2 : Sc (m.length + 1 ≤ maxLen) := ⟨by rw [HLL.out]; unfold maxLen; omega⟩
        have HA3 : Sc ((m.length + 1) * 16 ≤ 140737488355328) := ⟨by rw [HLL.out]; omega⟩
        have HLW : Sc ((w.alloc (.cells #[.int .i64 0, .slice none 0 0] 29)).heap.size ≤ wr.heap.size) := ⟨HP.out.below.size⟩
        clear hmm
        go_region_law (first | ((refine step_append_lies _ (by rfl) (.tmp 25) (.tmp 39) 27 (by rfl) (w.alloc (.cells #[.int .i64 0, .slice none 0 0] 29)).heap.size 56 i0 (.agg #[.int .i64 0, .int .i64 0]) 2 16 Tryd.underlying27 hi0 hz0 hz1 hz2 rfl (by decide) _ m.length (flat enc2 m) (by rfl) ((HP.out.own.alloc _).drew) ⟨wr.heap.size, 0, none⟩ 1 1 (enc2 (ky, vw)) (by rfl) (by rfl) (World.news_of_block (heap_alloc_new wr (.cells (enc2 (ky, vw)).toArray 56))) (kind2.one (ky, vw)) Nat.one_pos HA2.out HA3.out (by have := HLW.out; simp at this ⊢; omega) (wr.heap.size + 1) (by simp) ?_; intro ge ce we h1 h2 h3 h4; obtain ⟨hce, hpv⟩ := HP.out.append h1 (grown_drew h2) h3; have c1 := (cells_page hce).2; have f2 := unfrozen_at hce 1; have HPV := Sc.mk hpv; clear h1 h2 h3 h4 hce hpv)) | (go_simp; go_at_call 56; (with_reducible refine (refGet_any _ _ b _ _ (16 + 12 * i) 4 (by first | with_reducible exact HRW.out | with_reducible exact HRW.out.drew) (by with_reducible exact HEQ.out.1) (by omega) HY.out (by rw [HN.out]; omega) (by exact HI.out.1) (by omega) (by omega)).mono ?_); rw [HKY.out]; rintro e w3 ⟨rfl, rfl⟩) | (go_simp; go_at_call 56; (with_reducible refine (refGet_any _ _ b _ _ (20 + 12 * i) 8 (by first | with_reducible exact HRW.out | with_reducible exact HRW.out.drew) (by with_reducible exact HEQ.out.2) (by omega) HY.out (by rw [HN.out]; omega) (by exact HI.out.2) (by omega) (by omega)).mono ?_); rw [HVL.out]; rintro e w3 ⟨rfl, rfl⟩))
        all_goals
          clear hw2 hvw hwa hwb hwc
          go_wp2
          go_roundg (M - (i + 1))
          case measure => omega
          case rel => exact ⟨i + 1, _, _, _, by go_num, by omega, Nat.le_refl _, ⟨by rw [HM1.out]; exact HPV.out⟩⟩
      · obtain rfl : i = M := by omega
        have HBR : Sc (Below w.heap.size w wr) := ⟨below_down HW1.out HP.out.below⟩
        have hzr := (HP.out.below.block _ (heap_lt HZ.out)).trans HZ.out
        obtain ⟨e0, e1⟩ := cells_page HP.out.cells
        have HZR := Sc.mk hzr
        have HLR : Sc ((readL b i).length = i) := ⟨readL_length b i⟩
        have HIFF : Sc (ReadOk b ↔ OkP n (readL b i) ∧ pageB n (readL b i) = b) := ⟨by rw [← HNQ.out]; exact readOk_iff HY.out HMM.out.symm⟩
        have HPP : Sc (i ≤ 20 → readP b = readL b i) := ⟨readP_eq HY.out HMM.out.symm⟩
        clear hzr
        go_wp2_with fail
        refine (refGood_any _ n _ (readL b i) HP.out.own.rdE (by rw [HLR.out]; omega)).mono ?_
        rintro e w2 ⟨hres, hb2⟩
        have HP2 := Sc.mk (HP.out.bel hb2)
        have HZ2 := Sc.mk ((hb2.block _ (heap_lt HZR.out)).trans HZR.out)
        have HR2 := Sc.mk ((HRD.out.bel HP.out.below).bel hb2)
        have HB2 : Sc (Below w.heap.size w w2) := ⟨below_down HBR.out hb2⟩
        have ha : w.heap.size ≤ w.heap.size := Nat.le_refl _
        clear e0 e1 hb2
        obtain ⟨e0, e1⟩ := cells_page HP2.out.cells
        rcases hres with ⟨hok, rfl⟩ | ⟨hok, rfl⟩
        · have hi20 : i ≤ 20 := by have := hok.2.2.1; rw [HLR.out] at this; exact this
          have HOK := Sc.mk hok
          clear hok
          go_wp2_with fail
          refine (refPageB_any _ (w.alloc (.cells #[.int .i64 0, .slice none 0 0] 29)).heap.size n _ (readL b i) HP2.out.own (by rw [HLR.out]; exact hi20)).mono ?_
          rintro e w5 ⟨v5, rfl, ho5, hb5⟩
          have HX5 := Sc.mk ho5.rd
          have HP5 := Sc.mk (HP2.out.bel hb5)
          have HZ5 := Sc.mk (up hb5 HZ2.out)
          have HR5 := Sc.mk (HR2.out.bel hb5)
          have HB5 : Sc (Below w.heap.size w w5) := ⟨below_down HB2.out hb5⟩
          clear e0 e1 ho5 hb5
          go_wp2_with fail
          refine (bytesSame_any _ _ _ (pageB n (readL b i)) b HX5.out HR5.out (by rw [pageB_length]; omega) (by rw [HN.out]; omega)).mono ?_
          rintro e w6 ⟨rfl, hb6⟩
          have HP6 := Sc.mk (HP5.out.bel hb6)
          have HZ6 := Sc.mk (up hb6 HZ5.out)
          have HB6 : Sc (Below w.heap.size w w6) := ⟨below_down HB5.out hb6⟩
          obtain ⟨p0, p1⟩ := cells_page HP6.out.cells
          obtain ⟨z0, z1⟩ := cells_page HZ6.out
          have y0 := unfrozen_at HZ6.out 0
          have y1 := unfrozen_at HZ6.out 1
          have lz := heap_lt HZ6.out
          have lp := heap_lt HP6.out.cells
          clear hb6
          by_cases heq : pageB n (readL b i) = b
          · have HQ : Sc (ReadOk b) := ⟨HIFF.out.2 ⟨HOK.out, heq⟩⟩
            rw [decide_eq_true heq]
            clear heq
            go_wp2
            refine bodyPost_ret (v := .tuple #[aggP n (.slice A6 k6 c6), .int .i64 0]) (by simp [results, Tryd.results40, go_sem, z0, z1]) rfl ⟨.inr (.inl ⟨HN.out, HQ.out, A6, k6, c6, by rw [HNQ.out], ?_⟩), ?_⟩
            · rw [HPP.out hi20]
              exact ((HP6.out.own.low (a := ⟨w.heap.size, 0, none⟩) (by simp) _).low (a := ⟨w.heap.size, 1, none⟩) (by simp) _).mono HW1.out.size
            · exact (HB6.out.setCell ha _).setCell ha _
          · have HQ : Sc (¬ ReadOk b) := ⟨fun h => heq (HIFF.out.1 h).2⟩
            rw [decide_eq_false heq]
            clear heq
            go_wp2
            refine bodyPost_ret (v := .tuple #[aggP 0 (.slice none 0 0), .int .i64 107]) (by simp [results, Tryd.results40, go_sem, z0, z1]) rfl ⟨.inr (.inr ⟨HN.out, HQ.out, rfl⟩), ?_⟩
            exact (HB6.out.setCell ha _).setCell ha _
        · have HQ : Sc (¬ ReadOk b) := ⟨fun h => hok (HIFF.out.1 h).1⟩
          obtain ⟨z0, z1⟩ := cells_page HZ2.out
          have y0 := unfrozen_at HZ2.out 0
          have y1 := unfrozen_at HZ2.out 1
          have lz := heap_lt HZ2.out
          clear hok
          go_wp2
          refine bodyPost_ret (v := .tuple #[aggP 0 (.slice none 0 0), .int .i64 107]) (by simp [results, Tryd.results40, go_sem, z0, z1]) rfl ⟨.inr (.inr ⟨HN.out, HQ.out, rfl⟩), ?_⟩
          exact (HB2.out.setCell ha _).setCell ha _
  · have h256' : ¬ (N : Int) = 256 := by omega
    have HX : Sc (b.length ≠ 256) := ⟨by rw [HN.out]; exact h256⟩
    obtain ⟨z0, z1⟩ := cells_page HZ.out
    have y0 := unfrozen_at HZ.out 0
    have y1 := unfrozen_at HZ.out 1
    have lz := heap_lt HZ.out
    clear h256
    go_enter Tryd.func40, Tryd.ntmps40
    go_wp2
    refine bodyPost_ret (v := .tuple #[aggP 0 (.slice none 0 0), .int .i64 103]) (by simp [results, Tryd.results40, go_sem, z0, z1]) rfl ⟨.inl ⟨HX.out, rfl⟩, ?_⟩
    exact HW1.out
end Go.Proofs.YtmafogagkjafbaaDoor
