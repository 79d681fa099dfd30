/- The walk of PageBounds: what can't be of a page is told. -/
import Derived.Test.YtmafogagkjafbaaDoorFirst7
import Derived.Test.YtmafogagkjafbaaDoorPageC
import Derived.Test.YtmafogagkjafbaaDoorSee
import Derived.Test.YtmafogagkjafbaaDoorLawChangeBack
namespace Go.Proofs.YtmafogagkjafbaaDoor
open Go.RowKit

def evV (v : Int) (i : Nat) : List (Int × Int) := (List.range i).map fun j : Nat => (2 * (j : Int), v)
theorem evV_succ (v : Int) (i : Nat) : evV v (i + 1) = evV v i ++ [(2 * (i : Int), v)] := by unfold evV; rw [List.range_succ, List.map_append]; rfl
theorem evV_length (v : Int) (i : Nat) : (evV v i).length = i := by unfold evV; simp
theorem evV_get (v : Int) {i j : Nat} (h : j < i) : (evV v i)[j]? = some (2 * (j : Int), v) := by unfold evV; rw [List.getElem?_map, List.getElem?_range h]; rfl
theorem evV_ok (v : Int) {i : Nat} (h : i ≤ 20) : OkP 5 (evV v i) := by
  refine ⟨by omega, by omega, by rw [evV_length]; exact h, fun _ => by omega, ?_⟩
  intro j x hj hx
  rw [evV_length] at hj
  rw [evV_get v hj] at hx
  injection hx with hx
  subst hx
  refine ⟨by simp; omega, by simp; omega, fun y hy0 hy => ?_⟩
  rw [evV_get v (by omega)] at hy
  injection hy with hy
  subst hy
  show 2 * ((j - 1 : Nat) : Int) < 2 * (j : Int)
  omega
theorem PageVar.setN {w wx : World} {b : Nat} {n : Int} {v : Value} {l : List (Int × Int)} (h : PageVar w wx b n v l) (n' : Int) : PageVar w (wx.setCell ⟨b, 0, none⟩ (.int .i64 n')) b n' v l :=
  ⟨h.below.setCell h.new _, h.new, by have := set_one h.cells 0 (.int .i64 n'); simpa using this, h.own.kp (Kp.setCell _ _ _) (fun q hq he => h.apart (by rw [hq, he])), h.apart⟩
theorem PageVar.setK {w wx : World} {b g k c : Nat} {n : Int} {l : List (Int × Int)} (h : PageVar w wx b n (.slice (some ⟨g, 0, none⟩) k c) l) {i : Nat} {x : Int × Int} (hx : l[i]? = some x) (y : Int) : PageVar w (wx.setCell ⟨g, i * 2, none⟩ (.int .i64 y)) b n (.slice (some ⟨g, 0, none⟩) k c) (l.set i (y, x.2)) :=
  ⟨h.below.setCell (h.own.lt g rfl).1 _, h.new, (Below.heap_setCell _ _ _ _ (fun he => h.apart (by rw [he]; rfl))).trans h.cells, Own.set kind2 h.own (k := i) (j := 0) (x := x) (x' := (y, x.2)) (u := .int .i64 y) hx (by omega) rfl, h.apart⟩
theorem isE {f : Nat → Addr} (w : World) (m : Nat) (c : Int) (hm : m < 18) (hS : Sents w f) (hc : c = 101 + (m : Int)) : Calls Tryd.prog 23 #[errV (f m), .int .i64 c] w fun e w' => e = .returned (.bool true) ∧ Below w.heap.size w w' := by
  subst hc
  exact is_any (ErrIs.bad m hm hS)
theorem noOk_n {n : Int} {l : List (Int × Int)} (h : n < 0 ∨ 1073741824 < n ∨ 20 < l.length ∨ (0 < l.length ∧ n = 0)) : ¬ OkP n l := fun ⟨h1, h2, h3, h4, _⟩ => by
  rcases h with h | h | h | ⟨h, h'⟩
  · omega
  · omega
  · omega
  · exact h4 h h'
theorem noOk_k {n : Int} {l : List (Int × Int)} {i : Nat} {x : Int × Int} (hx : l[i]? = some x) (h : x.1 < 0 ∨ 1048576 ≤ x.1) : ¬ OkP n l := fun ⟨_, _, _, _, hk⟩ => by
  have := hk i x (List.getElem?_eq_some_iff.1 hx).1 hx
  omega
theorem noOk_r {n : Int} {l : List (Int × Int)} {i : Nat} {x y : Int × Int} (hx : l[i + 1]? = some x) (hy : l[i]? = some y) (h : x.1 ≤ y.1) : ¬ OkP n l := fun ⟨_, _, _, _, hk⟩ => by
  have := (hk (i + 1) x (List.getElem?_eq_some_iff.1 hx).1 hx).2.2 y (by omega) hy
  omega
set_option maxRecDepth 10000 in
set_option maxHeartbeats 8000000 in
theorem pageBounds_walk (which n0 v : Int) (w : World) (f : Nat → Addr) (hS : Sents w f) :
    Calls Tryd.prog 9 #[.int .i64 which, .int .i64 n0, .int .i64 v] w fun e w' => e = .returned (.bool true) ∧ Below w.heap.size w w' := by
  obtain ⟨i0, hi, hz0, hz1, hz2⟩ := info_parts infoCloE
  have HS := Sc.mk hS
  obtain ⟨m, hmd⟩ : ∃ m, n0 % 20 = m := ⟨_, rfl⟩
  have hm0 : 0 ≤ m := by omega
  have hm1 : m < 20 := by omega
  obtain ⟨N, hN⟩ : ∃ N : Nat, m + 1 = (N : Int) := ⟨(m + 1).toNat, by omega⟩
  have hN1 : 1 ≤ N := by omega
  have hN20 : N ≤ 20 := by omega
  obtain ⟨kd, hkd⟩ : ∃ kd, which % 7 = kd := ⟨_, rfl⟩
  have hk0 : 0 ≤ kd := by omega
  have hk1 : kd < 7 := by omega
  have HKD := Sc.mk hkd
  have HMD := Sc.mk hmd
  clear hkd hmd hS
  go_enter Tryd.func9, Tryd.ntmps9
  go_wp2_with fail
  refine (first7_any f _ HS.out.errs).mono ?_
  rintro e w1 ⟨rfl, hb⟩
  have HB1 := Sc.mk hb
  clear hb
  go_wp2_with fail
  refine (number_is n0 20 m _ HMD.out (by omega) (by omega)).mono ?_
  rintro e w1' ⟨rfl, rfl⟩
  go_wp2_with fail
  go_loopg [9] N (fun kx s9 wr => ∃ (i : Nat) (A8 : Option Addr) (k8 c8 : Nat), s9 = .int .i64 i ∧ i ≤ N ∧ N - i ≤ kx ∧ Sc (PageVar w1 wr w1.heap.size 5 (.slice A8 k8 c8) (evV v i)))
  case atStart => exact ⟨0, none, 0, 0, rfl, by omega, by omega, ⟨PageVar.made (Below.refl _ _) Own.nil (Nat.le_refl _)⟩⟩
  case round =>
    obtain ⟨i, A8, k8, c8, rfl, hin, hg, HP⟩ := hrel
    have lb := heap_lt HP.out.cells
    obtain ⟨e0, e1⟩ := cells_page HP.out.cells
    have f1 := unfrozen_at HP.out.cells 1
    by_cases hlt : i < N
    · have hil : (i : Int) < N := by omega
      have HL : Sc ((evV v i).length = i) := ⟨evV_length v i⟩
      have HA2 : Sc ((evV v i).length + 1 ≤ maxLen) := ⟨by rw [evV_length]; unfold maxLen; omega⟩
      have HA3 : Sc (((evV v i).length + 1) * 16 ≤ 140737488355328) := ⟨by rw [evV_length]; omega⟩
      have HLW : Sc (w1.heap.size ≤ wr.heap.size) := ⟨HP.out.below.size⟩
      go_wp2_with (at_builtin; (refine wpList_append_lies _ rfl (.tmp 26) (.tmp 31) 27 rfl w1.heap.size 56 i0 (.agg #[.int .i64 0, .int .i64 0]) 2 16 Tryd.underlying27 hi hz0 hz1 hz2 rfl (by decide) _ (evV v i).length (flat enc2 (evV v i)) rfl (HP.out.own.alloc _) ⟨wr.heap.size, 0, none⟩ 1 1 (enc2 (2 * (i : Int), v)) rfl rfl (World.news_of_block (heap_alloc_new wr (.cells (enc2 (2 * (i : Int), v)).toArray 56))) (kind2.one _) Nat.one_pos HA2.out HA3.out (by have := HLW.out; simp; omega) (wr.heap.size + 1) (by simp) ?_))
      intro ga ca wa h1 h2 h3 h4
      obtain ⟨hce, hpv⟩ := HP.out.append h1 h2 h3
      have c1 := (cells_page hce).2
      have f2 := unfrozen_at hce 1
      have HPA := Sc.mk hpv
      clear h1 h2 h3 h4 hce hpv e0 e1 f1
      go_wp2
      go_roundg (N - (i + 1))
      case measure => omega
      case rel => exact ⟨i + 1, _, _, _, by go_num, by omega, Nat.le_refl _, ⟨by rw [evV_succ]; exact HPA.out⟩⟩
    · obtain rfl : i = N := by omega
      have HB2 : Sc (Below w.heap.size w wr) := ⟨below_down HB1.out HP.out.below⟩
      have HS2 := Sc.mk (HS.out.bel HB2.out)
      go_wp2_with fail
      refine (pageCheck_any f _ w1.heap.size 5 _ (evV v i) HS2.out.errs HP.out.own (by rw [evV_length]; omega)).mono ?_
      rintro e w2 ⟨hres, hb2⟩
      rcases hres with ⟨_, rfl⟩ | ⟨hno, _⟩
      · have HC2 := Sc.mk ((hb2.block _ (heap_lt HP.out.cells)).trans HP.out.cells)
        have HO2 := Sc.mk (HP.out.own.below hb2)
        have HB3 : Sc (Below w.heap.size w w2) := ⟨below_down HB2.out hb2⟩
        obtain ⟨c0, c1⟩ := cells_page HC2.out
        clear e0 e1 f1 hb2
        go_wp2_with fail
        refine (pageCopy_any _ w1.heap.size 5 _ (evV v i) HO2.out (by rw [evV_length]; omega)).mono ?_
        rintro e w3 ⟨A3, k3, c3, rfl, ho3, hb3⟩
        have HB4 : Sc (Below w.heap.size w w3) := ⟨below_down HB3.out hb3⟩
        have HQ0 : Sc (PageVar w2 (w3.alloc (.cells #[.int .i64 5, .slice A3 k3 c3] 29)) w3.heap.size 5 (.slice A3 k3 c3) (evV v i)) := ⟨PageVar.made hb3 ho3 (Nat.le_refl _)⟩
        clear c0 c1 ho3 hb3
        obtain ⟨wq, hwq⟩ : ∃ wq, w3.alloc (.cells #[.int .i64 5, .slice A3 k3 c3] 29) = wq := ⟨_, rfl⟩
        rw [hwq] at HQ0
        go_upto_block 2 with (go_at_call 17; refine (number_is which 7 kd _ HKD.out (by omega) (by omega)).mono ?_; rintro e w4 ⟨rfl, rfl⟩)
        clear hwq
        go_cut [] from 41 to 99 (fun wx => ∃ (n' : Int) (A : Option Addr) (k c : Nat) (l' : List (Int × Int)), Sc (PageVar w2 wx w3.heap.size n' (.slice A k c) l') ∧ Sc (¬ OkP n' l' ∧ l'.length ≤ 1000))
        case first =>
          obtain ⟨g, cq, he, _, _, _, _⟩ := HQ0.out.own.form (by rw [evV_length]; omega)
          injection he with hA hK hC
          rw [evV_length] at hK
          subst hA hK hC
          obtain ⟨p, rfl⟩ : ∃ p, k3 = p + 1 := ⟨k3 - 1, by omega⟩
          have hlast := evV_get v (show p < p + 1 by omega)
          have hfirst := evV_get v (show 0 < p + 1 by omega)
          have HLA := Sc.mk hlast
          have HFI := Sc.mk hfirst
          obtain ⟨q0, q1⟩ := cells_page HQ0.out.cells
          have x0 := unfrozen_at HQ0.out.cells 0
          have x1 := unfrozen_at HQ0.out.cells 1
          obtain ⟨a0, a1⟩ := HQ0.out.own.cells2 hlast
          obtain ⟨b0, b1⟩ := HQ0.out.own.cells2 hfirst
          have y0 := HQ0.out.own.unfrozen (p * 2)
          have y1 := HQ0.out.own.unfrozen 0
          have h7 : kd = 0 ∨ kd = 1 ∨ kd = 2 ∨ kd = 3 ∨ kd = 4 ∨ kd = 5 ∨ kd = 6 := by omega
          clear hlast hfirst HKD hk0 hk1
          rcases h7 with rfl | rfl | rfl | rfl | rfl | rfl | rfl
          · clear y0 y1 a0 a1 b0 b1 q0 q1 x0 x1
            go_wp2_with fail
            go_loopg [] 21 (fun kx wr' => ∃ (A9 : Option Addr) (k9 c9 : Nat) (l9 : List (Int × Int)), k9 = l9.length ∧ k9 ≤ 21 ∧ 21 - k9 ≤ kx ∧ Sc (PageVar w2 wr' w3.heap.size 5 (.slice A9 k9 c9) l9))
            case atStart => exact ⟨_, _, _, _, by rw [evV_length], by omega, by omega, HQ0⟩
            case round =>
              obtain ⟨A9, k9, c9, l9, hk9, hk21, hg9, HP9⟩ := hrel
              have lb := heap_lt HP9.out.cells
              obtain ⟨e0, e1⟩ := cells_page HP9.out.cells
              have f1 := unfrozen_at HP9.out.cells 1
              by_cases hlt : k9 ≤ 20
              · have HA2 : Sc (l9.length + 1 ≤ maxLen) := ⟨by unfold maxLen; omega⟩
                have HA3 : Sc ((l9.length + 1) * 16 ≤ 140737488355328) := ⟨by omega⟩
                have HLW : Sc (w2.heap.size ≤ wr.heap.size) := ⟨HP9.out.below.size⟩
                have HK9 := Sc.mk hk9
                have hki : ((k9 : Nat) : Int) ≤ 20 := by omega
                clear hk9
                go_wp2_with (at_builtin; (refine wpList_append_lies _ rfl (.tmp 49) (.tmp 55) 27 rfl w2.heap.size 56 i0 (.agg #[.int .i64 0, .int .i64 0]) 2 16 Tryd.underlying27 hi hz0 hz1 hz2 rfl (by decide) _ l9.length (flat enc2 l9) rfl (HP9.out.own.alloc _) ⟨wr.heap.size, 0, none⟩ 1 1 (enc2 (2 * (k9 : Int), 0)) rfl rfl (World.news_of_block (heap_alloc_new wr (.cells (enc2 (2 * (k9 : Int), 0)).toArray 56))) (kind2.one _) Nat.one_pos HA2.out HA3.out (by have := HLW.out; simp; omega) (wr.heap.size + 1) (by simp) ?_))
                intro ga ca wa h1 h2 h3 h4
                obtain ⟨hce, hpv⟩ := HP9.out.append h1 h2 h3
                have c1 := (cells_page hce).2
                have f2 := unfrozen_at hce 1
                have HPA := Sc.mk hpv
                clear h1 h2 h3 h4 hce hpv e0 e1 f1
                go_wp2
                go_roundg (21 - (k9 + 1))
                case measure => omega
                case rel => exact ⟨_, _, _, _, by rw [List.length_append]; rfl, by have := HK9.out; omega, by have := HK9.out; omega, HPA⟩
              · have hki : ¬ ((k9 : Nat) : Int) ≤ 20 := by omega
                have HK9 := Sc.mk hk9
                clear hk9
                go_wp2_with fail
                go_meet
                case rel => exact ⟨_, _, _, _, _, HP9, ⟨noOk_n (.inr (.inr (.inl (by have := HK9.out; omega)))), by have := HK9.out; omega⟩⟩
          · have lq := heap_lt HQ0.out.cells
            have HA2 : Sc ((evV v (p + 1)).length + 1 ≤ maxLen) := ⟨by rw [evV_length]; unfold maxLen; omega⟩
            have HA3 : Sc (((evV v (p + 1)).length + 1) * 16 ≤ 140737488355328) := ⟨by rw [evV_length]; omega⟩
            have HLW : Sc (w2.heap.size ≤ wq.heap.size) := ⟨HQ0.out.below.size⟩
            have hp1 : IntKind.i64.wrap (p : Int) = (p : Int) := IntWalk.i64_in _ ⟨by omega, by omega⟩
            have hpi : (p : Int) < (p : Int) + 1 := by omega
            have lg : g < wq.heap.size := World.block_lt_of_cell? _ _ a0
            clear y0 y1 b0 b1
            go_upto_region 19 with fail
            go_region_law (first | ((refine step_append_lies _ (by rfl) (.tmp 61) (.tmp 68) 27 (by rfl) w2.heap.size 56 i0 (.agg #[.int .i64 0, .int .i64 0]) 2 16 Tryd.underlying27 hi hz0 hz1 hz2 rfl (by decide) _ (evV v (p + 1)).length (flat enc2 (evV v (p + 1))) (by rfl) ((HQ0.out.own.alloc _).drew) ⟨wq.heap.size, 0, none⟩ 1 1 (enc2 (2 * (p : Int), v)) (by rfl) (by rfl) (World.news_of_block (heap_alloc_new wq (.cells (enc2 (2 * (p : Int), v)).toArray 56))) (kind2.one _) Nat.one_pos HA2.out HA3.out (by have := HLW.out; simp; omega) (wq.heap.size + 1) (by simp) ?_); intro ga ca wa h1 h2 h3 h4; obtain ⟨hce, hpv⟩ := HQ0.out.append h1 (grown_drew h2) h3; have c1 := (cells_page hce).2; have f2 := unfrozen_at hce 1; have HPA := Sc.mk hpv; clear h1 h2 h3 h4 hce hpv))
            all_goals
              clear q0 q1 x0 x1
              go_wp2_with fail
              go_meet
              case rel => exact ⟨_, _, _, _, _, HPA, ⟨noOk_r (i := p) (y := (2 * (p : Int), v)) (x := (2 * (p : Int), v)) (by rw [List.getElem?_append_right (by rw [evV_length]; omega), evV_length]; simp) (by rw [List.getElem?_append_left (by rw [evV_length]; omega)]; exact HLA.out) (Int.le_refl _), by rw [List.length_append, evV_length]; simp; omega⟩⟩
          · have lq := heap_lt HQ0.out.cells
            have HA2 : Sc ((evV v (p + 1)).length + 1 ≤ maxLen) := ⟨by rw [evV_length]; unfold maxLen; omega⟩
            have HA3 : Sc (((evV v (p + 1)).length + 1) * 16 ≤ 140737488355328) := ⟨by rw [evV_length]; omega⟩
            have HLW : Sc (w2.heap.size ≤ wq.heap.size) := ⟨HQ0.out.below.size⟩
            clear y0 y1 a0 a1 b0 b1
            go_wp2_with (at_builtin; (refine wpList_append_lies _ rfl (.tmp 74) (.tmp 79) 27 rfl w2.heap.size 56 i0 (.agg #[.int .i64 0, .int .i64 0]) 2 16 Tryd.underlying27 hi hz0 hz1 hz2 rfl (by decide) _ (evV v (p + 1)).length (flat enc2 (evV v (p + 1))) rfl (HQ0.out.own.alloc _) ⟨wq.heap.size, 0, none⟩ 1 1 (enc2 (2 * ((p : Int) + 1) - 3, 0)) rfl rfl (World.news_of_block (heap_alloc_new wq (.cells (enc2 (2 * ((p : Int) + 1) - 3, 0)).toArray 56))) (kind2.one _) Nat.one_pos HA2.out HA3.out (by have := HLW.out; simp; omega) (wq.heap.size + 1) (by simp) ?_))
            intro ga ca wa h1 h2 h3 h4
            obtain ⟨hce, hpv⟩ := HQ0.out.append h1 h2 h3
            have c1 := (cells_page hce).2
            have f2 := unfrozen_at hce 1
            have HPA := Sc.mk hpv
            clear h1 h2 h3 h4 hce hpv q0 q1 x0 x1
            go_wp2_with fail
            go_meet
            case rel => exact ⟨_, _, _, _, _, HPA, ⟨noOk_r (i := p) (y := (2 * (p : Int), v)) (x := (2 * ((p : Int) + 1) - 3, 0)) (by rw [List.getElem?_append_right (by rw [evV_length]; omega), evV_length]; simp) (by rw [List.getElem?_append_left (by rw [evV_length]; omega)]; exact HLA.out) (by show 2 * ((p : Int) + 1) - 3 ≤ 2 * (p : Int); omega), by rw [List.length_append, evV_length]; simp; omega⟩⟩
          · have hp1 : IntKind.i64.wrap ((p : Int) + 1 - 1) = (p : Int) := by rw [IntWalk.i64_in _ ⟨by omega, by omega⟩]; omega
            go_wp2_with fail
            go_meet
            case rel => exact ⟨_, _, _, _, _, ⟨HQ0.out.setK HLA.out _⟩, ⟨noOk_k (i := p) (by rw [List.getElem?_set_self (by rw [evV_length]; omega)]) (.inr (Int.le_refl _)), by rw [List.length_set, evV_length]; omega⟩⟩
          · go_wp2_with fail
            go_meet
            case rel => exact ⟨_, _, _, _, _, ⟨HQ0.out.setK (i := 0) HFI.out _⟩, ⟨noOk_k (i := 0) (by rw [List.getElem?_set_self (by rw [evV_length]; omega)]) (.inl (by simp)), by rw [List.length_set, evV_length]; omega⟩⟩
          · go_wp2_with fail
            go_meet
            case rel => exact ⟨_, _, _, _, _, ⟨HQ0.out.setN _⟩, ⟨noOk_n (l := evV v (p + 1)) (.inr (.inr (.inr ⟨by rw [evV_length]; omega, rfl⟩))), by rw [evV_length]; omega⟩⟩
          · go_wp2_with fail
            go_meet
            case rel => exact ⟨_, _, _, _, _, ⟨HQ0.out.setN _⟩, ⟨noOk_n (l := evV v (p + 1)) (.inr (.inl (by omega))), by rw [evV_length]; omega⟩⟩
        case rest =>
          obtain ⟨n', A', k', c', l', HQ, HNO⟩ := hcut
          have HB5 : Sc (Below w.heap.size w wc) := ⟨below_down HB3.out HQ.out.below⟩
          have HS5 := Sc.mk (HS.out.bel HB5.out)
          obtain ⟨q0, q1⟩ := cells_page HQ.out.cells
          go_wp2_with fail
          refine (pageBytes_any f _ w2.heap.size n' _ l' HS5.out.errs HQ.out.own (by have := HNO.out.2; omega)).mono ?_
          rintro e w5 ⟨hres, hb5⟩
          rcases hres with ⟨hok, _⟩ | ⟨_, rfl⟩
          · exact absurd hok HNO.out.1
          · have HB6 : Sc (Below w.heap.size w w5) := ⟨below_down HB5.out hb5⟩
            have HS6 := Sc.mk (HS.out.bel HB6.out)
            have hc6 := (hb5.block _ (heap_lt HQ.out.cells)).trans HQ.out.cells
            have HO6 := Sc.mk (HQ.out.own.below hb5)
            obtain ⟨r0, r1⟩ := cells_page hc6
            clear hb5 hc6 q0 q1
            go_wp2_with fail
            refine (pageCheck_any f _ w2.heap.size n' _ l' HS6.out.errs HO6.out (by have := HNO.out.2; omega)).mono ?_
            rintro e w6 ⟨hres, hb6⟩
            rcases hres with ⟨hok, _⟩ | ⟨_, rfl⟩
            · exact absurd hok HNO.out.1
            · have HB7 : Sc (Below w.heap.size w w6) := ⟨below_down HB6.out hb6⟩
              have HS7 := Sc.mk (HS.out.bel HB7.out)
              clear hb6 r0 r1
              go_wp2_with fail
              refine (isE _ 1 102 (by omega) HS7.out rfl).mono ?_
              rintro e w7 ⟨rfl, hb7⟩
              have HB8 : Sc (Below w.heap.size w w7) := ⟨below_down HB7.out hb7⟩
              have HS8 := Sc.mk (HS.out.bel HB8.out)
              clear hb7
              go_wp2_with fail
              refine (isE _ 1 102 (by omega) HS8.out rfl).mono ?_
              rintro e w8 ⟨rfl, hb8⟩
              have HB9 : Sc (Below w.heap.size w w8) := ⟨below_down HB8.out hb8⟩
              clear hb8
              go_wp2_with fail
              go_ret
              exact ⟨rfl, HB9.out⟩
      · exact absurd (evV_ok v hN20) hno
end Go.Proofs.YtmafogagkjafbaaDoor
