/- A page that came in: the document's Bytes. -/
import Derived.Test.YtmafogagkjafbaaDoorCheckR
import Derived.Test.YtmafogagkjafbaaDoorRef7B
namespace Go.Proofs.YtmafogagkjafbaaDoor
open Go.RowKit

set_option maxRecDepth 4000 in
set_option maxHeartbeats 2000000 in
theorem refPageBR_any (w : World) (n : Int) (v : Value) (l : List (Int × Int)) (hown : RdE w v l) (hlen : l.length ≤ 20) :
    Calls Tryd.prog 36 #[aggP n v] w (FreshB (pageB n l) w) := by
  obtain ⟨A, cap, rfl, hnc, hcm⟩ := hown.slice
  obtain ⟨N, hN⟩ : ∃ N, l.length = N := ⟨_, rfl⟩
  rw [hN] at hown hlen ⊢
  have HN := Sc.mk hN
  have hmk : ∀ W, (Instr.makeSlice 61 (.int .i64 256) (.int .i64 256)).run Tryd.prog W = .ok (.slice (some ⟨W.heap.size, 0, none⟩) 256 256) (W.alloc (.cells zeroRow 5)) := fun _ => by kernel_rfl
  have HB1 : Sc ((w.alloc (.cells #[.int .i64 n, .slice A N cap] 29)).heap[w.heap.size]? = some (.cells #[.int .i64 n, .slice A N cap] 29 (0, 0))) := ⟨heap_alloc_new _ _⟩
  obtain ⟨w1, hw1⟩ : ∃ w1, ((w.alloc (.cells #[.int .i64 n, .slice A N cap] 29)).alloc (.cells zeroRow 5)) = w1 := ⟨_, rfl⟩
  have HBW : Sc (Below w.heap.size w w1) := ⟨hw1 ▸ ((Below.refl _ _).alloc (Nat.le_refl _) _).alloc (by simp) _⟩
  have HC1 : Sc (w1.heap[w.heap.size]? = some (.cells #[.int .i64 n, .slice A N cap] 29 (0, 0))) := ⟨by rw [← hw1, heap_alloc_old _ _ (heap_lt HB1.out), HB1.out]⟩
  have HO1 : Sc (RdE w1 (.slice A N cap) l) := ⟨hw1 ▸ (hown.alloc _).alloc _⟩
  have HZ1 : Sc (Own encB 1 5 w.heap.size w1 (.slice (some ⟨w.heap.size + 1, 0, none⟩) 256 256) zeroB) := ⟨hw1 ▸ by
    have := (own_zeros (w.alloc (.cells #[.int .i64 n, .slice A N cap] 29))).mono (b := w.heap.size) (by simp)
    simpa using this⟩
  clear hown hN hnc hcm HB1
  go_enter Tryd.func36, Tryd.ntmps36
  go_upto_region 2 with fail
  clear hw1
  obtain ⟨p0, p1⟩ := cells_page HC1.out
  have SK : Sc (∀ W, Below w1.heap.size w1 W → W.cell? ⟨w.heap.size, 0, none⟩ = some (.int .i64 n) ∧ W.cell? ⟨w.heap.size, 1, none⟩ = some (.slice A N cap)) := ⟨fun W hb => ⟨(hb.cell (World.block_lt_of_cell? _ _ p0)).trans p0, (hb.cell (World.block_lt_of_cell? _ _ p1)).trans p1⟩⟩
  go_wp2_with fail
  refine (refPut1_any _ _ zeroB _ _ 0 4 _ HZ1.out.rd (by omega) (by omega) (by rw [zeroB_length]; omega) (by omega) (by omega) (by rw [zeroB_length]; omega)).mono ?_
  rintro e w2 ⟨v2, rfl, ho2, hb2⟩
  have HB2 := Sc.mk hb2
  obtain ⟨c0, c1⟩ := SK.out _ hb2
  have HO2 := Sc.mk ho2.rd
  clear p0 p1 ho2 hb2
  go_wp2_with fail
  refine (refPut1_any _ _ (putS zeroB 0 4 (IntKind.u64.wrap n)) _ _ 4 2 _ HO2.out (by omega) (by omega) (by rw [putS_length, zeroB_length]; omega) (by omega) (by omega) (by rw [putS_length, zeroB_length]; omega)).mono ?_
  rintro e w3 ⟨v3, rfl, ho3, hb3⟩
  have HB3 : Sc (Below w1.heap.size w1 w3) := ⟨below_down HB2.out hb3⟩
  have HO3 : Sc (Own encB 1 5 w1.heap.size w3 v3 (headB n N)) := ⟨ho3.mono HB2.out.size⟩
  clear c0 c1 ho3 hb3
  go_wp2
  go_loopg [3, 4] N (fun kx s3 s4 wr => ∃ (i : Nat), s4 = .int .i64 i ∧ i ≤ N ∧ N - i ≤ kx ∧ Sc (Own encB 1 5 w1.heap.size wr s3 (fillB (headB n N) l i)) ∧ Sc (Below w1.heap.size w1 wr))
  case atStart => exact ⟨0, rfl, by omega, by omega, HO3, HB3⟩
  case round =>
    obtain ⟨i, rfl, hi, hg, HR, HB⟩ := hrel
    obtain ⟨e0, e1⟩ := SK.out _ HB.out
    by_cases hlt : i < N
    · obtain ⟨x, hx⟩ : ∃ x, l[i]? = some x := ⟨_, List.getElem?_eq_getElem (by rw [HN.out]; exact hlt)⟩
      obtain ⟨g, off, cq, he⟩ := HO1.out.form (by rw [HN.out]; omega)
      injection he with hA hn2 hC
      subst hA
      obtain ⟨f0, f1⟩ := (HO1.out.below HB.out).cells2 hx
      have hil : (i : Int) < N := by omega
      have hi20 : i < 20 := by omega
      have HFX : Sc (fillB (headB n N) l (i + 1) = putS (putS (fillB (headB n N) l i) (16 + 12 * i) 4 (IntKind.u64.wrap x.1)) (20 + 12 * i) 8 (IntKind.u64.wrap x.2)) := ⟨by rw [fillB, entB, List.getD_eq_getElem?_getD, hx]; rfl⟩
      have HLF : Sc ((fillB (headB n N) l i).length = 256) := ⟨by rw [fillB_length, headB_length]⟩
      have HX := Sc.mk hx
      clear hx hC hn2
      go_wp2_with fail
      refine (refPut1_any _ _ (fillB (headB n N) l i) _ _ (16 + 12 * i) 4 _ HR.out.rd (by omega) (by omega) (by rw [HLF.out]; omega) (by omega) (by omega) (by rw [HLF.out]; omega)).mono ?_
      rintro e w4 ⟨v4, rfl, ho4, hb4⟩
      have HB4 : Sc (Below w1.heap.size w1 w4) := ⟨below_down HB.out hb4⟩
      have HO4 := Sc.mk ho4.rd
      obtain ⟨g0, g1⟩ := SK.out _ HB4.out
      obtain ⟨h0, h1⟩ := (HO1.out.below HB4.out).cells2 HX.out
      clear ho4 hb4 e0 e1 f0 f1
      go_wp2_with fail
      refine (refPut1_any _ _ (putS (fillB (headB n N) l i) (16 + 12 * i) 4 (IntKind.u64.wrap x.1)) _ _ (20 + 12 * i) 8 _ HO4.out (by omega) (by omega) (by rw [putS_length, HLF.out]; omega) (by omega) (by omega) (by rw [putS_length, HLF.out]; omega)).mono ?_
      rintro e w5 ⟨v5, rfl, ho5, hb5⟩
      have HB5 : Sc (Below w1.heap.size w1 w5) := ⟨below_down HB4.out hb5⟩
      have HO5 : Sc (Own encB 1 5 w1.heap.size w5 v5 (fillB (headB n N) l (i + 1))) := ⟨by rw [HFX.out]; exact ho5.mono HB4.out.size⟩
      clear ho5 hb5 g0 g1 h0 h1
      go_wp2
      go_roundg (N - (i + 1))
      case measure => omega
      case rel => exact ⟨i + 1, by go_num, by omega, Nat.le_refl _, HO5, HB5⟩
    · obtain rfl : i = N := by omega
      go_wp2
      go_ret
      exact ⟨_, rfl, by unfold pageB; rw [HN.out]; exact HR.out.mono HBW.out.size, HBW.out.trans (HB.out.mono HBW.out.size)⟩
end Go.Proofs.YtmafogagkjafbaaDoor
