/- AnalyseErrors: the walk. -/
import Derived.Test.YtoapihepdallbaaDoorLitErr
namespace Go.Proofs.YtoapihepdallbaaDoor
open Go.RowKit

set_option maxRecDepth 8000 in
set_option maxHeartbeats 8000000 in
theorem lawErrors (f : Nat → Addr) (w : World) (n : Int) (hS : Sents w f) :
    Calls Tryd.prog 4 #[.int .i64 n] w fun e w' => e = .returned (.bool true) ∧ Below w.heap.size w w' := by
  have HS := Sc.mk hS
  obtain ⟨k, hk⟩ : ∃ k : Nat, n % 10 = k := ⟨(n % 10).toNat, by omega⟩
  obtain ⟨m, hm⟩ : ∃ m : Nat, n % 6 = m := ⟨(n % 6).toNat, by omega⟩
  have hk1 : k < 10 := by omega
  have hm1 : m < 6 := by omega
  have HKM := Sc.mk (And.intro hk hm)
  have hk2 : (k : Int) < 10 := by omega
  have hm2 : (m : Int) < 6 := by omega
  clear hS hk hm
  go_enter Tryd.func4, Tryd.ntmps4
  go_wp2_with fail
  refine (first20_any f _ HS.out).mono ?_
  rintro e w1 ⟨rfl, hb⟩
  have HB1 := Sc.mk hb
  clear hb
  go_wp2_with fail
  refine (number_is n 10 k (litE w1) HKM.out.1 (by omega) (by omega)).mono ?_
  obtain ⟨g, l, p, len, hl, hp, hlen, hc, ho, hpc⟩ := thereE w1 k hk1
  have HA := Sc.mk (ansAll hl hp)
  have HO := Sc.mk ho
  have HLEN := Sc.mk hlen
  have HP := Sc.mk hpc
  have HB2 : Sc (Below w.heap.size w (litE w1)) := ⟨below_down HB1.out (allocs_below _ w1)⟩
  have HE1 : Sc ((litE w1).heap[w1.heap.size]? = some (.cells (cellsR eB) 51 (0, 0))) := ⟨allocs_at _ w1 0 _ rfl⟩
  have HE4 : Sc ((litE w1).heap[w1.heap.size + 3]? = some (.cells (cellsR eK) 51 (0, 0))) := ⟨allocs_at _ w1 3 _ rfl⟩
  have HE5 : Sc ((litE w1).heap[w1.heap.size + 4]? = some (.cells (cellsR eE) 51 (0, 0))) := ⟨allocs_at _ w1 4 _ rfl⟩
  clear hl hp hlen ho hpc
  have HC := Sc.mk hc
  clear hc
  obtain ⟨b15, h15⟩ : ∃ b, w1.heap.size + 15 = b := ⟨_, rfl⟩
  obtain ⟨b16, h16⟩ : ∃ b, w1.heap.size + 16 = b := ⟨_, rfl⟩
  obtain ⟨b4, h4⟩ : ∃ b, w1.heap.size + 4 = b := ⟨_, rfl⟩
  obtain ⟨b3, h3⟩ : ∃ b, w1.heap.size + 3 = b := ⟨_, rfl⟩
  rw [show w1.heap.size + 1 + 1 + 1 + 1 + 1 + 1 + 1 + 1 + 1 + 1 + 1 + 1 + 1 + 1 + 1 = b15 from h15, show b15 + 1 = b16 from by omega, show w1.heap.size + 1 + 1 + 1 + 1 = b4 from h4, show w1.heap.size + 1 + 1 + 1 = b3 from h3]
  rw [show w1.heap.size + (5 + 10) = b15 from h15] at HC
  rw [show w1.heap.size + (5 + 10 + 1) = b16 from h16] at HP
  rw [h3] at HE4
  rw [h4] at HE5
  obtain ⟨b0, h0⟩ : ∃ b, w1.heap.size = b := ⟨_, rfl⟩
  rw [h0] at HE1 ⊢
  clear h15 h16 h4 h3 h0
  obtain ⟨w2, hw2⟩ : ∃ w2, litE w1 = w2 := ⟨_, rfl⟩
  rw [hw2] at HB2 HC HO HP HE1 HE4 HE5 ⊢
  rintro e w2' ⟨rfl, rfl⟩
  have c15 := HC.out
  have l15 := World.block_lt_of_cell? _ _ c15
  have HL4 := Sc.mk HA.out.2
  clear hw2
  go_wp2_with fail
  refine (logs_any f w2 0 _ l 0 (HS.out.bel HB2.out) HO.out (by have := HL4.out; omega) (by omega) (by omega)).mono ?_
  rintro e w3 ⟨lb, lg, rw3, rr3, rfl, hpp, _, hb⟩
  have HL := Sc.mk hpp
  have HB3 := Sc.mk (below_down HB2.out hb)
  have HQ3 := Sc.mk hb
  clear hpp hb c15 l15
  go_wp2_with fail
  refine (anaLog_any (f := f) w3 4 0 HL.out (HS.out.bel HB3.out) (by have := List.length_filter_le goodR l; have := HL4.out; show (List.filter goodR l).length ≤ 1000; omega) (by omega) (by omega)).mono ?_
  rintro e w4 ⟨⟨p', b, hpe, rfl, hbb, hbc⟩ | ⟨vt, vd, hpe, _⟩, hb⟩
  case inr => rw [HA.out.1] at hpe; simp at hpe
  obtain rfl : p = p' := by rw [HA.out.1] at hpe; injection hpe
  have HB4 := Sc.mk (below_down HB3.out hb)
  have HQ4 := Sc.mk (HQ3.out.trans (hb.mono HQ3.out.size))
  have HBC := Sc.mk hbc
  clear hpe hbb hbc hb
  go_upto_region 16 with fail
  have hs : w4.heap.size + 1 = (w4.alloc (.cells fd0 37)).heap.size := by simp
  have HZ := Sc.mk (heap_alloc_new w4 (.cells fd0 37))
  have HB5 : Sc (Below w.heap.size w (w4.alloc (.cells fd0 37))) := ⟨dn_alloc HB4.out _⟩
  have HQ5 : Sc (Below w2.heap.size w2 (w4.alloc (.cells fd0 37))) := ⟨dn_alloc HQ4.out _⟩
  have HBC5 := Sc.mk (upa HBC.out (.cells fd0 37))
  obtain ⟨w5, hw5⟩ : ∃ w5, w4.alloc (.cells fd0 37) = w5 := ⟨_, rfl⟩
  obtain ⟨b15', hb15'⟩ : ∃ b, w4.heap.size = b := ⟨_, rfl⟩
  rw [hw5] at hs HZ HB5 HQ5 HBC5 ⊢
  rw [hb15'] at HZ ⊢
  clear hs hw5 hb15'
  obtain ⟨x0, x1, x2, x3, x4, x5, x6, x7, x8, x9⟩ := cells_recs (up HQ5.out HE1.out)
  have lx0 := heap_lt (up HQ5.out HE1.out)
  have lx1 : b0 < w5.heap.size + 1 := by omega
  have lx2 : b0 < w5.heap.size + 1 + 1 := by omega
  have lx3 : b0 < w5.heap.size + 1 + 1 + 1 := by omega
  have lx4 : b0 < w5.heap.size + 1 + 1 + 1 + 1 := by omega
  have lx5 : b0 < w5.heap.size + 1 + 1 + 1 + 1 + 1 := by omega
  have lx6 : b0 < w5.heap.size + 1 + 1 + 1 + 1 + 1 + 1 := by omega
  have lx7 : b0 < w5.heap.size + 1 + 1 + 1 + 1 + 1 + 1 + 1 := by omega
  obtain ⟨y0, y1, y2, y3, y4, y5, y6, y7, y8, y9⟩ := cells_recs (up HQ5.out HE4.out)
  have ly0 := heap_lt (up HQ5.out HE4.out)
  have ly1 : b3 < w5.heap.size + 1 := by omega
  have ly2 : b3 < w5.heap.size + 1 + 1 := by omega
  have ly3 : b3 < w5.heap.size + 1 + 1 + 1 := by omega
  have ly4 : b3 < w5.heap.size + 1 + 1 + 1 + 1 := by omega
  have ly5 : b3 < w5.heap.size + 1 + 1 + 1 + 1 + 1 := by omega
  have ly6 : b3 < w5.heap.size + 1 + 1 + 1 + 1 + 1 + 1 := by omega
  have ly7 : b3 < w5.heap.size + 1 + 1 + 1 + 1 + 1 + 1 + 1 := by omega
  obtain ⟨v0, v1, v2, v3, v4, v5, v6, v7, v8, v9⟩ := cells_recs (up HQ5.out HE5.out)
  have lv0 := heap_lt (up HQ5.out HE5.out)
  have lv1 : b4 < w5.heap.size + 1 := by omega
  have lv2 : b4 < w5.heap.size + 1 + 1 := by omega
  have lv3 : b4 < w5.heap.size + 1 + 1 + 1 := by omega
  have lv4 : b4 < w5.heap.size + 1 + 1 + 1 + 1 := by omega
  have lv5 : b4 < w5.heap.size + 1 + 1 + 1 + 1 + 1 := by omega
  have lv6 : b4 < w5.heap.size + 1 + 1 + 1 + 1 + 1 + 1 := by omega
  have lv7 : b4 < w5.heap.size + 1 + 1 + 1 + 1 + 1 + 1 + 1 := by omega
  go_wp2_with fail
  refine (number_is n 6 m (litR w5) HKM.out.2 (by omega) (by omega)).mono ?_
  obtain ⟨g', l', q, len', hl', hq, hlen', hc', ho', hqc⟩ := thereR w5 m hm1
  have HA' := Sc.mk (ansRows hl' hq)
  have HO' := Sc.mk ho'
  have HP' := Sc.mk hqc
  have HC' := Sc.mk hc'
  have HBR : Sc (Below w5.heap.size w5 (litR w5)) := ⟨allocs_below _ w5⟩
  clear hl' hq hlen' hc' ho' hqc
  clear x0 x1 x2 x3 x4 x5 x6 x7 x8 x9 y0 y1 y2 y3 y4 y5 y6 y7 y8 y9 v0 v1 v2 v3 v4 v5 v6 v7 v8 v9
  clear lx0 lx1 lx2 lx3 lx4 lx5 lx6 lx7 ly0 ly1 ly2 ly3 ly4 ly5 ly6 ly7 lv0 lv1 lv2 lv3 lv4 lv5 lv6 lv7
  obtain ⟨b6, h6⟩ : ∃ b, w5.heap.size + 6 = b := ⟨_, rfl⟩
  obtain ⟨b7, h7⟩ : ∃ b, w5.heap.size + 7 = b := ⟨_, rfl⟩
  rw [show w5.heap.size + 1 + 1 + 1 + 1 + 1 + 1 = b6 from h6, show b6 + 1 = b7 from by omega]
  rw [h6] at HC'
  rw [h7] at HP'
  clear h6 h7
  obtain ⟨w6, hw6⟩ : ∃ w6, litR w5 = w6 := ⟨_, rfl⟩
  rw [hw6] at HBR HC' HO' HP' ⊢
  have HB6 := Sc.mk (below_down HB5.out HBR.out)
  have HQ6 := Sc.mk (HQ5.out.trans (HBR.out.mono HQ5.out.size))
  have HBC6 := Sc.mk (up HBR.out HBC5.out)
  have HZ6 := Sc.mk (up HBR.out HZ.out)
  rintro e w6' ⟨rfl, rfl⟩
  have c16 := HC'.out
  have l16 := World.block_lt_of_cell? _ _ c16
  have HL4' := Sc.mk HA'.out.2
  clear hw6 HBR
  go_wp2_with fail
  refine (logs_any f w6 0 _ l' 0 (HS.out.bel HB6.out) HO'.out (by have := HL4'.out; omega) (by omega) (by omega)).mono ?_
  rintro e w7 ⟨lb', lg', rw7, rr7, rfl, hpp, _, hb⟩
  have HL' := Sc.mk hpp
  have HB7 := Sc.mk (below_down HB6.out hb)
  have HQ7 := Sc.mk hb
  clear hpp hb c16 l16
  go_wp2_with fail
  refine (anaLog_any (f := f) w7 4 1 HL'.out (HS.out.bel HB7.out) (by have := List.length_filter_le goodR l'; have := HL4'.out; show (List.filter goodR l').length ≤ 1000; omega) (by omega) (by omega)).mono ?_
  rintro e w8 ⟨⟨q', b8, hpe, rfl, hbb, hbc⟩ | ⟨vt, vd, hpe, _⟩, hb⟩
  case inr => rw [HA'.out.1] at hpe; simp at hpe
  obtain rfl : q = q' := by rw [HA'.out.1] at hpe; injection hpe
  have HB8 := Sc.mk (below_down HB7.out hb)
  have HQ8 := Sc.mk (HQ7.out.trans (hb.mono HQ7.out.size))
  have HBC8 := Sc.mk hbc
  clear hpe hbb hbc hb
  have HQ28 : Sc (Below w2.heap.size w2 w8) := ⟨HQ6.out.trans (HQ8.out.mono HQ6.out.size)⟩
  have p16 : w8.cell? ⟨b16, k, none⟩ = some (.int .i64 p) := (HQ28.out.cell (World.block_lt_of_cell? _ _ HP.out)).trans HP.out
  have l16 := World.block_lt_of_cell? _ _ p16
  have HBa : Sc (Below w8.heap.size w8 (w8.alloc (.cells fd0 37))) := ⟨dn_alloc (Below.refl _ _) _⟩
  go_wp2_with fail
  refine (placed_any _ 108 p (by omega)).mono ?_
  rintro e w9 ⟨rfl, hb⟩
  have HQ9 := Sc.mk (below_down HBa.out hb)
  have HB9 := Sc.mk (below_down HB8.out HQ9.out)
  have HQ69 := Sc.mk (below_down HQ8.out HQ9.out)
  clear hb p16 l16
  go_wp2_with fail
  refine (sameAt_any f w9 b p (HS.out.bel HB9.out) (up HQ69.out HBC6.out)).mono ?_
  rintro e w10 ⟨rfl, hb⟩
  have HQ10 := Sc.mk (below_down HQ69.out hb)
  have HQ810 := Sc.mk (below_down HQ9.out hb)
  have HB10 := Sc.mk (below_down HB9.out hb)
  have p7 : w10.cell? ⟨b7, m, none⟩ = some (.int .i64 q) := (HQ10.out.cell (World.block_lt_of_cell? _ _ HP'.out)).trans HP'.out
  have l7 := World.block_lt_of_cell? _ _ p7
  obtain ⟨t0, t1, t2⟩ := cells_fd (up HQ10.out HZ6.out)
  have lt0 := heap_lt (up HQ10.out HZ6.out)
  clear hb
  go_wp2_with fail
  refine (placed_any _ 108 q (by omega)).mono ?_
  rintro e w11 ⟨rfl, hb⟩
  have HQ811 := Sc.mk (below_down HQ810.out hb)
  have HB11 := Sc.mk (below_down HB10.out hb)
  clear hb p7 l7 t0 t1 t2 lt0
  go_wp2_with fail
  refine (sameAt_any f w11 b8 q (HS.out.bel HB11.out) (up HQ811.out HBC8.out)).mono ?_
  rintro e w12 ⟨rfl, hb⟩
  have HB12 := Sc.mk (below_down HB11.out hb)
  clear hb
  go_wp2
  go_ret
  exact ⟨rfl, HB12.out⟩
end Go.Proofs.YtoapihepdallbaaDoor
