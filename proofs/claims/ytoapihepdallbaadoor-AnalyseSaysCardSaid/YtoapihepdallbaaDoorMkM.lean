/- A record out of few numbers: phoenixmake.Seq.Next, phoenixmake.Rec. Records out of few numbers: phoenixmake.Recs. -/
import Derived.Test.YtoapihepdallbaaDoorNum
import Derived.Test.YtoapihepdallbaaDoorFinM
import Derived.Test.YtoapihepdallbaaDoorRecC
import Derived.BigGuardPart
import Derived.IntWalk
import Derived.Test.YtoapihepdallbaaDoorRefRow
namespace Go.Proofs.YtoapihepdallbaaDoor
section
open Go.RowKit

theorem cells_page {w : World} {b : Nat} {v u : Value} {t : TypeId} (h : w.heap[b]? = some (.cells #[v, u] t (0, 0))) : w.cell? ⟨b, 0, none⟩ = some v ∧ w.cell? ⟨b, 1, none⟩ = some u := by simp [World.cell?, h]
/-- Numbers that came in, k of them taken. -/
structure SeqIs (w0 w : World) (b : Nat) (a : Option Addr) (len cap : Nat) (zs : List Int) (k : Nat) : Prop where
  row : IsRow .i64 w0 a len cap zs
  cells : w.heap[b]? = some (.cells #[.slice a len cap, .int .i64 k] 29 (0, 0))
  new : w0.heap.size ≤ b
  below : Below w0.heap.size w0 w
theorem SeqIs.bel {w0 w w' : World} {b : Nat} {a : Option Addr} {len cap : Nat} {zs : List Int} {k : Nat} (h : SeqIs w0 w b a len cap zs k) (hb : Below w.heap.size w w') : SeqIs w0 w' b a len cap zs k :=
  ⟨h.row, (hb.block _ (heap_lt h.cells)).trans h.cells, h.new, h.below.trans (hb.mono h.below.size)⟩
theorem SeqIs.next {w0 w w' : World} {b : Nat} {a : Option Addr} {len cap : Nat} {zs : List Int} {k : Nat} (h : SeqIs w0 w b a len cap zs k) (hb : Below w.heap.size w w') :
    SeqIs w0 (w'.setCell ⟨b, 1, none⟩ (.int .i64 ((k : Int) + 1))) b a len cap zs (k + 1) ∧ Kp (fun q => q = b) w (w'.setCell ⟨b, 1, none⟩ (.int .i64 ((k : Int) + 1))) := by
  have hc := (hb.block _ (heap_lt h.cells)).trans h.cells
  refine ⟨⟨h.row, ?_, h.new, (h.below.trans (hb.mono h.below.size)).setCell h.new _⟩, (Kp.of_below hb _).trans (Kp.setCell w' ⟨b, 1, none⟩ _) (fun q hq => .inl hq)⟩
  rw [set_one hc 1 _]; rfl
/-- What Next leaves. -/
def NextLeft (w0 w : World) (b : Nat) (a : Option Addr) (len cap : Nat) (zs : List Int) (k : Nat) (m : Int) (e : Ending) (w' : World) : Prop :=
  ∃ r : Int, 0 ≤ r ∧ r < m ∧ e = .returned (.int .i64 r) ∧ SeqIs w0 w' b a len cap zs (k + 1) ∧ Kp (fun q => q = b) w w'

theorem below_drewN' {B : Nat} {w0 w : World} (h : Below B w0 w) (n : Nat) : Below B w0 (w.drewN n) := ⟨h.os, h.tape, h.output, h.size, h.block⟩

set_option maxRecDepth 4000 in
set_option maxHeartbeats 1000000 in
theorem next_any (w0 w : World) (b : Nat) (a : Option Addr) (len cap : Nat) (zs : List Int) (k : Nat) (m : Int) (h : SeqIs w0 w b a len cap zs k) (hk : k ≤ 1000000) (h0 : 0 < m) (h1 : m ≤ 1000000) :
    Calls Tryd.prog 16 #[.pointer (some ⟨b, 0, none⟩), .int .i64 m] w (NextLeft w0 w b a len cap zs k m) := by
  have HS := Sc.mk h
  obtain ⟨c0, c1⟩ := cells_page h.cells
  have f1 := unfrozen_at h.cells 1
  have lb := heap_lt h.cells
  by_cases hlt : k < len
  · obtain ⟨g, off, rfl, hgw, hz⟩ := h.row.at (by omega)
    have hd := (h.below.cell (p := ⟨g, off + k, none⟩) hgw).trans (hz k hlt)
    generalize zs.getD k 0 = z at hd
    have hki : (k : Int) < len := by omega
    have hk0 : (0 : Int) ≤ (k : Int) := Int.natCast_nonneg _
    clear h hz
    go_enter Tryd.func16, Tryd.ntmps16
    go_wp2_with fail
    go_quiet (fail)
    go_wp2_with fail
    go_quiet (fail)
    go_wp2_with (go_at_call 7; go_loud (refine (number_any z m _ h0 h1).mono ?_; rintro e w2 ⟨rfl, rfl⟩))
    go_ret
    exact ⟨z % m, Int.emod_nonneg _ (by omega), Int.emod_lt_of_pos _ h0, rfl, HS.out.next (below_drewN' (Below.refl _ _) _)⟩
  · have hki : ¬ (k : Int) < len := by omega
    have hk0 : (0 : Int) ≤ (k : Int) := Int.natCast_nonneg _
    clear h
    go_enter Tryd.func16, Tryd.ntmps16
    go_wp2_with fail
    go_quiet (fail)
    go_wp2_with (go_at_call 7; go_loud (refine (number_any 0 m _ h0 h1).mono ?_; rintro e w2 ⟨rfl, rfl⟩))
    go_ret
    exact ⟨0 % m, Int.emod_nonneg _ (by omega), Int.emod_lt_of_pos _ h0, rfl, HS.out.next (below_drewN' (Below.refl _ _) _)⟩

/-- The numbers that came in, in a variable of their own. -/
theorem SeqIs.made {w0 w : World} {a : Option Addr} {len cap : Nat} {zs : List Int} (hr : IsRow .i64 w0 a len cap zs) (hb : Below w0.heap.size w0 w) : SeqIs w0 (w.alloc (.cells #[.slice a len cap, .int .i64 0] 29)) w.heap.size a len cap zs 0 :=
  ⟨hr, heap_alloc_new w _, hb.size, hb.alloc hb.size _⟩
/-- A record under way in a variable, the numbers it is made of in another; at most m of them taken behind k0. -/
structure RecMk (w0 w wr : World) (b b2 b3 : Nat) (a : Option Addr) (len cap : Nat) (zs : List Int) (k0 m k : Nat) (kd : Int) : Prop where
  seq : SeqIs w0 wr b a len cap zs k
  kp : Kp (fun q => q = b) w wr
  res : wr.heap[b2]? = some (.cells (cellsR zeroR) 51 (0, 0))
  rcd : ∃ r : RecD, r.kind = kd ∧ wr.heap[b3]? = some (.cells (cellsR r) 51 (0, 0))
  few : k ≤ k0 + m
  old : b < w.heap.size
  new2 : w.heap.size ≤ b2
  new3 : w.heap.size ≤ b3
  ne : b2 ≠ b3
section
variable {w0 w wr w' : World} {b b2 b3 : Nat} {a : Option Addr} {len cap : Nat} {zs : List Int} {k0 m m' k k' : Nat} {kd : Int}
theorem RecMk.more (h : RecMk w0 w wr b b2 b3 a len cap zs k0 m k kd) (hm : m ≤ m') : RecMk w0 w wr b b2 b3 a len cap zs k0 m' k kd :=
  ⟨h.seq, h.kp, h.res, h.rcd, by have := h.few; omega, h.old, h.new2, h.new3, h.ne⟩
theorem RecMk.next (h : RecMk w0 w wr b b2 b3 a len cap zs k0 m k kd) (hs : SeqIs w0 w' b a len cap zs (k + 1)) (hk : Kp (fun q => q = b) wr w') : RecMk w0 w w' b b2 b3 a len cap zs k0 (m + 1) (k + 1) kd := by
  obtain ⟨r, hr, hc⟩ := h.rcd
  exact ⟨hs, h.kp.trans hk (fun _ hq => .inl hq), hk.at h.res (fun he => by have := h.old; have := h.new2; omega), ⟨r, hr, hk.at hc (fun he => by have := h.old; have := h.new3; omega)⟩, by have := h.few; omega, h.old, h.new2, h.new3, h.ne⟩
theorem RecMk.set (h : RecMk w0 w wr b b2 b3 a len cap zs k0 m k kd) (j : Nat) (u : Value) (hu : ∀ r : RecD, r.kind = kd → ∃ r' : RecD, r'.kind = kd ∧ (cellsR r).setIfInBounds j u = cellsR r') : RecMk w0 w (wr.setCell ⟨b3, j, none⟩ u) b b2 b3 a len cap zs k0 m k kd := by
  obtain ⟨r, hr, hc⟩ := h.rcd
  obtain ⟨r', hr', he⟩ := hu r hr
  have hk := Kp.setCell wr ⟨b3, j, none⟩ u
  refine ⟨⟨h.seq.row, hk.at h.seq.cells (fun he => by have he : b = b3 := he; have := h.old; have := h.new3; omega), h.seq.new, h.seq.below.setCell (by have := h.seq.new; have := h.old; have := h.new3; show w0.heap.size ≤ b3; omega) _⟩,
    h.kp.trans hk (fun q hq => .inr (by rw [hq]; exact h.new3)), hk.at h.res (fun he => h.ne he), ⟨r', hr', ?_⟩, h.few, h.old, h.new2, h.new3, h.ne⟩
  rw [set_one hc j u, he]
theorem RecMk.set1 (h : RecMk w0 w wr b b2 b3 a len cap zs k0 m k kd) (z : Int) : RecMk w0 w (wr.setCell ⟨b3, 1, none⟩ (.int .i64 z)) b b2 b3 a len cap zs k0 m k kd := h.set 1 _ fun r hr => ⟨{ r with txn := z }, hr, rfl⟩
theorem RecMk.set2 (h : RecMk w0 w wr b b2 b3 a len cap zs k0 m k kd) (z : Int) : RecMk w0 w (wr.setCell ⟨b3, 2, none⟩ (.int .i64 z)) b b2 b3 a len cap zs k0 m k kd := h.set 2 _ fun r hr => ⟨{ r with page := z }, hr, rfl⟩
theorem RecMk.set3 (h : RecMk w0 w wr b b2 b3 a len cap zs k0 m k kd) (z : Int) : RecMk w0 w (wr.setCell ⟨b3, 3, none⟩ (.int .i64 z)) b b2 b3 a len cap zs k0 m k kd := h.set 3 _ fun r hr => ⟨{ r with prev := z }, hr, rfl⟩
theorem RecMk.set4 (h : RecMk w0 w wr b b2 b3 a len cap zs k0 m k kd) (z : Int) : RecMk w0 w (wr.setCell ⟨b3, 4, none⟩ (.int .i64 z)) b b2 b3 a len cap zs k0 m k kd := h.set 4 _ fun r hr => ⟨{ r with next := z }, hr, rfl⟩
theorem RecMk.set5 (h : RecMk w0 w wr b b2 b3 a len cap zs k0 m k kd) (z : Int) : RecMk w0 w (wr.setCell ⟨b3, 5, none⟩ (.int .i64 z)) b b2 b3 a len cap zs k0 m k kd := h.set 5 _ fun r hr => ⟨{ r with key := z }, hr, rfl⟩
theorem RecMk.set6 (h : RecMk w0 w wr b b2 b3 a len cap zs k0 m k kd) (z : Bool) : RecMk w0 w (wr.setCell ⟨b3, 6, none⟩ (.bool z)) b b2 b3 a len cap zs k0 m k kd := h.set 6 _ fun r hr => ⟨{ r with had := z }, hr, rfl⟩
theorem RecMk.set7 (h : RecMk w0 w wr b b2 b3 a len cap zs k0 m k kd) (z : Bool) : RecMk w0 w (wr.setCell ⟨b3, 7, none⟩ (.bool z)) b b2 b3 a len cap zs k0 m k kd := h.set 7 _ fun r hr => ⟨{ r with has := z }, hr, rfl⟩
theorem RecMk.set8 (h : RecMk w0 w wr b b2 b3 a len cap zs k0 m k kd) (z : Int) : RecMk w0 w (wr.setCell ⟨b3, 8, none⟩ (.int .i64 z)) b b2 b3 a len cap zs k0 m k kd := h.set 8 _ fun r hr => ⟨{ r with old := z }, hr, rfl⟩
theorem RecMk.set9 (h : RecMk w0 w wr b b2 b3 a len cap zs k0 m k kd) (z : Int) : RecMk w0 w (wr.setCell ⟨b3, 9, none⟩ (.int .i64 z)) b b2 b3 a len cap zs k0 m k kd := h.set 9 _ fun r hr => ⟨{ r with new := z }, hr, rfl⟩
theorem RecMk.call (h : RecMk w0 w wr b b2 b3 a len cap zs k0 m k kd) {n : Int} (hk : k0 ≤ 1000) (hm : m ≤ 1000) (h0 : 0 < n) (h1 : n ≤ 1000000) :
    Calls Tryd.prog 16 #[.pointer (some ⟨b, 0, none⟩), .int .i64 n] wr fun e w' => ∃ r : Int, 0 ≤ r ∧ r < n ∧ e = .returned (.int .i64 r) ∧ RecMk w0 w w' b b2 b3 a len cap zs k0 (m + 1) (k + 1) kd :=
  (next_any w0 _ b a len cap zs k n h.seq (by have := h.few; omega) h0 h1).mono fun e w' ⟨r, h0, h1, he, hs, hk⟩ => ⟨r, h0, h1, he, h.next hs hk⟩
end
theorem kp_st10 {w : World} {b : Nat} {u0 u1 u2 u3 u4 u5 u6 u7 u8 u9 : Value} : Kp (fun q => q = b) w ((((((((((w.setCell ⟨b, 0, none⟩ u0).setCell ⟨b, 1, none⟩ u1).setCell ⟨b, 2, none⟩ u2).setCell ⟨b, 3, none⟩ u3).setCell ⟨b, 4, none⟩ u4).setCell ⟨b, 5, none⟩ u5).setCell ⟨b, 6, none⟩ u6).setCell ⟨b, 7, none⟩ u7).setCell ⟨b, 8, none⟩ u8).setCell ⟨b, 9, none⟩ u9) :=
  (((((((((Kp.setCell w ⟨b, 0, none⟩ u0).trans (Kp.setCell _ ⟨b, 1, none⟩ u1) (fun _ hq => .inl hq)).trans (Kp.setCell _ ⟨b, 2, none⟩ u2) (fun _ hq => .inl hq)).trans (Kp.setCell _ ⟨b, 3, none⟩ u3) (fun _ hq => .inl hq)).trans (Kp.setCell _ ⟨b, 4, none⟩ u4) (fun _ hq => .inl hq)).trans (Kp.setCell _ ⟨b, 5, none⟩ u5) (fun _ hq => .inl hq)).trans (Kp.setCell _ ⟨b, 6, none⟩ u6) (fun _ hq => .inl hq)).trans (Kp.setCell _ ⟨b, 7, none⟩ u7) (fun _ hq => .inl hq)).trans (Kp.setCell _ ⟨b, 8, none⟩ u8) (fun _ hq => .inl hq)).trans (Kp.setCell _ ⟨b, 9, none⟩ u9) (fun _ hq => .inl hq)
theorem SeqIs.kp {w0 w w' : World} {b b2 : Nat} {a : Option Addr} {len cap : Nat} {zs : List Int} {k : Nat} (h : SeqIs w0 w b a len cap zs k) (hk : Kp (fun q => q = b2) w w') (hne : b ≠ b2) (h0 : w0.heap.size ≤ b2) : SeqIs w0 w' b a len cap zs k :=
  ⟨h.row, hk.at h.cells hne, h.new, h.below.trans (hk.below h.below.size (fun q hq => by rw [hq]; exact h0))⟩
/-- What phoenixmake.Rec leaves. -/
def RecMade (w0 w : World) (b : Nat) (a : Option Addr) (len cap : Nat) (zs : List Int) (k : Nat) (e : Ending) (w' : World) : Prop :=
  ∃ (r : RecD) (k' : Nat), e = .returned (aggR r) ∧ SeqIs w0 w' b a len cap zs k' ∧ k' ≤ k + 20 ∧ Kp (fun q => q = b) w w'

set_option maxRecDepth 10000 in
set_option maxHeartbeats 8000000 in
theorem makeRec_any (w0 w : World) (b : Nat) (a : Option Addr) (len cap : Nat) (zs : List Int) (k : Nat) (h : SeqIs w0 w b a len cap zs k) (hk : k ≤ 1000) :
    Calls Tryd.prog 17 #[.pointer (some ⟨b, 0, none⟩)] w (RecMade w0 w b a len cap zs k) := by
  have HS := Sc.mk h
  have lb0 := heap_lt h.cells
  clear h
  go_enter Tryd.func17, Tryd.ntmps17
  go_wp2_with fail
  refine (next_any w0 _ b a len cap zs k 10 (HS.out.bel ((Below.refl _ _).alloc (Nat.le_refl _) _)) (by omega) (by omega) (by omega)).mono ?_
  rintro e w1 ⟨r1, h10, h11, rfl, hs1, hk1⟩
  go_upto_region 2 with fail
  have hsz := hk1.size
  simp at hsz
  obtain ⟨kd, hkd⟩ : ∃ kd, 1 + r1 = kd := ⟨_, rfl⟩
  obtain ⟨b2, hb2⟩ : ∃ b2, w.heap.size = b2 := ⟨_, rfl⟩
  obtain ⟨b3, hb3⟩ : ∃ b3, w1.heap.size = b3 := ⟨_, rfl⟩
  obtain ⟨wa, hwa⟩ : ∃ wa, w1.alloc (.cells (cellsR ⟨1 + r1, 0, 0, 0, 0, 0, false, false, 0, 0⟩) 51) = wa := ⟨_, rfl⟩
  have HM : Sc (RecMk w0 w wa b b2 b3 a len cap zs k 1 (k + 1) kd) := ⟨by
    rw [← hwa, ← hb2, ← hb3]
    exact ⟨hs1.bel ((Below.refl _ _).alloc (Nat.le_refl _) _), ((Kp.alloc w _ _).trans hk1 (fun _ hq => .inl hq)).trans (Kp.alloc w1 _ (fun q => q = b)) (fun _ hq => .inl hq),
      (heap_alloc_old w1 _ (by omega)).trans (hk1.at (heap_alloc_new w _) (by omega)), ⟨_, hkd, heap_alloc_new w1 _⟩, by omega, lb0, Nat.le_refl _, by omega, by omega⟩⟩
  clear hs1 hk1
  rw [hwa, hb2, hb3]
  have hkd1 : 1 ≤ kd := by omega
  have hkd2 : kd ≤ 10 := by omega
  have HWZ : Sc (w.heap.size = b2) := ⟨hb2⟩
  clear hwa hb3 hb2 hsz hkd
  obtain ⟨rr, hrk, hrc⟩ := HM.out.rcd
  obtain ⟨r0, r1, r2, r3, r4, r5, r6, r7, r8, r9⟩ := cells_recs hrc
  rw [hrk] at r0
  have g1 := unfrozen_at hrc 1
  have g2 := unfrozen_at hrc 2
  have g3 := unfrozen_at hrc 3
  have g4 := unfrozen_at hrc 4
  have g5 := unfrozen_at hrc 5
  have g6 := unfrozen_at hrc 6
  have g7 := unfrozen_at hrc 7
  have g8 := unfrozen_at hrc 8
  have g9 := unfrozen_at hrc 9
  have lb := heap_lt hrc
  clear hrc hrk
  go_cut [16] from 9 to 16 (fun sx wx => ∃ q : Bool, sx = .bool q ∧ wa = wx)
  case first =>
    by_cases h6 : kd ≤ 6
    · go_wp2_with fail
      go_meet
      case rel => exact ⟨_, rfl, rfl⟩
    · go_wp2_with fail
      go_meet
      case rel => exact ⟨_, rfl, rfl⟩
  case rest =>
  obtain ⟨q16, rfl, rfl⟩ := hcut
  go_upto_if 16 with fail
  go_cut [] from 17 to 20 (fun wx => ∃ k9 : Nat, Sc (RecMk w0 w wx b b2 b3 a len cap zs k 2 k9 kd))
  case first =>
    cases q16
    all_goals
      go_wp2_with (go_at_call 16; go_loud ((first | (with_reducible refine (HM.out.call hk (by omega) (by omega) (by omega)).mono ?_) | (with_reducible refine ((HM.out.set1 _).call hk (by omega) (by omega) (by omega)).mono ?_) | (with_reducible refine ((HM.out.set2 _).call hk (by omega) (by omega) (by omega)).mono ?_) | (with_reducible refine ((HM.out.set3 _).call hk (by omega) (by omega) (by omega)).mono ?_) | (with_reducible refine ((HM.out.set4 _).call hk (by omega) (by omega) (by omega)).mono ?_) | (with_reducible refine ((HM.out.set5 _).call hk (by omega) (by omega) (by omega)).mono ?_) | (with_reducible refine ((HM.out.set6 _).call hk (by omega) (by omega) (by omega)).mono ?_) | (with_reducible refine ((HM.out.set7 _).call hk (by omega) (by omega) (by omega)).mono ?_) | (with_reducible refine ((HM.out.set8 _).call hk (by omega) (by omega) (by omega)).mono ?_) | (with_reducible refine ((HM.out.set9 _).call hk (by omega) (by omega) (by omega)).mono ?_)); rintro e w9 ⟨rz, hz0, hz1, rfl, hm9⟩; replace HM := Sc.mk hm9; clear hm9 r0 r1 r2 r3 r4 r5 r6 r7 r8 r9 g1 g2 g3 g4 g5 g6 g7 g8 g9 lb; obtain ⟨rr, hrk, hrc⟩ := HM.out.rcd; obtain ⟨r0, r1, r2, r3, r4, r5, r6, r7, r8, r9⟩ := cells_recs hrc; rw [hrk] at r0; have g1 := unfrozen_at hrc 1; have g2 := unfrozen_at hrc 2; have g3 := unfrozen_at hrc 3; have g4 := unfrozen_at hrc 4; have g5 := unfrozen_at hrc 5; have g6 := unfrozen_at hrc 6; have g7 := unfrozen_at hrc 7; have g8 := unfrozen_at hrc 8; have g9 := unfrozen_at hrc 9; have lb := heap_lt hrc; clear hrc hrk))
      all_goals
        go_meet
        case rel => first | exact ⟨_, ⟨HM.out.more (by omega)⟩⟩ | exact ⟨_, ⟨(HM.out.set1 _).more (by omega)⟩⟩ | exact ⟨_, ⟨(HM.out.set2 _).more (by omega)⟩⟩ | exact ⟨_, ⟨(HM.out.set3 _).more (by omega)⟩⟩ | exact ⟨_, ⟨(HM.out.set4 _).more (by omega)⟩⟩ | exact ⟨_, ⟨(HM.out.set5 _).more (by omega)⟩⟩ | exact ⟨_, ⟨(HM.out.set6 _).more (by omega)⟩⟩ | exact ⟨_, ⟨(HM.out.set7 _).more (by omega)⟩⟩ | exact ⟨_, ⟨(HM.out.set8 _).more (by omega)⟩⟩ | exact ⟨_, ⟨(HM.out.set9 _).more (by omega)⟩⟩
  case rest =>
  clear HM r0 r1 r2 r3 r4 r5 r6 r7 r8 r9 g1 g2 g3 g4 g5 g6 g7 g8 g9 lb
  obtain ⟨k9, HM⟩ := hcut
  obtain ⟨wa, rfl⟩ : ∃ wa : World, wa = wc := ⟨_, rfl⟩
  obtain ⟨rr, hrk, hrc⟩ := HM.out.rcd
  obtain ⟨r0, r1, r2, r3, r4, r5, r6, r7, r8, r9⟩ := cells_recs hrc
  rw [hrk] at r0
  have g1 := unfrozen_at hrc 1
  have g2 := unfrozen_at hrc 2
  have g3 := unfrozen_at hrc 3
  have g4 := unfrozen_at hrc 4
  have g5 := unfrozen_at hrc 5
  have g6 := unfrozen_at hrc 6
  have g7 := unfrozen_at hrc 7
  have g8 := unfrozen_at hrc 8
  have g9 := unfrozen_at hrc 9
  have lb := heap_lt hrc
  clear hrc hrk
  go_upto_region 4 with fail
  go_cut [4] from 21 to 28 (fun sx wx => ∃ q : Bool, sx = .bool q ∧ wa = wx)
  case first =>
    by_cases h2 : kd = 2
    · have e2 : (kd == 2) = true := by simp [h2]
      clear h2
      go_wp2_with fail
      go_meet
      case rel => exact ⟨_, rfl, rfl⟩
    · have e2 : (kd == 2) = false := by simp [h2]
      go_wp2_with fail
      go_meet
      case rel => exact ⟨_, rfl, rfl⟩
  case rest =>
  obtain ⟨q4, rfl, rfl⟩ := hcut
  go_upto_region 5 with fail
  go_cut [34] from 29 to 34 (fun sx wx => ∃ q : Bool, sx = .bool q ∧ wa = wx)
  case first =>
    cases q4 with
    | true =>
      go_wp2_with fail
      go_meet
      case rel => exact ⟨_, rfl, rfl⟩
    | false =>
      go_wp2_with fail
      go_meet
      case rel => exact ⟨_, rfl, rfl⟩
  case rest =>
  obtain ⟨q34, rfl, rfl⟩ := hcut
  go_upto_if 34 with fail
  go_cut [] from 35 to 38 (fun wx => ∃ k9 : Nat, Sc (RecMk w0 w wx b b2 b3 a len cap zs k 3 k9 kd))
  case first =>
    cases q34
    all_goals
      go_wp2_with (go_at_call 16; go_loud ((first | (with_reducible refine (HM.out.call hk (by omega) (by omega) (by omega)).mono ?_) | (with_reducible refine ((HM.out.set1 _).call hk (by omega) (by omega) (by omega)).mono ?_) | (with_reducible refine ((HM.out.set2 _).call hk (by omega) (by omega) (by omega)).mono ?_) | (with_reducible refine ((HM.out.set3 _).call hk (by omega) (by omega) (by omega)).mono ?_) | (with_reducible refine ((HM.out.set4 _).call hk (by omega) (by omega) (by omega)).mono ?_) | (with_reducible refine ((HM.out.set5 _).call hk (by omega) (by omega) (by omega)).mono ?_) | (with_reducible refine ((HM.out.set6 _).call hk (by omega) (by omega) (by omega)).mono ?_) | (with_reducible refine ((HM.out.set7 _).call hk (by omega) (by omega) (by omega)).mono ?_) | (with_reducible refine ((HM.out.set8 _).call hk (by omega) (by omega) (by omega)).mono ?_) | (with_reducible refine ((HM.out.set9 _).call hk (by omega) (by omega) (by omega)).mono ?_)); rintro e w9 ⟨rz, hz0, hz1, rfl, hm9⟩; replace HM := Sc.mk hm9; clear hm9 r0 r1 r2 r3 r4 r5 r6 r7 r8 r9 g1 g2 g3 g4 g5 g6 g7 g8 g9 lb; obtain ⟨rr, hrk, hrc⟩ := HM.out.rcd; obtain ⟨r0, r1, r2, r3, r4, r5, r6, r7, r8, r9⟩ := cells_recs hrc; rw [hrk] at r0; have g1 := unfrozen_at hrc 1; have g2 := unfrozen_at hrc 2; have g3 := unfrozen_at hrc 3; have g4 := unfrozen_at hrc 4; have g5 := unfrozen_at hrc 5; have g6 := unfrozen_at hrc 6; have g7 := unfrozen_at hrc 7; have g8 := unfrozen_at hrc 8; have g9 := unfrozen_at hrc 9; have lb := heap_lt hrc; clear hrc hrk))
      all_goals
        go_meet
        case rel => first | exact ⟨_, ⟨HM.out.more (by omega)⟩⟩ | exact ⟨_, ⟨(HM.out.set1 _).more (by omega)⟩⟩ | exact ⟨_, ⟨(HM.out.set2 _).more (by omega)⟩⟩ | exact ⟨_, ⟨(HM.out.set3 _).more (by omega)⟩⟩ | exact ⟨_, ⟨(HM.out.set4 _).more (by omega)⟩⟩ | exact ⟨_, ⟨(HM.out.set5 _).more (by omega)⟩⟩ | exact ⟨_, ⟨(HM.out.set6 _).more (by omega)⟩⟩ | exact ⟨_, ⟨(HM.out.set7 _).more (by omega)⟩⟩ | exact ⟨_, ⟨(HM.out.set8 _).more (by omega)⟩⟩ | exact ⟨_, ⟨(HM.out.set9 _).more (by omega)⟩⟩
  case rest =>
  clear HM r0 r1 r2 r3 r4 r5 r6 r7 r8 r9 g1 g2 g3 g4 g5 g6 g7 g8 g9 lb
  obtain ⟨k9, HM⟩ := hcut
  obtain ⟨wa, rfl⟩ : ∃ wa : World, wa = wc := ⟨_, rfl⟩
  obtain ⟨rr, hrk, hrc⟩ := HM.out.rcd
  obtain ⟨r0, r1, r2, r3, r4, r5, r6, r7, r8, r9⟩ := cells_recs hrc
  rw [hrk] at r0
  have g1 := unfrozen_at hrc 1
  have g2 := unfrozen_at hrc 2
  have g3 := unfrozen_at hrc 3
  have g4 := unfrozen_at hrc 4
  have g5 := unfrozen_at hrc 5
  have g6 := unfrozen_at hrc 6
  have g7 := unfrozen_at hrc 7
  have g8 := unfrozen_at hrc 8
  have g9 := unfrozen_at hrc 9
  have lb := heap_lt hrc
  clear hrc hrk
  go_upto_block 0 with fail
  go_cut [] from 41 to 57 (fun wx => ∃ k9 : Nat, Sc (RecMk w0 w wx b b2 b3 a len cap zs k 4 k9 kd))
  case first =>
    all_goals
      go_wp2_with (go_at_call 16; go_loud ((first | (with_reducible refine (HM.out.call hk (by omega) (by omega) (by omega)).mono ?_) | (with_reducible refine ((HM.out.set1 _).call hk (by omega) (by omega) (by omega)).mono ?_) | (with_reducible refine ((HM.out.set2 _).call hk (by omega) (by omega) (by omega)).mono ?_) | (with_reducible refine ((HM.out.set3 _).call hk (by omega) (by omega) (by omega)).mono ?_) | (with_reducible refine ((HM.out.set4 _).call hk (by omega) (by omega) (by omega)).mono ?_) | (with_reducible refine ((HM.out.set5 _).call hk (by omega) (by omega) (by omega)).mono ?_) | (with_reducible refine ((HM.out.set6 _).call hk (by omega) (by omega) (by omega)).mono ?_) | (with_reducible refine ((HM.out.set7 _).call hk (by omega) (by omega) (by omega)).mono ?_) | (with_reducible refine ((HM.out.set8 _).call hk (by omega) (by omega) (by omega)).mono ?_) | (with_reducible refine ((HM.out.set9 _).call hk (by omega) (by omega) (by omega)).mono ?_)); rintro e w9 ⟨rz, hz0, hz1, rfl, hm9⟩; replace HM := Sc.mk hm9; clear hm9 r0 r1 r2 r3 r4 r5 r6 r7 r8 r9 g1 g2 g3 g4 g5 g6 g7 g8 g9 lb; obtain ⟨rr, hrk, hrc⟩ := HM.out.rcd; obtain ⟨r0, r1, r2, r3, r4, r5, r6, r7, r8, r9⟩ := cells_recs hrc; rw [hrk] at r0; have g1 := unfrozen_at hrc 1; have g2 := unfrozen_at hrc 2; have g3 := unfrozen_at hrc 3; have g4 := unfrozen_at hrc 4; have g5 := unfrozen_at hrc 5; have g6 := unfrozen_at hrc 6; have g7 := unfrozen_at hrc 7; have g8 := unfrozen_at hrc 8; have g9 := unfrozen_at hrc 9; have lb := heap_lt hrc; clear hrc hrk))
      all_goals
        go_meet
        case rel => first | exact ⟨_, ⟨HM.out.more (by omega)⟩⟩ | exact ⟨_, ⟨(HM.out.set1 _).more (by omega)⟩⟩ | exact ⟨_, ⟨(HM.out.set2 _).more (by omega)⟩⟩ | exact ⟨_, ⟨(HM.out.set3 _).more (by omega)⟩⟩ | exact ⟨_, ⟨(HM.out.set4 _).more (by omega)⟩⟩ | exact ⟨_, ⟨(HM.out.set5 _).more (by omega)⟩⟩ | exact ⟨_, ⟨(HM.out.set6 _).more (by omega)⟩⟩ | exact ⟨_, ⟨(HM.out.set7 _).more (by omega)⟩⟩ | exact ⟨_, ⟨(HM.out.set8 _).more (by omega)⟩⟩ | exact ⟨_, ⟨(HM.out.set9 _).more (by omega)⟩⟩
  case rest =>
  clear HM r0 r1 r2 r3 r4 r5 r6 r7 r8 r9 g1 g2 g3 g4 g5 g6 g7 g8 g9 lb
  obtain ⟨k9, HM⟩ := hcut
  obtain ⟨wa, rfl⟩ : ∃ wa : World, wa = wc := ⟨_, rfl⟩
  obtain ⟨rr, hrk, hrc⟩ := HM.out.rcd
  obtain ⟨r0, r1, r2, r3, r4, r5, r6, r7, r8, r9⟩ := cells_recs hrc
  rw [hrk] at r0
  have g1 := unfrozen_at hrc 1
  have g2 := unfrozen_at hrc 2
  have g3 := unfrozen_at hrc 3
  have g4 := unfrozen_at hrc 4
  have g5 := unfrozen_at hrc 5
  have g6 := unfrozen_at hrc 6
  have g7 := unfrozen_at hrc 7
  have g8 := unfrozen_at hrc 8
  have g9 := unfrozen_at hrc 9
  have lb := heap_lt hrc
  clear hrc hrk
  go_upto_if 58 with fail
  go_cut [] from 59 to 71 (fun wx => ∃ k9 : Nat, Sc (RecMk w0 w wx b b2 b3 a len cap zs k 7 k9 kd))
  case first =>
    cases q4
    all_goals
      go_wp2_with (go_at_call 16; go_loud ((first | (with_reducible refine (HM.out.call hk (by omega) (by omega) (by omega)).mono ?_) | (with_reducible refine ((HM.out.set1 _).call hk (by omega) (by omega) (by omega)).mono ?_) | (with_reducible refine ((HM.out.set2 _).call hk (by omega) (by omega) (by omega)).mono ?_) | (with_reducible refine ((HM.out.set3 _).call hk (by omega) (by omega) (by omega)).mono ?_) | (with_reducible refine ((HM.out.set4 _).call hk (by omega) (by omega) (by omega)).mono ?_) | (with_reducible refine ((HM.out.set5 _).call hk (by omega) (by omega) (by omega)).mono ?_) | (with_reducible refine ((HM.out.set6 _).call hk (by omega) (by omega) (by omega)).mono ?_) | (with_reducible refine ((HM.out.set7 _).call hk (by omega) (by omega) (by omega)).mono ?_) | (with_reducible refine ((HM.out.set8 _).call hk (by omega) (by omega) (by omega)).mono ?_) | (with_reducible refine ((HM.out.set9 _).call hk (by omega) (by omega) (by omega)).mono ?_)); rintro e w9 ⟨rz, hz0, hz1, rfl, hm9⟩; replace HM := Sc.mk hm9; clear hm9 r0 r1 r2 r3 r4 r5 r6 r7 r8 r9 g1 g2 g3 g4 g5 g6 g7 g8 g9 lb; obtain ⟨rr, hrk, hrc⟩ := HM.out.rcd; obtain ⟨r0, r1, r2, r3, r4, r5, r6, r7, r8, r9⟩ := cells_recs hrc; rw [hrk] at r0; have g1 := unfrozen_at hrc 1; have g2 := unfrozen_at hrc 2; have g3 := unfrozen_at hrc 3; have g4 := unfrozen_at hrc 4; have g5 := unfrozen_at hrc 5; have g6 := unfrozen_at hrc 6; have g7 := unfrozen_at hrc 7; have g8 := unfrozen_at hrc 8; have g9 := unfrozen_at hrc 9; have lb := heap_lt hrc; clear hrc hrk))
      all_goals
        go_meet
        case rel => first | exact ⟨_, ⟨HM.out.more (by omega)⟩⟩ | exact ⟨_, ⟨(HM.out.set1 _).more (by omega)⟩⟩ | exact ⟨_, ⟨(HM.out.set2 _).more (by omega)⟩⟩ | exact ⟨_, ⟨(HM.out.set3 _).more (by omega)⟩⟩ | exact ⟨_, ⟨(HM.out.set4 _).more (by omega)⟩⟩ | exact ⟨_, ⟨(HM.out.set5 _).more (by omega)⟩⟩ | exact ⟨_, ⟨(HM.out.set6 _).more (by omega)⟩⟩ | exact ⟨_, ⟨(HM.out.set7 _).more (by omega)⟩⟩ | exact ⟨_, ⟨(HM.out.set8 _).more (by omega)⟩⟩ | exact ⟨_, ⟨(HM.out.set9 _).more (by omega)⟩⟩
  case rest =>
  clear HM r0 r1 r2 r3 r4 r5 r6 r7 r8 r9 g1 g2 g3 g4 g5 g6 g7 g8 g9 lb
  obtain ⟨k9, HM⟩ := hcut
  obtain ⟨wa, rfl⟩ : ∃ wa : World, wa = wc := ⟨_, rfl⟩
  obtain ⟨rr, hrk, hrc⟩ := HM.out.rcd
  obtain ⟨r0, r1, r2, r3, r4, r5, r6, r7, r8, r9⟩ := cells_recs hrc
  rw [hrk] at r0
  have g1 := unfrozen_at hrc 1
  have g2 := unfrozen_at hrc 2
  have g3 := unfrozen_at hrc 3
  have g4 := unfrozen_at hrc 4
  have g5 := unfrozen_at hrc 5
  have g6 := unfrozen_at hrc 6
  have g7 := unfrozen_at hrc 7
  have g8 := unfrozen_at hrc 8
  have g9 := unfrozen_at hrc 9
  have lb := heap_lt hrc
  clear hrc hrk
  go_upto_block 1 with fail
  go_cut [] from 74 to 108 (fun wx => ∃ k9 : Nat, Sc (RecMk w0 w wx b b2 b3 a len cap zs k 10 k9 kd))
  case first =>
    all_goals
      go_wp2_with (go_at_call 16; go_loud ((first | (with_reducible refine (HM.out.call hk (by omega) (by omega) (by omega)).mono ?_) | (with_reducible refine ((HM.out.set1 _).call hk (by omega) (by omega) (by omega)).mono ?_) | (with_reducible refine ((HM.out.set2 _).call hk (by omega) (by omega) (by omega)).mono ?_) | (with_reducible refine ((HM.out.set3 _).call hk (by omega) (by omega) (by omega)).mono ?_) | (with_reducible refine ((HM.out.set4 _).call hk (by omega) (by omega) (by omega)).mono ?_) | (with_reducible refine ((HM.out.set5 _).call hk (by omega) (by omega) (by omega)).mono ?_) | (with_reducible refine ((HM.out.set6 _).call hk (by omega) (by omega) (by omega)).mono ?_) | (with_reducible refine ((HM.out.set7 _).call hk (by omega) (by omega) (by omega)).mono ?_) | (with_reducible refine ((HM.out.set8 _).call hk (by omega) (by omega) (by omega)).mono ?_) | (with_reducible refine ((HM.out.set9 _).call hk (by omega) (by omega) (by omega)).mono ?_)); rintro e w9 ⟨rz, hz0, hz1, rfl, hm9⟩; replace HM := Sc.mk hm9; clear hm9 r0 r1 r2 r3 r4 r5 r6 r7 r8 r9 g1 g2 g3 g4 g5 g6 g7 g8 g9 lb; obtain ⟨rr, hrk, hrc⟩ := HM.out.rcd; obtain ⟨r0, r1, r2, r3, r4, r5, r6, r7, r8, r9⟩ := cells_recs hrc; rw [hrk] at r0; have g1 := unfrozen_at hrc 1; have g2 := unfrozen_at hrc 2; have g3 := unfrozen_at hrc 3; have g4 := unfrozen_at hrc 4; have g5 := unfrozen_at hrc 5; have g6 := unfrozen_at hrc 6; have g7 := unfrozen_at hrc 7; have g8 := unfrozen_at hrc 8; have g9 := unfrozen_at hrc 9; have lb := heap_lt hrc; clear hrc hrk))
      all_goals
        go_meet
        case rel => first | exact ⟨_, ⟨HM.out.more (by omega)⟩⟩ | exact ⟨_, ⟨(HM.out.set1 _).more (by omega)⟩⟩ | exact ⟨_, ⟨(HM.out.set2 _).more (by omega)⟩⟩ | exact ⟨_, ⟨(HM.out.set3 _).more (by omega)⟩⟩ | exact ⟨_, ⟨(HM.out.set4 _).more (by omega)⟩⟩ | exact ⟨_, ⟨(HM.out.set5 _).more (by omega)⟩⟩ | exact ⟨_, ⟨(HM.out.set6 _).more (by omega)⟩⟩ | exact ⟨_, ⟨(HM.out.set7 _).more (by omega)⟩⟩ | exact ⟨_, ⟨(HM.out.set8 _).more (by omega)⟩⟩ | exact ⟨_, ⟨(HM.out.set9 _).more (by omega)⟩⟩
  case rest =>
  clear HM r0 r1 r2 r3 r4 r5 r6 r7 r8 r9 g1 g2 g3 g4 g5 g6 g7 g8 g9 lb
  obtain ⟨k9, HM⟩ := hcut
  obtain ⟨wa, rfl⟩ : ∃ wa : World, wa = wc := ⟨_, rfl⟩
  obtain ⟨rr, hrk, hrc⟩ := HM.out.rcd
  obtain ⟨r0, r1, r2, r3, r4, r5, r6, r7, r8, r9⟩ := cells_recs hrc
  rw [hrk] at r0
  have g1 := unfrozen_at hrc 1
  have g2 := unfrozen_at hrc 2
  have g3 := unfrozen_at hrc 3
  have g4 := unfrozen_at hrc 4
  have g5 := unfrozen_at hrc 5
  have g6 := unfrozen_at hrc 6
  have g7 := unfrozen_at hrc 7
  have g8 := unfrozen_at hrc 8
  have g9 := unfrozen_at hrc 9
  have lb := heap_lt hrc
  clear hrc hrk
  clear r0 r1 r2 r3 r4 r5 r6 r7 r8 r9 g1 g2 g3 g4 g5 g6 g7 g8 g9
  obtain ⟨rr, hrk, hrc⟩ := HM.out.rcd
  obtain ⟨r0, r1, r2, r3, r4, r5, r6, r7, r8, r9⟩ := cells_recs hrc
  obtain ⟨y0, y1, y2, y3, y4, y5, y6, y7, y8, y9⟩ := cells_recs HM.out.res
  have z0 := unfrozen_at HM.out.res 0
  have z1 := unfrozen_at HM.out.res 1
  have z2 := unfrozen_at HM.out.res 2
  have z3 := unfrozen_at HM.out.res 3
  have z4 := unfrozen_at HM.out.res 4
  have z5 := unfrozen_at HM.out.res 5
  have z6 := unfrozen_at HM.out.res 6
  have z7 := unfrozen_at HM.out.res 7
  have z8 := unfrozen_at HM.out.res 8
  have z9 := unfrozen_at HM.out.res 9
  clear hrk hrc
  go_wp2
  refine bodyPost_ret (v := aggR rr) (by simp [results, Tryd.results17, go_sem, y0, y1, y2, y3, y4, y5, y6, y7, y8, y9]) rfl ⟨rr, k9, rfl, HM.out.seq.kp kp_st10 ?_ ?_, by have := HM.out.few; omega, HM.out.kp.trans kp_st10 (fun q hq => .inr (by rw [hq]; exact HM.out.new2))⟩
  · have := HM.out.old; have := HM.out.new2; omega
  · have := HM.out.old; have := HM.out.new2; have := HM.out.seq.new; omega
end
section
open Go.RowKit

theorem SeqIs.kpS {w0 w w' : World} {b : Nat} {a : Option Addr} {len cap : Nat} {zs : List Int} {k : Nat} {S : Nat → Prop} (h : SeqIs w0 w b a len cap zs k) (hk : Kp S w w') (hne : ¬ S b) (h0 : ∀ q, S q → w0.heap.size ≤ q) : SeqIs w0 w' b a len cap zs k :=
  ⟨h.row, hk.at h.cells hne, h.new, h.below.trans (hk.below h.below.size h0)⟩
set_option maxRecDepth 4000 in
set_option maxHeartbeats 4000000 in
theorem makeRecs_any (w0 w : World) (b : Nat) (a : Option Addr) (len cap : Nat) (zs : List Int) (most : Nat) (h : SeqIs w0 w b a len cap zs 0) (hm : most ≤ 30) :
    Calls Tryd.prog 8 #[.pointer (some ⟨b, 0, none⟩), .int .i64 most] w fun e w' => ∃ (v : Value) (l : List RecD), e = .returned v ∧ l.length ≤ most ∧ Own encR 10 51 w.heap.size w' v l ∧ Below w0.heap.size w0 w' := by
  obtain ⟨it, hi, hz0, hz1, hz2⟩ := info_parts infoCloR
  have HS := Sc.mk h
  have HLT : Sc (b < w.heap.size ∧ w0.heap.size ≤ w.heap.size) := ⟨heap_lt h.cells, h.below.size⟩
  have hw1 : IntKind.i64.wrap ((most : Int) + 1) = most + 1 := IntWalk.i64_in _ ⟨by omega, by omega⟩
  clear h
  go_enter Tryd.func8, Tryd.ntmps8
  go_wp2_with fail
  refine (next_any w0 _ b a len cap zs 0 (most + 1) HS.out (by omega) (by omega) (by omega)).mono ?_
  rintro e w1 ⟨r1, h10, h11, rfl, hs1, hk1⟩
  have HS1 := Sc.mk hs1
  have HW1 := Sc.mk hk1.size
  obtain ⟨i0, rfl⟩ := Int.eq_ofNat_of_zero_le h10
  have hi0 : i0 ≤ most := by omega
  clear hs1 hk1 h10 h11 hw1
  go_wp2_with fail
  go_loopg [5, 6] i0 (fun kx s5 s6 wr => ∃ (i k' : Nat) (l : List RecD), s6 = .int .i64 i ∧ i ≤ kx ∧ k' + 20 * i ≤ 1 + 20 * most ∧ l.length + i ≤ most ∧ Sc (SeqIs w0 wr b a len cap zs k') ∧ Sc (Own encR 10 51 w.heap.size wr s5 l) ∧ w.heap.size ≤ wr.heap.size)
  case atStart => exact ⟨i0, 1, [], rfl, Nat.le_refl _, by omega, by simpa using hi0, HS1, ⟨Own.nil⟩, HW1.out⟩
  case round =>
    obtain ⟨i, k', l, rfl, hik, hkk, hl, HSQ, HO, hsz⟩ := hrel
    cases i with
    | zero =>
      go_wp2
      go_ret
      exact ⟨_, l, rfl, by omega, HO.out, HSQ.out.below⟩
    | succ i =>
      have hi1 : (0 : Int) < ((i + 1 : Nat) : Int) := by omega
      have him : i ≤ 1000 := by omega
      go_wp2_with fail
      refine (makeRec_any w0 _ b a len cap zs k' HSQ.out (by omega)).mono ?_
      rintro e w3 ⟨r, k3, rfl, hs3, hk3, hkp⟩
      have HO3 := Sc.mk (HO.out.kp hkp (fun q hq he => by have := (HO.out.lt q hq).1; have := HLT.out.1; omega))
      have HS3 := Sc.mk hs3
      have hsz3 : w.heap.size ≤ w3.heap.size := Nat.le_trans hsz hkp.size
      clear hs3 hkp
      go_wp2_with (at_builtin; go_loud (refine wpList_append_own_at _ rfl (.tmp 15) (.tmp 18) 25 rfl w.heap.size 51 it (.agg #[.int .i64 0, .int .i64 0, .int .i64 0, .int .i64 0, .int .i64 0, .int .i64 0, .bool false, .bool false, .int .i64 0, .int .i64 0]) 10 72 Tryd.underlying25 hi hz0 hz1 hz2 rfl (by decide) _ l.length (flat encR l) rfl (HO3.out.alloc _) _ 1 1 (encR r) rfl rfl ?c1 ?c2 ?c3 ?c4 ?c5 ?_))
      case c1 => exact World.news_of_block (heap_alloc_new _ _)
      case c2 => exact kindR.one r
      case c3 => unfold maxLen; omega
      case c4 => omega
      case c5 => simp; omega
      intro v1 w4 h1 h2 h3 h4
      have H1 : Sc (Own encR 10 51 w.heap.size w4 v1 (l ++ [r])) := ⟨by
        unfold Own
        rw [flat_append, flat_single, List.length_append]
        exact h1⟩
      have HKG := Sc.mk (Kp.of_grown h2)
      have H2 : Sc (SeqIs w0 w4 b a len cap zs k3) := ⟨(HS3.out.bel (dn_alloc (Below.refl _ _) _)).kpS HKG.out (fun he => by have := (HO3.out.lt _ he.symm).1; have := HLT.out.1; omega) (fun q he => by have := (HO3.out.lt _ he.symm).1; have := HLT.out.2; omega)⟩
      have hsz4 : w.heap.size ≤ w4.heap.size := by have := HKG.out.size; simp at this; omega
      clear h1 h2 h3 h4
      go_wp2
      go_roundg i
      case measure => omega
      case rel => exact ⟨i, k3, l ++ [r], by go_num, Nat.le_refl _, by omega, by simp; omega, H2, H1, hsz4⟩
end
end Go.Proofs.YtoapihepdallbaaDoor
