/- The walk of DirtyPlays: whatever is added and dropped, the table and the document's table tell the same. -/
import Derived.Test.YtmaknknldegmhaaDFirst
import Derived.Test.YtmaknknldegmhaaNum
import Derived.Test.YtmaknknldegmhaaRTabD2
import Derived.Test.YtmaknknldegmhaaRecs
import Derived.Deep.RegionHeld3
namespace Go.Proofs.Ytmaknknldegmhaa
open Go.RowKit

theorem RTabD.new (w : World) : RTabD (w.alloc (.cells #[.slice none 0 0] 55)) w.heap.size none [] :=
  ⟨⟨.slice none 0 0, rfl, heap_alloc_new w _, Own.nil⟩, by simp, List.Pairwise.nil⟩
theorem TabD.lt {w : World} {tb : Nat} {row : Option Nat} {l : List (Int × Int)} (h : TabD w tb row l) : tb < w.heap.size ∧ ∀ q, row = some q → q < w.heap.size := by
  obtain ⟨⟨v, hv, hc, hown⟩, _, _⟩ := h
  exact ⟨heap_lt hc, fun q hq => (hown.lt q (hv.trans hq)).2⟩
theorem RTabD.lt {w : World} {tb : Nat} {row : Option Nat} {l : List (Int × Int)} (h : RTabD w tb row l) : tb < w.heap.size ∧ ∀ q, row = some q → q < w.heap.size := by
  obtain ⟨⟨v, hv, hc, hown⟩, _, _⟩ := h
  exact ⟨heap_lt hc, fun q hq => (hown.lt q (hv.trans hq)).2⟩
/-- The table and the document's, side by side. -/
structure StDR (w0 w : World) (tb tr : Nat) (l m : List (Int × Int)) : Prop where
  tab : ∃ row rrow, TabD w tb row l ∧ RTabD w tr rrow m ∧ (∀ q, row = some q → w0.heap.size ≤ q ∧ q ≠ tr ∧ rrow ≠ some q) ∧ (∀ q, rrow = some q → w0.heap.size ≤ q ∧ q ≠ tb)
  made : w0.heap.size ≤ tb
  rmade : w0.heap.size ≤ tr
  apart : tb ≠ tr
  below : Below w0.heap.size w0 w
section
variable {w0 w w' : World} {tb tr : Nat} {l l' m m' : List (Int × Int)}
theorem StDR.new (w0 : World) : StDR w0 ((w0.alloc (.cells #[.slice none 0 0] 26)).alloc (.cells #[.slice none 0 0] 55)) w0.heap.size (w0.heap.size + 1) [] [] := by
  have h2 := RTabD.new (w0.alloc (.cells #[.slice none 0 0] 26))
  have hs : (w0.alloc (.cells #[.slice none 0 0] 26)).heap.size = w0.heap.size + 1 := by simp
  rw [hs] at h2
  exact ⟨⟨none, none, (TabD.new w0).bel ((Below.refl _ _).alloc (Nat.le_refl _) _), h2, (fun _ h => by cases h), (fun _ h => by cases h)⟩, Nat.le_refl _, by omega, by omega, ((Below.refl _ _).alloc (Nat.le_refl _) _).alloc (by simp) _⟩
theorem StDR.bel (h : StDR w0 w tb tr l m) (hb : Below w.heap.size w w') : StDR w0 w' tb tr l m := by
  obtain ⟨⟨row, rrow, h1, h2, h3, h4⟩, hm, hr, ha, hbb⟩ := h
  exact ⟨⟨row, rrow, h1.bel hb, h2.bel hb, h3, h4⟩, hm, hr, ha, hbb.trans (hb.mono hbb.size)⟩
theorem StDR.step {row rrow : Option Nat} (h1 : TabD w tb row l) (h2 : RTabD w tr rrow m) (h3 : ∀ q, row = some q → w0.heap.size ≤ q ∧ q ≠ tr ∧ rrow ≠ some q) (h4 : ∀ q, rrow = some q → w0.heap.size ≤ q ∧ q ≠ tb)
    (hm : w0.heap.size ≤ tb) (hr : w0.heap.size ≤ tr) (ha : tb ≠ tr) (hbb : Below w0.heap.size w0 w) (hl : LeftD tb row l' w w') : StDR w0 w' tb tr l' m := by
  obtain ⟨row', ht', hk, hat⟩ := hl
  have lt2 := h2.lt
  refine ⟨⟨row', rrow, ht', h2.kp hk (fun h => h.elim (fun h => ha h.symm) (fun h => (h3 _ h.symm).2.1 rfl)) (fun q hq h => h.elim (fun h => (h4 q hq).2 h) (fun h => (h3 q h.symm).2.2 hq)), fun q hq => ?_, h4⟩, hm, hr, ha, hbb.trans (hk.below hbb.size (fun q hq => ?_))⟩
  · rcases hat with hat | ⟨q', hq', hle⟩
    · exact h3 q (by rw [← hat]; exact hq)
    · rw [hq'] at hq; injection hq with hq; subst hq
      exact ⟨Nat.le_trans hbb.size hle, fun he => by have := lt2.1; omega, fun he => by have := lt2.2 _ he; omega⟩
  · rcases hq with rfl | hq
    · exact hm
    · exact (h3 q hq.symm).1
theorem StDR.rstep {row rrow : Option Nat} (h1 : TabD w tb row l) (h2 : RTabD w tr rrow m) (h3 : ∀ q, row = some q → w0.heap.size ≤ q ∧ q ≠ tr ∧ rrow ≠ some q) (h4 : ∀ q, rrow = some q → w0.heap.size ≤ q ∧ q ≠ tb)
    (hm : w0.heap.size ≤ tb) (hr : w0.heap.size ≤ tr) (ha : tb ≠ tr) (hbb : Below w0.heap.size w0 w) (hl : RLeftD tr rrow m' w w') : StDR w0 w' tb tr l m' := by
  obtain ⟨row', ht', hk, hat⟩ := hl
  have lt1 := h1.lt
  refine ⟨⟨row, row', h1.kp hk (fun h => h.elim ha (fun h => (h4 _ h.symm).2 rfl)) (fun q hq h => h.elim (fun h => (h3 q hq).2.1 h) (fun h => (h3 q hq).2.2 h.symm)), ht', fun q hq => ⟨(h3 q hq).1, (h3 q hq).2.1, ?_⟩, fun q hq => ?_⟩, hm, hr, ha, hbb.trans (hk.below hbb.size (fun q hq => ?_))⟩
  · rcases hat with hat | hat
    · rw [hat]; exact (h3 q hq).2.2
    · intro he; have := hat _ he; have := lt1.2 q hq; omega
  · rcases hat with hat | hat
    · exact h4 q (by rw [← hat]; exact hq)
    · have := hat q hq; exact ⟨Nat.le_trans hbb.size this, fun he => by have := lt1.1; omega⟩
  · rcases hq with rfl | hq
    · exact hr
    · exact (h4 q hq.symm).1
end
section
variable (w0 w : World) (tb tr : Nat) (l m : List (Int × Int)) (p f : Int)
theorem dAdd2 (h : StDR w0 w tb tr l m) (hlen : l.length ≤ 1000000) :
    Calls Try.prog 13 #[.pointer (some ⟨tb, 0, none⟩), .int .i64 p, .int .i64 f] w fun e w' => e = .returned (.tuple #[]) ∧ StDR w0 w' tb tr (add l (p, f)) m := by
  obtain ⟨⟨row, rrow, h1, h2, h3, h4⟩, hm, hr, ha, hbb⟩ := h
  exact (dirtyAdd_any w tb row l p f h1 hlen).mono fun e w' ⟨he, hl⟩ => ⟨he, StDR.step h1 h2 h3 h4 hm hr ha hbb hl⟩
theorem dDrop2 (h : StDR w0 w tb tr l m) (hlen : l.length ≤ 1000000) :
    Calls Try.prog 28 #[.pointer (some ⟨tb, 0, none⟩), .int .i64 p] w fun e w' => e = .returned (.bool (has l p)) ∧ StDR w0 w' tb tr (drop' l p) m := by
  obtain ⟨⟨row, rrow, h1, h2, h3, h4⟩, hm, hr, ha, hbb⟩ := h
  exact (dirtyDrop_any w tb row l p h1 hlen).mono fun e w' ⟨he, hl⟩ => ⟨he, StDR.step h1 h2 h3 h4 hm hr ha hbb hl⟩
theorem dFrom2 (h : StDR w0 w tb tr l m) (hlen : l.length ≤ 1000000) :
    Calls Try.prog 31 #[.pointer (some ⟨tb, 0, none⟩), .int .i64 p] w fun e w' => e = .returned (.tuple #[.int .i64 ((look l p).getD 0), .bool (has l p)]) ∧ StDR w0 w' tb tr l m := by
  obtain ⟨row, rrow, h1, _⟩ := h.tab
  exact (dirtyFrom_any w tb row l p h1 hlen).mono fun e w' ⟨he, hb⟩ => ⟨he, h.bel hb⟩
theorem dLeast2 (h : StDR w0 w tb tr l m) (hlen : l.length ≤ 1000000) :
    Calls Try.prog 33 #[.pointer (some ⟨tb, 0, none⟩)] w fun e w' => e = .returned (.int .i64 (least l)) ∧ Below w.heap.size w w' := by
  obtain ⟨row, rrow, h1, _⟩ := h.tab
  exact (dirtyLeast_any w tb row l h1 hlen)
def AllD2 (w : World) (l : List (Int × Int)) (e : Ending) (w' : World) : Prop :=
  ∃ A n c, e = .returned (.slice A n c) ∧ Own enc2 2 32 w.heap.size w' (.slice A n c) l ∧ Below w.heap.size w w'
theorem dAll2 (h : StDR w0 w tb tr l m) (hlen : l.length ≤ 1000000) :
    Calls Try.prog 15 #[.pointer (some ⟨tb, 0, none⟩)] w (AllD2 w l) := by
  obtain ⟨row, rrow, h1, _⟩ := h.tab
  exact (dirtyAll_any w tb row l h1 hlen).mono fun e w' ⟨v, he, ho, hb⟩ => by
    obtain ⟨A, n, c, rfl⟩ := ho.slice3
    exact ⟨A, n, c, he, ho, hb⟩
theorem rAdd2 (h : StDR w0 w tb tr l m) (hlen : m.length ≤ 1000000) :
    Calls Try.prog 30 #[.pointer (some ⟨tr, 0, none⟩), .int .i64 p, .int .i64 f] w fun e w' => e = .returned (.tuple #[]) ∧ StDR w0 w' tb tr l (add m (p, f)) := by
  obtain ⟨⟨row, rrow, h1, h2, h3, h4⟩, hm, hr, ha, hbb⟩ := h
  exact (rAdd_any w tr rrow m p f h2 hlen).mono fun e w' ⟨he, hl⟩ => ⟨he, StDR.rstep h1 h2 h3 h4 hm hr ha hbb hl⟩
theorem rDrop2 (h : StDR w0 w tb tr l m) (hlen : m.length ≤ 1000000) :
    Calls Try.prog 29 #[.pointer (some ⟨tr, 0, none⟩), .int .i64 p] w fun e w' => e = .returned (.bool (has m p)) ∧ StDR w0 w' tb tr l (drop' m p) := by
  obtain ⟨⟨row, rrow, h1, h2, h3, h4⟩, hm, hr, ha, hbb⟩ := h
  exact (rDrop_any w tr rrow m p h2 hlen).mono fun e w' ⟨he, hl⟩ => ⟨he, StDR.rstep h1 h2 h3 h4 hm hr ha hbb hl⟩
theorem rFrom2 (h : StDR w0 w tb tr l m) (hlen : m.length ≤ 1000000) :
    Calls Try.prog 32 #[.pointer (some ⟨tr, 0, none⟩), .int .i64 p] w fun e w' => e = .returned (.tuple #[.int .i64 ((look m p).getD 0), .bool (has m p)]) ∧ w = w' := by
  obtain ⟨row, rrow, _, h2, _⟩ := h.tab
  exact rFrom_any w tr rrow m p h2 hlen
theorem rLeast2 (h : StDR w0 w tb tr l m) (hlen : m.length ≤ 1000000) :
    Calls Try.prog 34 #[.pointer (some ⟨tr, 0, none⟩)] w fun e w' => e = .returned (.int .i64 (least m)) ∧ w = w' := by
  obtain ⟨row, rrow, _, h2, _⟩ := h.tab
  exact rLeast_any w tr rrow m h2 hlen
theorem StDR.ref (h : StDR w0 w tb tr l m) : ∃ A n c, w.cell? ⟨tr, 0, none⟩ = some (.slice A n c) ∧ Own enc2 2 32 0 w (.slice A n c) m := by
  obtain ⟨row, rrow, _, ⟨⟨v, hv, hc, hown⟩, _, _⟩, _⟩ := h.tab
  obtain ⟨A, n, c, rfl⟩ := hown.slice3
  exact ⟨A, n, c, cell_one hc, hown⟩
end

set_option maxRecDepth 4000 in
set_option maxHeartbeats 4000000 in
theorem dirtyPlays_walk (a0 : Option Addr) (len0 cap0 : Nat) (w : World) (w0 : IsRecs 2 w a0 len0) :
    Calls Try.prog 7 #[.slice a0 len0 cap0] w fun e w' => e = .returned (.bool true) ∧ Below w.heap.size w w' := by
  by_cases hbig : 80 < len0
  · clear w0
    go_enter Try.func7, Try.ntmps7
    go_wp2_with (go_at_call 12; refine (dirtyFirst0_any _).mono ?_; rintro e w1 ⟨rfl, hb⟩)
    go_ret
    exact ⟨rfl, hb⟩
  · have hle : len0 ≤ 80 := by omega
    clear hbig
    have HW := Sc.mk w0
    clear w0
    go_enter Try.func7, Try.ntmps7
    go_wp2_with (go_at_call 12; refine (dirtyFirst0_any _).mono ?_; rintro e w1 ⟨rfl, hb⟩; have HB1 := Sc.mk hb; clear hb)
    go_loopg [6] len0 (fun kx s6 wr => ∃ (i : Nat) (l : List (Int × Int)), s6 = .int .i64 i ∧ i ≤ len0 ∧ len0 - i ≤ kx ∧ l.length ≤ i ∧ Sc (StDR w1 wr w1.heap.size (w1.heap.size + 1) l l))
    case atStart => exact ⟨0, [], rfl, by omega, by omega, by simp, ⟨StDR.new w1⟩⟩
    case round =>
      obtain ⟨i, l, rfl, hi, hg, hll, HS⟩ := hrel
      by_cases hlt : i < len0
      · obtain ⟨b, off, rfl, hbw, z, hz⟩ := HW.out.at (by omega)
        have hz0 : w.cell? ⟨b, off + i * 2, none⟩ = some (.int .i64 (z i 0)) := hz i hlt 0 (by omega)
        have hz1 : w.cell? ⟨b, off + i * 2 + 1, none⟩ = some (.int .i64 (z i 1)) := hz i hlt 1 (by omega)
        have HZ1 := Sc.mk hz1
        have hc0 := cell_down HB1.out HS.out.below hz0
        have hc1 := cell_down HB1.out HS.out.below hz1
        generalize z i 0 = za at hc0
        generalize z i 1 = zb at hc1 HZ1
        have hil : (i : Int) < len0 := by omega
        have HLL : Sc (l.length ≤ 1000000) := ⟨by omega⟩
        have HLA : Sc ((add l (za % 12, zb)).length ≤ i + 1) := ⟨by have := add_length l (za % 12, zb); omega⟩
        have HLD : Sc ((drop' l (za % 12)).length ≤ i + 1) := ⟨by have := drop'_length l (za % 12); omega⟩
        clear hz hz0 hz1 hll
        go_wp2_with (first
          | (go_at_call 14; refine (number_any _ 12 _ (by omega) (by omega)).mono ?_; rintro e w2 ⟨rfl, rfl⟩)
          | (go_at_call 28; refine (dDrop2 w1 _ _ _ l l _ HS.out HLL.out).mono ?_; rintro e w2 ⟨rfl, hs⟩; have HS2 := Sc.mk hs; clear hs)
          | (go_at_call 29; refine (rDrop2 w1 _ _ _ _ l _ HS2.out HLL.out).mono ?_; rintro e w3 ⟨rfl, hs⟩; obtain ⟨m, HSB, HLB⟩ : ∃ m : List (Int × Int), Sc (StDR w1 w3 w1.heap.size (w1.heap.size + 1) m m) ∧ Sc (m.length ≤ i + 1) := ⟨_, ⟨hs⟩, HLD⟩; clear hs HS2)
          | (go_at_call 13; refine (dAdd2 w1 _ _ _ l l _ _ HS.out HLL.out).mono ?_; rintro e w2 ⟨rfl, hs⟩; have hc2 := cell_down HB1.out hs.below HZ1.out; have HS2 := Sc.mk hs; clear hs)
          | (go_at_call 30; refine (rAdd2 w1 _ _ _ _ l _ _ HS2.out HLL.out).mono ?_; rintro e w3 ⟨rfl, hs⟩; obtain ⟨m, HSB, HLB⟩ : ∃ m : List (Int × Int), Sc (StDR w1 w3 w1.heap.size (w1.heap.size + 1) m m) ∧ Sc (m.length ≤ i + 1) := ⟨_, ⟨hs⟩, HLA⟩; clear hs HS2)
          | (go_at_call 31; refine (dFrom2 w1 _ _ _ _ _ _ HSB.out (by have := HLB.out; omega)).mono ?_; rintro e w4 ⟨rfl, hs⟩; have HSC := Sc.mk hs; clear hs)
          | (go_at_call 32; refine (rFrom2 w1 _ _ _ _ _ _ HSC.out (by have := HLB.out; omega)).mono ?_; rintro e w5 ⟨rfl, rfl⟩))
        all_goals
          obtain ⟨A, n, c, hx, hox⟩ := HSC.out.ref
          have HOX := Sc.mk hox.drew
          have HL2 : Sc (m.length ≤ 1000000) := ⟨by have := HLB.out; omega⟩
          have HSD := Sc.mk (HSC.out.bel (Below.refl _ _).drew)
          clear hox
          go_region_held3 (fun W => W.cell? ⟨w1.heap.size + 1, 0, none⟩ = some (.slice A n c)) (first | exact hx | exact hx6 | exact hx7 | exact hx8)
            (first
              | (go_at_call 15; go_loud (refine (dAll2 w1 _ _ _ m m HSD.out HL2.out).mono ?_; rintro e w6 ⟨A6, n6, c6, rfl, ho6, hb6⟩; have hx6 := (hb6.cell (World.block_lt_of_cell? _ _ hx)).trans hx; have HO6 := Sc.mk ho6; have HOX6 := Sc.mk (HOX.out.below hb6); have HS6 := Sc.mk (HSD.out.bel hb6); clear ho6 hb6))
              | (go_at_call 17; refine (dirtySame_refl _ _ _ _ _ m HO6.out HOX6.out HL2.out).mono ?_; rintro e w7 ⟨rfl, hb7⟩; have hx7 := (hb7.cell (World.block_lt_of_cell? _ _ hx6)).trans hx6; have HS7 := Sc.mk (HS6.out.bel hb7); clear hb7)
              | (go_at_call 33; refine (dLeast2 w1 _ _ _ m m HS7.out HL2.out).mono ?_; rintro e w8 ⟨rfl, hb8⟩; have hx8 := (hb8.cell (World.block_lt_of_cell? _ _ hx7)).trans hx7; have HS8 := Sc.mk (HS7.out.bel hb8); clear hb8)
              | (go_at_call 34; refine (rLeast2 w1 _ _ _ m m HS8.out HL2.out).mono ?_; rintro e w9 ⟨rfl, rfl⟩))
          go_wp2
          go_roundg (len0 - (i + 1))
          case measure => omega
          case rel => exact ⟨i + 1, m, by go_num, by omega, Nat.le_refl _, HLB.out, HS8⟩
      · obtain rfl : i = len0 := by omega
        go_wp2
        go_ret
        exact ⟨rfl, below_down HB1.out HS.out.below⟩
end Go.Proofs.Ytmaknknldegmhaa
