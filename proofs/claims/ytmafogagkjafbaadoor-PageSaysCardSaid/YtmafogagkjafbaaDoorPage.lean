/- A page's keys: find, Get, Remove, Put. -/
import Derived.Test.YtmafogagkjafbaaDoorSearchE
import Derived.Test.YtmafogagkjafbaaDoorInsE
import Derived.Test.YtmafogagkjafbaaDoorDelE
import Derived.Test.YtmafogagkjafbaaDoorCloE
import Derived.Test.YtmafogagkjafbaaDoorPlainD
import Derived.Test.YtmafogagkjafbaaDoorPlainT
import Derived.Test.YtmafogagkjafbaaDoorParts
import Derived.Deep.RegionHeld3
import Derived.Deep.CutRange
import Derived.Deep.CutBlock
namespace Go.Proofs.YtmafogagkjafbaaDoor
open Go.RowKit

/-- A page as a value: its number, its row. -/
abbrev aggP (n : Int) (v : Value) : Value := .agg #[.int .i64 n, v]

set_option maxRecDepth 4000 in
set_option maxHeartbeats 1000000 in
theorem pageFind_any (w : World) (base : Nat) (n : Int) (v : Value) (l : List (Int × Int)) (p : Int) (hown : Own enc2 2 56 base w v l) (hr : Rising l) (hlen : l.length ≤ 1000000) :
    Calls Tryd.prog 52 #[aggP n v, .int .i64 p] w fun e w' => e = .returned (.tuple #[.int .i64 (pos l p), .bool (has l p)]) ∧ Below w.heap.size w w' := by
  obtain ⟨A, c, rfl, _, _⟩ := hown.slice
  obtain ⟨k, hk⟩ : ∃ k, l.length = k := ⟨_, rfl⟩
  rw [hk] at hown ⊢
  have HL : Sc (l.length ≤ 1000000) := ⟨hlen⟩
  have HO : Sc (Own enc2 2 56 base (w.alloc (.cells #[.int .i64 n, .slice A k c] 29)) (.slice A k c) l) := ⟨hown.alloc _⟩
  have HR := Sc.mk hr
  clear hown hr hlen hk
  go_enter Tryd.func52, Tryd.ntmps52
  go_wp2_with (go_at_call 61; go_loud (refine (entrySearch_any _ base _ l _ HO.out HR.out HL.out).mono ?_; rintro e w' ⟨rfl, hb⟩))
  go_ret2
  exact ⟨rfl, ((Below.refl _ _).alloc (Nat.le_refl _) _).trans (hb.mono (by simp))⟩

/-- A page that a call made: its row in new memory, all else as it was. -/
def PageLeft (n : Int) (l : List (Int × Int)) (b : Bool) (w : World) (e : Ending) (w' : World) : Prop :=
  ∃ A k c, e = .returned (.tuple #[aggP n (.slice A k c), .bool b]) ∧ Own enc2 2 56 w.heap.size w' (.slice A k c) l ∧ Below w.heap.size w w'
/-- A variable that holds a page under way. -/
structure PageVar (w wx : World) (b : Nat) (n : Int) (v : Value) (l : List (Int × Int)) : Prop where
  below : Below w.heap.size w wx
  new : w.heap.size ≤ b
  cells : wx.heap[b]? = some (.cells #[.int .i64 n, v] 29 (0, 0))
  own : Own enc2 2 56 w.heap.size wx v l
  apart : v.ownBlock ≠ some b
theorem cells_page {w : World} {b : Nat} {v u : Value} {t : TypeId} (h : w.heap[b]? = some (.cells #[v, u] t (0, 0))) : w.cell? ⟨b, 0, none⟩ = some v ∧ w.cell? ⟨b, 1, none⟩ = some u := by simp [World.cell?, h]

/-- A store below all that a row may lie in. -/
theorem Own.low {α : Type} {enc : α → List Value} {sz : Nat} {e : TypeId} {base : Nat} {w : World} {v : Value} {l : List α} (h : Own enc sz e base w v l) {a : Addr} (ha : a.block + 1 ≤ base) (u : Value) : Own enc sz e base (w.setCell a u) v l :=
  h.kp (Kp.setCell w a u) (fun q hq he => by have := (h.lt q hq).1; omega)
theorem PageVar.made {w w2 : World} {b : Nat} {n : Int} {v : Value} {l : List (Int × Int)} (hb : Below w.heap.size w w2) (ho : Own enc2 2 56 b w2 v l) (hle : w.heap.size ≤ b) :
    PageVar w (w2.alloc (.cells #[.int .i64 n, v] 29)) w2.heap.size n v l :=
  ⟨hb.alloc hb.size _, hb.size, heap_alloc_new _ _, (ho.mono hle).alloc _, fun he => by have := (ho.lt _ he).2; omega⟩
theorem PageVar.filled {w w2 : World} {b b8 : Nat} {n : Int} {v u0 u1 : Value} {l : List (Int × Int)} (hb : Below w.heap.size w w2) (hc : w2.heap[b8]? = some (.cells #[u0, u1] 29 (0, 0))) (ho : Own enc2 2 56 b w2 v l) (hle : w.heap.size ≤ b8) (hlt : b8 < b) :
    PageVar w ((w2.setCell ⟨b8, 0, none⟩ (.int .i64 n)).setCell ⟨b8, 1, none⟩ v) b8 n v l := by
  have hne : v.ownBlock ≠ some b8 := fun he => by have := (ho.lt _ he).1; omega
  refine ⟨(hb.setCell hle _).setCell hle _, hle, ?_, ?_, hne⟩
  · rw [set_one (set_one hc 0 _) 1 _]; rfl
  · exact (((ho.mono (by omega)).kp (Kp.setCell w2 ⟨b8, 0, none⟩ _) (fun q hq he => hne (by rw [hq, he]))).kp (Kp.setCell _ ⟨b8, 1, none⟩ _) (fun q hq he => hne (by rw [hq, he])))

theorem page_end {w wc : World} {z base : Nat} {v u0 u1 : Value} {l : List (Int × Int)} (hb : Below w.heap.size w wc) (ho : Own enc2 2 56 base wc v l) (hz : w.heap.size ≤ z) (hzb : z < base) :
    Own enc2 2 56 w.heap.size ((wc.setCell ⟨z, 0, none⟩ u0).setCell ⟨z, 1, none⟩ u1) v l ∧ Below w.heap.size w ((wc.setCell ⟨z, 0, none⟩ u0).setCell ⟨z, 1, none⟩ u1) := by
  have hne : v.ownBlock ≠ some z := fun he => by have := (ho.lt _ he).1; omega
  exact ⟨((ho.mono (by omega)).kp (Kp.setCell wc ⟨z, 0, none⟩ _) (fun q hq he => hne (by rw [hq, he]))).kp (Kp.setCell _ ⟨z, 1, none⟩ _) (fun q hq he => hne (by rw [hq, he])), (hb.setCell hz _).setCell hz _⟩

set_option maxRecDepth 4000 in
set_option maxHeartbeats 2000000 in
theorem pageRemove_any (w : World) (base : Nat) (n : Int) (v : Value) (l : List (Int × Int)) (p : Int) (hown : Own enc2 2 56 base w v l) (hr : Rising l) (hlen : l.length ≤ 1000000) :
    Calls Tryd.prog 35 #[aggP n v, .int .i64 p] w (PageLeft n (drop' l p) (has l p) w) := by
  obtain ⟨A, k, c, rfl⟩ := hown.slice3
  have HL := Sc.mk hlen
  have HO := Sc.mk hown
  have HR := Sc.mk hr
  clear hown hr hlen
  have HB : Sc ((((w.alloc (.cells #[.int .i64 n, .slice A k c] 29)).alloc (.cells #[.int .i64 0, .slice none 0 0] 29))).heap[w.heap.size]? = some (.cells #[.int .i64 n, .slice A k c] 29 (0, 0))) := ⟨by rw [heap_alloc_old _ _ (by simp), heap_alloc_new]⟩
  have HZ : Sc ((((w.alloc (.cells #[.int .i64 n, .slice A k c] 29)).alloc (.cells #[.int .i64 0, .slice none 0 0] 29))).heap[w.heap.size + 1]? = some (.cells #[.int .i64 0, .slice none 0 0] 29 (0, 0))) := ⟨by
    have := heap_alloc_new (w.alloc (.cells #[.int .i64 n, .slice A k c] 29)) (.cells #[.int .i64 0, .slice none 0 0] 29)
    simpa using this⟩
  have HOA : Sc (Own enc2 2 56 base ((w.alloc (.cells #[.int .i64 n, .slice A k c] 29)).alloc (.cells #[.int .i64 0, .slice none 0 0] 29)) (.slice A k c) l) := ⟨(HO.out.alloc _).alloc _⟩
  have HBW : Sc (Below w.heap.size w ((w.alloc (.cells #[.int .i64 n, .slice A k c] 29)).alloc (.cells #[.int .i64 0, .slice none 0 0] 29))) := ⟨((Below.refl _ _).alloc (Nat.le_refl _) _).alloc (by simp) _⟩
  go_enter Tryd.func35, Tryd.ntmps35
  go_wp2_with fail
  refine (pageFind_any _ base n _ l p HOA.out HR.out HL.out).mono ?_
  rintro e w1 ⟨rfl, hb1⟩
  have HB1 := Sc.mk ((hb1.block _ (heap_lt HB.out)).trans HB.out)
  have HZ1 := Sc.mk ((hb1.block _ (heap_lt HZ.out)).trans HZ.out)
  have HW1 : Sc (Below w.heap.size w w1) := ⟨HBW.out.trans (hb1.mono HBW.out.size)⟩
  have HO1 : Sc (Own enc2 2 56 base w1 (.slice A k c) l) := ⟨HOA.out.below hb1⟩
  obtain ⟨b0, b1⟩ := cells_page HB1.out
  clear hb1
  go_upto_region 2 with fail
  go_cut [8] from 15 to 20 (fun s8 wx => ∃ (b8 : Nat) (A8 : Option Addr) (k8 c8 : Nat), s8 = .pointer (some ⟨b8, 0, none⟩) ∧ Sc (PageVar w1 wx b8 n (.slice A8 k8 c8) l))
  case first =>
    have SK : Sc (∀ W, Below w1.heap.size w1 W → W.cell? ⟨w.heap.size, 0, none⟩ = some (.int .i64 n) ∧ W.cell? ⟨w.heap.size, 1, none⟩ = some (.slice A k c)) := ⟨fun W hb => ⟨(hb.cell (World.block_lt_of_cell? _ _ b0)).trans b0, (hb.cell (World.block_lt_of_cell? _ _ b1)).trans b1⟩⟩
    go_region_held3 (fun W => W.cell? ⟨w.heap.size, 0, none⟩ = some (.int .i64 n) ∧ W.cell? ⟨w.heap.size, 1, none⟩ = some (.slice A k c)) (first | exact SK.out _ (Below.refl _ _).drew | exact SK.out _ HBC.out | exact SK.out _ (HBC.out.alloc HBC.out.size _) | exact SK.out _ ((Below.refl _ _).drew.alloc (Nat.le_refl _) _) | exact SK.out _ ((HBC.out.setCell (Nat.le_refl _) _).setCell (Nat.le_refl _) _))
      (first | (go_at_call 44; refine (entryClone_any _ base _ l (by first | exact HO1.out.drew | exact (HO1.out.drew.alloc _)) HL.out).mono ?_; rintro e w2 ⟨v2, rfl, ho, hb2⟩; obtain ⟨A2, k2, c2, rfl⟩ := ho.slice3; have HBC : Sc (Below w1.heap.size w1 w2) := ⟨by first | exact (Below.refl w1.heap.size w1).drew.trans hb2 | exact ((Below.refl w1.heap.size w1).drew.alloc (Nat.le_refl _) _).trans (hb2.mono (by simp))⟩; have HOC := Sc.mk ho; (first | (have hz : w2.heap[w1.heap.size]? = some (.cells #[.int .i64 0, .slice none 0 0] 29 (0, 0)) := (hb2.block _ (by simp)).trans (heap_alloc_new w1.drew _); obtain ⟨z0, z1⟩ := cells_page hz; have y0 := unfrozen_at hz 0; have y1 := unfrozen_at hz 1; have HZC := Sc.mk hz; clear hz) | skip); clear ho hb2))
    all_goals
      go_wp2_with fail
      go_meet
      case rel => first | exact ⟨_, _, _, _, rfl, ⟨PageVar.made HBC.out HOC.out (Nat.le_refl _)⟩⟩ | exact ⟨_, _, _, _, rfl, ⟨PageVar.filled HBC.out HZC.out HOC.out (Nat.le_refl _) (by simp)⟩⟩
  case rest =>
    obtain ⟨b8, A8, k8, c8, rfl, HPV⟩ := hcut
    have HPB := Sc.mk HPV.out.below
    have HZ2 : Sc (wc.heap[w.heap.size + 1]? = some (.cells #[.int .i64 0, .slice none 0 0] 29 (0, 0))) := ⟨(HPB.out.block _ (heap_lt HZ1.out)).trans HZ1.out⟩
    have hne8 : ¬ b8 = w.heap.size + 1 := by have := HPV.out.new; have := heap_lt HZ1.out; omega
    have hne9 : ¬ w.heap.size + 1 = b8 := fun h => hne8 h.symm
    cases hh : has l p with
    | false =>
      have HH := Sc.mk hh
      obtain ⟨d0, d1⟩ := cells_page HPV.out.cells
      obtain ⟨e0, e1⟩ := cells_page HZ2.out
      have y0 := unfrozen_at HZ2.out 0
      have y1 := unfrozen_at HZ2.out 1
      clear hh b0 b1
      go_wp2
      refine bodyPost_ret (v := .tuple #[aggP n (.slice A8 k8 c8), .bool false]) (by simp [results, Tryd.results35, go_sem, e0, e1]) rfl ⟨A8, k8, c8, by rw [HH.out], ?_⟩
      rw [drop'_no HH.out]
      exact page_end (HW1.out.trans (HPB.out.mono HW1.out.size)) HPV.out.own (Nat.le_succ _) (heap_lt HZ1.out)
    | true =>
      have HH := Sc.mk hh
      have hlt := has_lt HR.out hh
      obtain ⟨g, cap, he, hgb, _, hnc, _⟩ := HPV.out.own.form (by omega)
      injection he with h1 h2 h3
      subst h1 h2 h3
      obtain ⟨m, hm⟩ : ∃ m, l.length = m + 1 := ⟨l.length - 1, by omega⟩
      have HPO := Sc.mk HPV.out.own
      have HPC := Sc.mk HPV.out.cells
      have HPN := Sc.mk HPV.out.new
      have HPA : Sc (g ≠ b8) := ⟨fun he => HPV.out.apart (by rw [he]; rfl)⟩
      have hm6 : m ≤ 1000000 := by have := HL.out; omega
      have hpm : pos l p ≤ m := by omega
      have HGZ : Sc (w.heap.size + 1 < g) := ⟨by have := heap_lt HZ1.out; omega⟩
      have HD : Sc (drop' l p = l.take (pos l p) ++ l.drop (pos l p + 1)) := ⟨drop'_yes hh⟩
      rw [hm] at HPO HPC
      obtain ⟨d0, d1⟩ := cells_page HPC.out
      generalize hq : pos l p = q at hpm HD ⊢
      have hqI : (q : Int) ≤ m := by omega
      clear hh b0 b1 HPV hm hlt hq hnc hgb
      go_wp2_with fail
      refine (entryDelete_any wc w1.heap.size g c8 m l q HPO.out hm6 hpm).mono ?_
      rintro e w3 ⟨rfl, ho, hg⟩
      have hx3 := (hg.block b8 (heap_lt HPC.out) (fun he => HPA.out (by injection he with he; exact he.symm))).trans HPC.out
      have hz3 := (hg.block (w.heap.size + 1) (heap_lt HZ2.out) (fun he => by injection he with he; have := HGZ.out; omega)).trans HZ2.out
      obtain ⟨x0, x1⟩ := cells_page hx3
      obtain ⟨e0, e1⟩ := cells_page hz3
      have xf := unfrozen_at hx3 1
      have y0 := unfrozen_at hz3 0
      have y1 := unfrozen_at hz3 1
      have HO3 := Sc.mk ho
      have HG3 := Sc.mk hg
      clear ho hg hx3 hz3 d0 d1
      go_wp2
      refine bodyPost_ret (v := .tuple #[aggP n (.slice (some ⟨g, 0, none⟩) m c8), .bool true]) (by simp [results, Tryd.results35, go_sem, e0, e1]) rfl ⟨_, _, _, by rw [HH.out], ?_⟩
      rw [HD.out]
      refine page_end (((HW1.out.trans (HPB.out.mono HW1.out.size)).grown HG3.out (HW1.out.trans (HPB.out.mono HW1.out.size)).size (fun q hq => ?_)).setCell ?_ _) (HO3.out.kp (Kp.setCell w3 ⟨b8, 1, none⟩ _) (fun q hq he => ?_)) (Nat.le_succ _) (heap_lt HZ1.out)
      · injection hq with hq; have := HGZ.out; omega
      · have := HPB.out.size; have := heap_lt HZ1.out; have := HPN.out; show w.heap.size ≤ b8; omega
      · injection hq with hq; exact HPA.out (hq.trans he)
end Go.Proofs.YtmafogagkjafbaaDoor
