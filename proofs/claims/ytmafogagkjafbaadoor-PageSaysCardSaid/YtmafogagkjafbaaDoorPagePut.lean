/- A page's keys: Put. -/
import Derived.Test.YtmafogagkjafbaaDoorPage
namespace Go.Proofs.YtmafogagkjafbaaDoor
open Go.RowKit

/-- What Put leaves: the key's value set, or put in; or, with no room, an empty page. -/
def PutLeft (n : Int) (l : List (Int × Int)) (p f : Int) (w : World) (e : Ending) (w' : World) : Prop :=
  if has l p = true ∨ l.length < 20 then PageLeft n (setIn l (p, f)) true w e w' else PageLeft 0 [] false w e w'
theorem PutLeft.yes {n : Int} {l : List (Int × Int)} {p f : Int} {w w' : World} {e : Ending} (h : has l p = true ∨ l.length < 20) (hp : PageLeft n (setIn l (p, f)) true w e w') : PutLeft n l p f w e w' := by
  unfold PutLeft; rw [if_pos h]; exact hp
theorem PutLeft.no {n : Int} {l : List (Int × Int)} {p f : Int} {w w' : World} {e : Ending} (h : ¬ (has l p = true ∨ l.length < 20)) (hp : PageLeft 0 [] false w e w') : PutLeft n l p f w e w' := by
  unfold PutLeft; rw [if_neg h]; exact hp
theorem PutLeft.fits {n : Int} {l : List (Int × Int)} {p f : Int} {w w' : World} {e : Ending} (h : has l p = true ∨ l.length < 20) (hp : PutLeft n l p f w e w') : PageLeft n (setIn l (p, f)) true w e w' := by
  unfold PutLeft at hp; rw [if_pos h] at hp; exact hp
theorem PutLeft.full {n : Int} {l : List (Int × Int)} {p f : Int} {w w' : World} {e : Ending} (h : ¬ (has l p = true ∨ l.length < 20)) (hp : PutLeft n l p f w e w') : PageLeft 0 [] false w e w' := by
  unfold PutLeft at hp; rw [if_neg h] at hp; exact hp

set_option maxRecDepth 4000 in
set_option maxHeartbeats 2000000 in
theorem pagePut_any (w : World) (base : Nat) (n : Int) (v : Value) (l : List (Int × Int)) (p f : Int) (hown : Own enc2 2 56 base w v l) (hr : Rising l) (hlen : l.length ≤ 1000000) :
    Calls Tryd.prog 34 #[aggP n v, .int .i64 p, .int .i64 f] w (PutLeft n l p f w) := by
  obtain ⟨A, k, c, rfl⟩ := hown.slice3
  have HL := Sc.mk hlen
  have HO := Sc.mk hown
  have HR := Sc.mk hr
  clear hown hr hlen
  have HB : Sc ((((w.alloc (.cells #[.int .i64 n, .slice A k c] 29)).alloc (.cells #[.int .i64 0, .slice none 0 0] 29))).heap[w.heap.size]? = some (.cells #[.int .i64 n, .slice A k c] 29 (0, 0))) := ⟨by rw [heap_alloc_old _ _ (by simp), heap_alloc_new]⟩
  have HZ : Sc ((((w.alloc (.cells #[.int .i64 n, .slice A k c] 29)).alloc (.cells #[.int .i64 0, .slice none 0 0] 29))).heap[w.heap.size + 1]? = some (.cells #[.int .i64 0, .slice none 0 0] 29 (0, 0))) := ⟨by
    have := heap_alloc_new (w.alloc (.cells #[.int .i64 n, .slice A k c] 29)) (.cells #[.int .i64 0, .slice none 0 0] 29)
    simpa using this⟩
  have HOA : Sc (Own enc2 2 56 base ((w.alloc (.cells #[.int .i64 n, .slice A k c] 29)).alloc (.cells #[.int .i64 0, .slice none 0 0] 29)) (.slice A k c) l) := ⟨(HO.out.alloc _).alloc _⟩
  have HBW : Sc (Below w.heap.size w ((w.alloc (.cells #[.int .i64 n, .slice A k c] 29)).alloc (.cells #[.int .i64 0, .slice none 0 0] 29))) := ⟨((Below.refl _ _).alloc (Nat.le_refl _) _).alloc (by simp) _⟩
  go_enter Tryd.func34, Tryd.ntmps34
  go_wp2_with fail
  refine (pageFind_any _ base n _ l p HOA.out HR.out HL.out).mono ?_
  rintro e w1 ⟨rfl, hb1⟩
  have HB1 := Sc.mk ((hb1.block _ (heap_lt HB.out)).trans HB.out)
  have HZ1 := Sc.mk ((hb1.block _ (heap_lt HZ.out)).trans HZ.out)
  have HW1 : Sc (Below w.heap.size w w1) := ⟨HBW.out.trans (hb1.mono HBW.out.size)⟩
  have HO1 : Sc (Own enc2 2 56 base w1 (.slice A k c) l) := ⟨HOA.out.below hb1⟩
  obtain ⟨b0, b1⟩ := cells_page HB1.out
  clear hb1
  go_upto_region 2 with fail
  go_cut [10] from 17 to 22 (fun s10 wx => ∃ (b8 : Nat) (A8 : Option Addr) (k8 c8 : Nat), s10 = .pointer (some ⟨b8, 0, none⟩) ∧ Sc (PageVar w1 wx b8 n (.slice A8 k8 c8) l))
  case first =>
    have SK : Sc (∀ W, Below w1.heap.size w1 W → W.cell? ⟨w.heap.size, 0, none⟩ = some (.int .i64 n) ∧ W.cell? ⟨w.heap.size, 1, none⟩ = some (.slice A k c)) := ⟨fun W hb => ⟨(hb.cell (World.block_lt_of_cell? _ _ b0)).trans b0, (hb.cell (World.block_lt_of_cell? _ _ b1)).trans b1⟩⟩
    go_region_held3 (fun W => W.cell? ⟨w.heap.size, 0, none⟩ = some (.int .i64 n) ∧ W.cell? ⟨w.heap.size, 1, none⟩ = some (.slice A k c)) (first | exact SK.out _ (Below.refl _ _).drew | exact SK.out _ HBC.out | exact SK.out _ (HBC.out.alloc HBC.out.size _) | exact SK.out _ ((Below.refl _ _).drew.alloc (Nat.le_refl _) _) | exact SK.out _ ((HBC.out.setCell (Nat.le_refl _) _).setCell (Nat.le_refl _) _))
      (first | (go_at_call 44; refine (entryClone_any _ base _ l (by first | exact HO1.out.drew | exact (HO1.out.drew.alloc _)) HL.out).mono ?_; rintro e w2 ⟨v2, rfl, ho, hb2⟩; obtain ⟨A2, k2, c2, rfl⟩ := ho.slice3; have HBC : Sc (Below w1.heap.size w1 w2) := ⟨by first | exact (Below.refl w1.heap.size w1).drew.trans hb2 | exact ((Below.refl w1.heap.size w1).drew.alloc (Nat.le_refl _) _).trans (hb2.mono (by simp))⟩; have HOC := Sc.mk ho; (first | (have hz : w2.heap[w1.heap.size]? = some (.cells #[.int .i64 0, .slice none 0 0] 29 (0, 0)) := (hb2.block _ (by simp)).trans (heap_alloc_new w1.drew _); obtain ⟨z0, z1⟩ := cells_page hz; have y0 := unfrozen_at hz 0; have y1 := unfrozen_at hz 1; have HZC := Sc.mk hz; clear hz) | skip); clear ho hb2))
    all_goals
      go_wp2_with fail
      go_meet
      case rel => first | exact ⟨_, _, _, _, rfl, ⟨PageVar.made HBC.out HOC.out (Nat.le_refl _)⟩⟩ | exact ⟨_, _, _, _, rfl, ⟨PageVar.filled HBC.out HZC.out HOC.out (Nat.le_refl _) (by simp)⟩⟩
  case rest =>
    obtain ⟨b8, A8, k8, c8, rfl, HPV⟩ := hcut
    have HPB := Sc.mk HPV.out.below
    have HZ2 : Sc (wc.heap[w.heap.size + 1]? = some (.cells #[.int .i64 0, .slice none 0 0] 29 (0, 0))) := ⟨(HPB.out.block _ (heap_lt HZ1.out)).trans HZ1.out⟩
    have hne8 : ¬ b8 = w.heap.size + 1 := by have := HPV.out.new; have := heap_lt HZ1.out; omega
    have hne9 : ¬ w.heap.size + 1 = b8 := fun h => hne8 h.symm
    cases hh : has l p with
    | true =>
      have HH := Sc.mk hh
      have hlt := has_lt HR.out hh
      obtain ⟨y, hy, hyp⟩ := (has_at HR.out p).1 hh
      obtain ⟨g, cap, he, hgb, _, hnc, _⟩ := HPV.out.own.form (by omega)
      injection he with h1 h2 h3
      subst h1 h2 h3
      have HPO := Sc.mk HPV.out.own
      have HPC := Sc.mk HPV.out.cells
      have HPN := Sc.mk HPV.out.new
      have HPA : Sc (g ≠ b8) := ⟨fun he => HPV.out.apart (by rw [he]; rfl)⟩
      have HGZ : Sc (w.heap.size + 1 < g ∧ w1.heap.size ≤ g) := ⟨by have := heap_lt HZ1.out; omega, hgb⟩
      have HS : Sc (setIn l (p, f) = l.set (pos l p) (y.1, f)) := ⟨by rw [setIn_yes (x := (p, f)) hh, hyp]⟩
      have HY := Sc.mk hy
      obtain ⟨d0, d1⟩ := cells_page HPC.out
      obtain ⟨c0, c1⟩ := HPO.out.cells2 hy
      have c2 := HPO.out.unfrozen (pos l p * 2 + 1)
      obtain ⟨e0, e1⟩ := cells_page HZ2.out
      have y0 := unfrozen_at HZ2.out 0
      have y1 := unfrozen_at HZ2.out 1
      have m1 : ¬ g = b8 := HPA.out
      have m2 : ¬ b8 = g := fun h => m1 h.symm
      have m3 : ¬ g = w.heap.size + 1 := by have := HGZ.out.1; omega
      have m4 : ¬ w.heap.size + 1 = g := fun h => m3 h.symm
      have hqI : (pos l p : Int) < l.length := by omega
      clear hh b0 b1 HPV hlt hnc hgb hy hyp
      go_wp2
      refine bodyPost_ret (v := .tuple #[aggP n (.slice (some ⟨g, 0, none⟩) l.length c8), .bool true]) (by simp [results, Tryd.results34, go_sem, e0, e1]) rfl (PutLeft.yes (.inl HH.out) ⟨_, _, _, rfl, ?_⟩)
      rw [HS.out]
      refine page_end ((HW1.out.trans (HPB.out.mono HW1.out.size)).setCell (by have := HGZ.out.1; show w.heap.size ≤ g; omega) _) (Own.set kind2 HPO.out (k := pos l p) (j := 1) (x := y) (x' := (y.1, f)) (u := .int .i64 f) HY.out (by omega) rfl) (Nat.le_succ _) (heap_lt HZ1.out)
    | false =>
      have HH := Sc.mk hh
      by_cases hfull : 20 ≤ l.length
      · have HF : Sc (¬ (has l p = true ∨ l.length < 20)) := ⟨by rw [hh]; simp; omega⟩
        have hk : k = l.length := HO.out.len
        have hfk : (20 : Int) ≤ k := by omega
        have HBX := Sc.mk ((HPB.out.block _ (heap_lt HB1.out)).trans HB1.out)
        obtain ⟨g0, g1⟩ := cells_page HBX.out
        obtain ⟨e0, e1⟩ := cells_page HZ2.out
        have y0 := unfrozen_at HZ2.out 0
        have y1 := unfrozen_at HZ2.out 1
        clear hh b0 b1 hk hfull
        go_wp2
        refine bodyPost_ret (v := .tuple #[aggP 0 (.slice none 0 0), .bool false]) (by simp [results, Tryd.results34, go_sem, e0, e1]) rfl (PutLeft.no HF.out ⟨_, _, _, rfl, ?_⟩)
        exact page_end (HW1.out.trans (HPB.out.mono HW1.out.size)) (Own.nil (base := w1.heap.size)) (Nat.le_succ _) (heap_lt HZ1.out)
      · have hl20 : l.length < 20 := by omega
        have hk : k = l.length := HO.out.len
        have hfk : ¬ (20 : Int) ≤ k := by omega
        have HBX := Sc.mk ((HPB.out.block _ (heap_lt HB1.out)).trans HB1.out)
        obtain ⟨g0, g1⟩ := cells_page HBX.out
        have HPO := Sc.mk HPV.out.own
        have HPC := Sc.mk HPV.out.cells
        have HPN := Sc.mk HPV.out.new
        have HPA := Sc.mk HPV.out.apart
        have HS : Sc (setIn l (p, f) = l.take (pos l p) ++ (p, f) :: l.drop (pos l p)) := ⟨setIn_no (x := (p, f)) hh⟩
        have HL20 := Sc.mk hl20
        obtain ⟨d0, d1⟩ := cells_page HPC.out
        clear hh b0 b1 hk hfull HPV hl20
        go_wp2_with fail
        refine (entryInsert_any _ w1.heap.size _ l (pos l p) (p, f) (HPO.out.alloc _) HL.out (pos_le l p) wc.heap.size (heap_alloc_new wc _) (fun he => by have := (HPO.out.lt _ he).2; omega) (by have := HPB.out.size; simp; omega)).mono ?_
        rintro e w3 ⟨v3, rfl, ho, hg, hat⟩
        obtain ⟨A3, k3, c3, rfl⟩ := ho.slice3
        have hx3 := (hg.block b8 (by have := heap_lt HPC.out; simp; omega) (fun he => HPA.out he.symm)).trans ((heap_alloc_old wc _ (heap_lt HPC.out)).trans HPC.out)
        have hz3 := (hg.block (w.heap.size + 1) (by have := heap_lt HZ2.out; simp; omega) (fun he => by have := (HPO.out.lt _ he.symm).1; have := heap_lt HZ1.out; omega)).trans ((heap_alloc_old wc _ (heap_lt HZ2.out)).trans HZ2.out)
        obtain ⟨x0, x1⟩ := cells_page hx3
        obtain ⟨e0, e1⟩ := cells_page hz3
        have xf := unfrozen_at hx3 1
        have y0 := unfrozen_at hz3 0
        have y1 := unfrozen_at hz3 1
        have HO3 := Sc.mk ho
        have HB3 : Sc (Below w.heap.size w w3) := ⟨((HW1.out.trans (HPB.out.mono HW1.out.size)).alloc (HW1.out.trans (HPB.out.mono HW1.out.size)).size _).grown hg (by have := (HW1.out.trans (HPB.out.mono HW1.out.size)).size; simp; omega) (fun q hq => Nat.le_trans HW1.out.size (HPO.out.lt q hq).1)⟩
        have HA3 : Sc ((Value.slice A3 k3 c3).ownBlock ≠ some b8) := ⟨fun he => by
          rcases hat with hat | hat
          · exact HPA.out (hat.symm.trans he)
          · rw [hat] at he; injection he with he; have := heap_lt HPC.out; simp at he; omega⟩
        clear ho hg hat hx3 hz3 d0 d1
        go_wp2
        refine bodyPost_ret (v := .tuple #[aggP n (.slice A3 k3 c3), .bool true]) (by simp [results, Tryd.results34, go_sem, e0, e1]) rfl (PutLeft.yes (.inr HL20.out) ⟨_, _, _, rfl, ?_⟩)
        rw [HS.out]
        exact page_end (HB3.out.setCell (by have := HPN.out; have := HW1.out.size; show w.heap.size ≤ b8; omega) _) (HO3.out.kp (Kp.setCell w3 ⟨b8, 1, none⟩ _) (fun q hq he => HA3.out (by rw [hq, he]))) (Nat.le_succ _) (heap_lt HZ1.out)
end Go.Proofs.YtmafogagkjafbaaDoor
