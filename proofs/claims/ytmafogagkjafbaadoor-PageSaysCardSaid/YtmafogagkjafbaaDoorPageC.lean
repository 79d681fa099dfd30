/- The document's copy of a page. -/
import Derived.Test.YtmafogagkjafbaaDoorRef8
namespace Go.Proofs.YtmafogagkjafbaaDoor
open Go.RowKit

set_option maxRecDepth 4000 in
set_option maxHeartbeats 2000000 in
theorem pageCopy_any (w : World) (base : Nat) (n : Int) (v : Value) (l : List (Int × Int)) (hown : Own enc2 2 56 base w v l) (hlen : l.length ≤ 1000000) :
    Calls Tryd.prog 30 #[aggP n v] w fun e w' => ∃ A k c, e = .returned (aggP n (.slice A k c)) ∧ Own enc2 2 56 w.heap.size w' (.slice A k c) l ∧ Below w.heap.size w w' := by
  obtain ⟨A, k, c, rfl⟩ := hown.slice3
  have HL := Sc.mk hlen
  have H2 := Sc.mk (heap2 w (.cells #[.int .i64 n, .slice A k c] 29) (.cells #[.int .i64 0, .slice none 0 0] 29))
  obtain ⟨w1, hw1⟩ : ∃ w1, ((w.alloc (.cells #[.int .i64 n, .slice A k c] 29)).alloc (.cells #[.int .i64 0, .slice none 0 0] 29)) = w1 := ⟨_, rfl⟩
  have HO1 : Sc (Own enc2 2 56 base w1 (.slice A k c) l) := ⟨hw1 ▸ (hown.alloc _).alloc _⟩
  have HBW : Sc (Below w.heap.size w w1) := ⟨hw1 ▸ ((Below.refl _ _).alloc (Nat.le_refl _) _).alloc (by simp) _⟩
  rw [hw1] at H2
  have HW1 : Sc (w1.heap.size = w.heap.size + 2) := ⟨by rw [← hw1]; simp⟩
  obtain ⟨b0, b1⟩ := cells_page H2.out.1
  have l1 := heap_lt H2.out.1
  have l2 := heap_lt H2.out.2
  have SK : Sc (∀ W, Below (w.heap.size + 1) w1 W → W.cell? ⟨w.heap.size, 0, none⟩ = some (.int .i64 n) ∧ W.cell? ⟨w.heap.size, 1, none⟩ = some (.slice A k c)) := ⟨fun W hb => ⟨(hb.cell (Nat.lt_succ_self _)).trans b0, (hb.cell (Nat.lt_succ_self _)).trans b1⟩⟩
  have SD : Sc (Below (w.heap.size + 1) w1 w1.drew) := ⟨⟨rfl, rfl, rfl, Nat.le_refl _, fun _ _ => rfl⟩⟩
  clear hown hlen
  go_enter Tryd.func30, Tryd.ntmps30
  go_upto_region 1 with fail
  clear hw1
  go_region_held3 (fun W => W.cell? ⟨w.heap.size, 0, none⟩ = some (.int .i64 n) ∧ W.cell? ⟨w.heap.size, 1, none⟩ = some (.slice A k c)) (first | with_reducible exact SK.out _ HBD.out | with_reducible exact SK.out _ HBS.out | with_reducible exact SK.out _ SD.out | with_reducible exact SK.out _ (Below.refl _ _))
    (first | (go_at_call 48; (with_reducible refine (entryCopy_any _ base _ l (by first | with_reducible exact HO1.out | exact HO1.out.drew) HL.out).mono ?_); rintro e w2 ⟨v2, rfl, ho, hb2⟩; obtain ⟨A2, k2, c2, rfl⟩ := ho.slice3; have HBC : Sc (Below w1.heap.size w1 w2) := ⟨by first | with_reducible exact hb2 | exact (Below.refl w1.heap.size w1).drew.trans hb2⟩; have HBD : Sc (Below (w.heap.size + 1) w1 w2) := ⟨HBC.out.mono (by rw [HW1.out]; omega)⟩; have HBS : Sc (Below (w.heap.size + 1) w1 ((w2.setCell ⟨w.heap.size + 1, 0, none⟩ (.int .i64 n)).setCell ⟨w.heap.size + 1, 1, none⟩ (.slice A2 k2 c2))) := ⟨(HBD.out.setCell (Nat.le_refl _) _).setCell (Nat.le_refl _) _⟩; have HOC : Sc (Own enc2 2 56 w1.heap.size w2 (.slice A2 k2 c2) l) := ⟨ho⟩; have hz := (HBC.out.block _ l2).trans H2.out.2; obtain ⟨z0, z1⟩ := cells_page hz; have y0 := unfrozen_at hz 0; have y1 := unfrozen_at hz 1; have l3 := heap_lt hz; clear ho hb2 hz))
  all_goals
    go_wp2
    refine bodyPost_ret (v := aggP n (.slice A2 k2 c2)) (by simp [results, Tryd.results30, go_sem, z0, z1]) rfl ⟨A2, k2, c2, rfl, ?_, ?_⟩
    · exact ((HOC.out.low (a := ⟨w.heap.size + 1, 0, none⟩) (by show w.heap.size + 1 + 1 ≤ w1.heap.size; rw [HW1.out]; omega) _).low (a := ⟨w.heap.size + 1, 1, none⟩) (by show w.heap.size + 1 + 1 ≤ w1.heap.size; rw [HW1.out]; omega) _).mono (by rw [HW1.out]; omega)
    · exact HBW.out.trans (HBS.out.mono (Nat.le_succ _))
end Go.Proofs.YtmafogagkjafbaaDoor
