/- A variable that holds a page, behind calls; pages that were made of numbers. -/
import Derived.Test.YtmafogagkjafbaaDoorLawChangeKinds
import Derived.Test.YtmafogagkjafbaaDoorPagePl
namespace Go.Proofs.YtmafogagkjafbaaDoor
open Go.RowKit

theorem PageVar.bel {w W W' : World} {b : Nat} {n : Int} {v : Value} {l : List (Int × Int)} (h : PageVar w W b n v l) (hb : Below W.heap.size W W') : PageVar w W' b n v l :=
  ⟨below_down h.below hb, h.new, up hb h.cells, h.own.below hb, h.apart⟩
theorem PageVar.alloc {w W : World} {b : Nat} {n : Int} {v : Value} {l : List (Int × Int)} (h : PageVar w W b n v l) (o : Obj) : PageVar w (W.alloc o) b n v l := h.bel ((Below.refl _ _).alloc (Nat.le_refl _) o)
/-- Behind phoenixmake.Page, its numbers in new memory. -/
theorem PageVar.past {w W W' : World} {b b' : Nat} {n : Int} {v : Value} {l : List (Int × Int)} {o : Obj} (h : PageVar w W b n v l) (hk : Kp (fun q => q = b') (W.alloc o) W') (hb : b' = W.heap.size) : PageVar w W' b n v l :=
  ⟨made_below h.below hk hb, h.new, hk.at (h.alloc o).cells (by have := heap_lt h.cells; omega), (h.alloc o).own.kp hk (fun q hq => by have := (h.own.lt q hq).2; omega), h.apart⟩
/-- A store into a row that is none of the page's. -/
theorem PageVar.store {w W : World} {b g o : Nat} {n : Int} {v u : Value} {l : List (Int × Int)} (h : PageVar w W b n v l) (h1 : g ≠ b) (h2 : v.ownBlock ≠ some g) (h3 : w.heap.size ≤ g) : PageVar w (W.setCell ⟨g, o, none⟩ u) b n v l :=
  ⟨h.below.setCell h3 _, h.new, (Below.heap_setCell _ _ _ _ (fun he => h1 he.symm)).trans h.cells, h.own.kp (Kp.setCell _ _ _) (fun q hq he => h2 (by rw [hq, he])), h.apart⟩
theorem PageVar.of {w W : World} {A : Option Addr} {s c : Nat} {n : Int} {l : List (Int × Int)} (hb : Below w.heap.size w W) (ho : Own enc2 2 56 w.heap.size W (.slice A s c) l) :
    PageVar w (W.alloc (.cells #[.int .i64 n, .slice A s c] 29)) W.heap.size n (.slice A s c) l :=
  ⟨hb.alloc hb.size _, hb.size, heap_alloc_new W _, ho.alloc _, fun he => by have := (ho.lt _ he).2; omega⟩
/-- A page of such numbers may be. -/
theorem made_ok {n : Int} {l : List (Int × Int)} (h1 : 1 ≤ n) (h2 : n ≤ 50) (hr : Rising l) (h20 : l.length ≤ 20) (hrange : ∀ x ∈ l, 0 ≤ x.1 ∧ x.1 < 60 ∧ -500 ≤ x.2 ∧ x.2 < 500) : OkP n l ∧ Vals l := by
  refine ⟨⟨by omega, by omega, h20, fun _ => by omega, ?_⟩, fun x hx => by have := hrange x hx; omega⟩
  intro i x hi hx
  have := hrange x (List.mem_of_getElem? hx)
  exact ⟨by omega, by omega, fun y h0 hy => hr.lt (by omega) hy hx⟩
theorem BytesLeft.yes {f : Nat → Addr} {n : Int} {l : List (Int × Int)} {w w' : World} {e : Ending} (h : BytesLeft f n l w e w') (hok : OkP n l) :
    ∃ g c, e = .returned (.tuple #[.slice (some ⟨g, 0, none⟩) 256 c, .nilIface]) ∧ Own encB 1 5 w.heap.size w' (.slice (some ⟨g, 0, none⟩) 256 c) (pageB n l) ∧ Below w.heap.size w w' := by
  obtain ⟨h1, h2⟩ := h
  rcases h1 with ⟨_, A, k, c, rfl, ho⟩ | ⟨hno, _⟩
  · obtain ⟨g, cap, he, _, _, _, _⟩ := ho.form (by rw [pageB_length]; omega)
    injection he with hA hK hC
    rw [pageB_length] at hK
    subst hA hK hC
    exact ⟨g, c, rfl, ho, h2⟩
  · exact absurd hok hno
theorem ReadLeft.turned {f : Nat → Addr} {b : List Int} {w w' : World} {e : Ending} (h : ReadLeft f b w e w') (hb : b.length = 256) (hr : ¬ ReadOk b) :
    e = .returned (.tuple #[aggP 0 (.slice none 0 0), errV (f 6)]) ∧ Below w.heap.size w w' := by
  obtain ⟨h1, h2⟩ := h
  rcases h1 with ⟨h, _⟩ | ⟨_, h, _⟩ | ⟨_, _, h⟩
  · exact absurd hb h
  · exact absurd h hr
  · exact ⟨h, h2⟩
end Go.Proofs.YtmafogagkjafbaaDoor
