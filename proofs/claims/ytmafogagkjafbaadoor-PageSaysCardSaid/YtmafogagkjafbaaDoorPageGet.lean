/- A page's keys: page.Get. -/
import Derived.Test.YtmafogagkjafbaaDoorPVar
namespace Go.Proofs.YtmafogagkjafbaaDoor
open Go.RowKit

set_option maxRecDepth 4000 in
set_option maxHeartbeats 1000000 in
theorem pageGet_any (w : World) (base : Nat) (n0 : Int) (v : Value) (l : List (Int × Int)) (p : Int) (hown : Own enc2 2 56 base w v l) (hr : Rising l) (hlen : l.length ≤ 1000000) :
    Calls Tryd.prog 41 #[aggP n0 v, .int .i64 p] w fun e w' => e = .returned (.tuple #[.int .i64 ((look l p).getD 0), .bool (has l p)]) ∧ Below w.heap.size w w' := by
  obtain ⟨A, k, c, rfl⟩ := hown.slice3
  have HL := Sc.mk hlen
  have HR := Sc.mk hr
  obtain ⟨w1, hw1⟩ : ∃ w1, w.alloc (.cells #[.int .i64 n0, .slice A k c] 29) = w1 := ⟨_, rfl⟩
  obtain ⟨b1, hb1⟩ : ∃ b1, w.heap.size = b1 := ⟨_, rfl⟩
  have HC1 : Sc (w1.heap[b1]? = some (.cells #[.int .i64 n0, .slice A k c] 29 (0, 0))) := ⟨by rw [← hw1, ← hb1]; exact heap_alloc_new w _⟩
  have HB1 : Sc (Below w.heap.size w w1) := ⟨hw1 ▸ (Below.refl _ _).alloc (Nat.le_refl _) _⟩
  have HO1 : Sc (Own enc2 2 56 base w1 (.slice A k c) l) := ⟨hw1 ▸ hown.alloc _⟩
  obtain ⟨p0, p1⟩ := cells_page HC1.out
  have lp := heap_lt HC1.out
  clear hown hr hlen
  go_enter Tryd.func41, Tryd.ntmps41
  go_wp2_with fail
  clear hw1 hb1
  refine (pageFind_any _ base n0 _ l p HO1.out HR.out HL.out).mono ?_
  rintro e w2 ⟨rfl, hb⟩
  have HB2 : Sc (Below w.heap.size w w2) := ⟨below_down HB1.out hb⟩
  cases hh : has l p with
  | false =>
    have HH : Sc (look l p = none) := ⟨look_none hh⟩
    have HHb := Sc.mk hh
    clear p0 p1 lp hb hh
    go_wp2
    refine bodyPost_ret (v := .tuple #[.int .i64 0, .bool false]) (by simp [results, Tryd.results41, go_sem]) rfl ⟨by rw [HH.out, HHb.out]; rfl, HB2.out⟩
  | true =>
    have HHb := Sc.mk hh
    obtain ⟨x, hx, hxk⟩ := (has_at HR.out p).1 hh
    have HX : Sc ((look l p).getD 0 = x.2) := ⟨by
      have := look_of_mem HR.out (List.mem_of_getElem? hx)
      rw [hxk] at this
      rw [this]; rfl⟩
    have hlt := has_lt HR.out hh
    have HO2 := Sc.mk (HO1.out.below hb)
    obtain ⟨q0, q1⟩ := cells_page ((hb.block _ (heap_lt HC1.out)).trans HC1.out)
    have hkl := HO2.out.len
    obtain ⟨g, cq, he, _, _, _, _⟩ := HO2.out.form (by omega)
    injection he with hA hK hC
    subst hA
    obtain ⟨d0, d1⟩ := HO2.out.cells2 hx
    generalize hq : pos l p = q at hlt d0 d1 hx ⊢
    have hqk : (q : Int) < k := by omega
    clear p0 p1 lp hb hh hx hkl hK hC hq hlt
    go_wp2
    refine bodyPost_ret (v := .tuple #[.int .i64 x.2, .bool true]) (by simp [results, Tryd.results41, go_sem]) rfl ⟨by rw [HX.out, HHb.out], HB2.out⟩
end Go.Proofs.YtmafogagkjafbaaDoor
