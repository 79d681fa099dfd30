/- The document's log: its shape; Last, Room. -/
import Derived.Test.YtoapihepdallbaaDoorWal1
namespace Go.Proofs.YtoapihepdallbaaDoor
open Go.RowKit

/-- A log in block lb, its row in block row; it holds L; bs: the number ahead. -/
structure LogR (W : World) (lb : Nat) (row : Option Nat) (L : List RecD) (bs : Int) : Prop where
  val : ∃ (dp A : Option Addr) (s c : Nat), (Value.slice A s c).ownBlock = row ∧ W.heap[lb]? = some (.cells #[.pointer dp, .int .i64 1, .int .i64 29, .int .i64 bs, .int .i64 1, .slice A s c, .int .i64 bs] 95 (0, 0)) ∧ Own encR 10 51 0 W (.slice A s c) L
  apart : row ≠ some lb
theorem cells_rlog {w : World} {b : Nat} {a1 a2 a3 a4 a5 a6 a7 : Value} {t : TypeId} (h : w.heap[b]? = some (.cells #[a1, a2, a3, a4, a5, a6, a7] t (0, 0))) : w.cell? ⟨b, 2, none⟩ = some a3 ∧ w.cell? ⟨b, 3, none⟩ = some a4 ∧ w.cell? ⟨b, 5, none⟩ = some a6 := by simp [World.cell?, h]
theorem LogR.kp {W W' : World} {lb : Nat} {row : Option Nat} {L : List RecD} {bs : Int} {S : Nat → Prop} (h : LogR W lb row L bs) (k : Kp S W W') (h1 : ¬ S lb) (h2 : ∀ q, row = some q → ¬ S q) : LogR W' lb row L bs := by
  obtain ⟨⟨dp, A, s, c, hv, hc, hown⟩, hap⟩ := h
  exact ⟨⟨dp, A, s, c, hv, k.at hc h1, hown.kp k (fun q hq => h2 q (by rw [← hv]; exact hq))⟩, hap⟩
theorem LogR.bel {W W' : World} {lb : Nat} {row : Option Nat} {L : List RecD} {bs : Int} (h : LogR W lb row L bs) (hb : Below W.heap.size W W') : LogR W' lb row L bs := h.kp (Kp.of_below hb (fun _ => False)) id (fun _ _ => id)
theorem LogR.lt {W : World} {lb : Nat} {row : Option Nat} {L : List RecD} {bs : Int} (h : LogR W lb row L bs) : lb < W.heap.size := by
  obtain ⟨⟨_, _, _, _, _, hc, _⟩, _⟩ := h
  exact heap_lt hc
theorem LogR.rowlt {W : World} {lb : Nat} {row : Option Nat} {L : List RecD} {bs : Int} (h : LogR W lb row L bs) : ∀ q, row = some q → q < W.heap.size := by
  obtain ⟨⟨_, _, _, _, hv, _, ho⟩, _⟩ := h
  exact fun q hq => (ho.lt q (by rw [hv]; exact hq)).2

set_option maxRecDepth 4000 in
set_option maxHeartbeats 1000000 in
theorem refLast_any (w : World) (lb : Nat) (row : Option Nat) (L : List RecD) (bs : Int) (h : LogR w lb row L bs) (hlen : L.length ≤ 1000000) (h0 : 0 ≤ bs) (h1 : bs ≤ 1000000) :
    Calls Tryd.prog 33 #[.pointer (some ⟨lb, 0, none⟩)] w fun e w' => e = .returned (.int .i64 (bs + L.length)) ∧ Below w.heap.size w w' := by
  obtain ⟨⟨dp, A, s, c, hv, hc, hown⟩, hap⟩ := h
  obtain ⟨c2, c3, c5⟩ := cells_rlog hc
  have hs := hown.len
  have HS : Sc ((L.length : Int) = s) := ⟨by omega⟩
  have hw : IntKind.i64.wrap (bs + (s : Int)) = bs + s := IntWalk.i64_in _ ⟨by omega, by omega⟩
  clear hv hc hown hap hs
  go_enter Tryd.func33, Tryd.ntmps33
  go_upto_region 1 with fail
  go_quiet (fail)
  go_wp2
  go_ret
  exact ⟨by rw [HS.out]; rfl, below_drewQ (Below.refl _ _) _⟩

set_option maxRecDepth 4000 in
set_option maxHeartbeats 1000000 in
theorem refRoom_any (w : World) (lb : Nat) (row : Option Nat) (L : List RecD) (bs : Int) (h : LogR w lb row L bs) (hlen : L.length ≤ 173) (h0 : 0 ≤ bs) (h1 : bs ≤ 1000000) :
    Calls Tryd.prog 46 #[.pointer (some ⟨lb, 0, none⟩)] w fun e w' => e = .returned (.int .i64 (174 - L.length)) ∧ Below w.heap.size w w' := by
  have HL := Sc.mk h
  obtain ⟨⟨dp, A, s, c, hv, hc, hown⟩, hap⟩ := h
  obtain ⟨d2, d3, d5⟩ := cells_rlog hc
  have c2 : ∀ X : From w, X.world.cell? ⟨lb, 2, none⟩ = some (.int .i64 29) := fun X => X.cell d2
  have c5 : ∀ X : From w, X.world.cell? ⟨lb, 5, none⟩ = some (.slice A s c) := fun X => X.cell d5
  have hs := hown.len
  have HS : Sc ((L.length : Int) = s) := ⟨by omega⟩
  have hs3 : s ≤ 173 := by omega
  obtain ⟨z, hz⟩ : ∃ z, bs + (L.length : Int) = z := ⟨_, rfl⟩
  have HZ := Sc.mk hz
  have hz0 : 0 ≤ z := by omega
  have hz1 : z ≤ 2000000 := by omega
  have CL : ∀ X : From w, Calls Tryd.prog 33 #[.pointer (some ⟨lb, 0, none⟩)] X.world fun e w' => e = .returned (.int .i64 z) ∧ Below X.world.heap.size X.world w' := fun X => by
    have h := refLast_any X.world lb row L bs (HL.out.bel X.below) (by omega) h0 h1
    rw [HZ.out] at h
    exact h
  have hw1 : IntKind.i64.wrap (174 - (s : Int)) = 174 - s := IntWalk.i64_in _ ⟨by omega, by omega⟩
  have hw2 : IntKind.i64.wrap (1073741824 - z) = 1073741824 - z := IntWalk.i64_in _ ⟨by omega, by omega⟩
  clear hv hc hown hap hs d2 d3 d5 hz
  go_enter Tryd.func46, Tryd.ntmps46
  go_wp2_with fail
  refine wp_region_below (by kernel_rfl) (by kernel_rfl) ?_
  repeat (go_big_quiet_step ((go_at_call 33; exact From.call _ (CL _))))
  refine wpQuiet_nil ?_
  intro wq hw'
  have HBQ := Sc.mk (From.of_class hw')
  clear hw'
  go_wp2
  go_ret
  exact ⟨by rw [HS.out]; rfl, HBQ.out⟩
end Go.Proofs.YtoapihepdallbaaDoor
