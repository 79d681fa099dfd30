/- The chapter's examples on the table of dirty pages; a new table; a table that a law keeps. -/
import Derived.Test.YtmaknknldegmhaaMinD
namespace Go.Proofs.Ytmaknknldegmhaa
open Go.RowKit

/-- A new table. -/
theorem TabD.new (w : World) : TabD (w.alloc (.cells #[.slice none 0 0] 26)) w.heap.size none [] :=
  ⟨⟨.slice none 0 0, rfl, heap_alloc_new w _, Own.nil⟩, by simp, List.Pairwise.nil⟩

/-- A table that a law made, behind some of its calls. -/
structure StD (w0 w : World) (tb : Nat) (l : List (Int × Int)) : Prop where
  tab : ∃ row, TabD w tb row l ∧ ∀ q, row = some q → w0.heap.size ≤ q
  made : w0.heap.size ≤ tb
  below : Below w0.heap.size w0 w
theorem StD.new (w0 : World) : StD w0 (w0.alloc (.cells #[.slice none 0 0] 26)) w0.heap.size [] :=
  ⟨⟨none, TabD.new w0, fun _ h => by cases h⟩, Nat.le_refl _, (Below.refl _ _).alloc (Nat.le_refl _) _⟩
theorem StD.step {w0 w w' : World} {tb : Nat} {l l' : List (Int × Int)} (h : StD w0 w tb l) {row : Option Nat} (ht : TabD w tb row l) (hrow : ∀ q, row = some q → w0.heap.size ≤ q) (hl : LeftD tb row l' w w') : StD w0 w' tb l' := by
  obtain ⟨row', ht', hk, hat⟩ := hl
  refine ⟨⟨row', ht', fun q hq => ?_⟩, h.made, h.below.trans (hk.below h.below.size (fun q hq => ?_))⟩
  · rcases hat with hat | ⟨q', hq', hle⟩
    · exact hrow q (by rw [← hat]; exact hq)
    · rw [hq'] at hq; injection hq with hq; subst hq; exact Nat.le_trans h.below.size hle
  · rcases hq with rfl | hq
    · exact h.made
    · exact hrow q hq.symm
theorem TabD.kp {w w' : World} {tb : Nat} {row : Option Nat} {l : List (Int × Int)} {S : Nat → Prop} (h : TabD w tb row l) (k : Kp S w w') (h1 : ¬ S tb) (h2 : ∀ q, row = some q → ¬ S q) : TabD w' tb row l := by
  obtain ⟨⟨v, hv, hc, hown⟩, hap, hr⟩ := h
  exact ⟨⟨v, hv, k.at hc h1, hown.kp k (fun q hq => h2 q (by rw [← hv]; exact hq))⟩, hap, hr⟩
theorem TabD.bel {w w' : World} {tb : Nat} {row : Option Nat} {l : List (Int × Int)} (h : TabD w tb row l) (hb : Below w.heap.size w w') : TabD w' tb row l := h.kp (Kp.of_below hb (fun _ => False)) id (fun _ _ => id)
theorem StD.bel {w0 w w' : World} {tb : Nat} {l : List (Int × Int)} (h : StD w0 w tb l) (hb : Below w.heap.size w w') : StD w0 w' tb l := by
  obtain ⟨⟨row, ht, hr⟩, hm, hbb⟩ := h
  exact ⟨⟨row, ht.bel hb, hr⟩, hm, hbb.trans (hb.mono hbb.size)⟩

section
variable (w0 w : World) (tb : Nat) (l : List (Int × Int)) (p f : Int)
theorem dirtyAdd_st (h : StD w0 w tb l) (hlen : l.length ≤ 1000000) :
    Calls Try.prog 13 #[.pointer (some ⟨tb, 0, none⟩), .int .i64 p, .int .i64 f] w fun e w' => e = .returned (.tuple #[]) ∧ StD w0 w' tb (add l (p, f)) := by
  obtain ⟨row, ht, hr⟩ := h.tab
  exact (dirtyAdd_any w tb row l p f ht hlen).mono fun e w' ⟨he, hl⟩ => ⟨he, h.step ht hr hl⟩
theorem dirtyDrop_st (h : StD w0 w tb l) (hlen : l.length ≤ 1000000) :
    Calls Try.prog 28 #[.pointer (some ⟨tb, 0, none⟩), .int .i64 p] w fun e w' => e = .returned (.bool (has l p)) ∧ StD w0 w' tb (drop' l p) := by
  obtain ⟨row, ht, hr⟩ := h.tab
  exact (dirtyDrop_any w tb row l p ht hlen).mono fun e w' ⟨he, hl⟩ => ⟨he, h.step ht hr hl⟩
theorem dirtyFrom_st (h : StD w0 w tb l) (hlen : l.length ≤ 1000000) :
    Calls Try.prog 31 #[.pointer (some ⟨tb, 0, none⟩), .int .i64 p] w fun e w' => e = .returned (.tuple #[.int .i64 ((look l p).getD 0), .bool (has l p)]) ∧ StD w0 w' tb l := by
  obtain ⟨row, ht, hr⟩ := h.tab
  exact (dirtyFrom_any w tb row l p ht hlen).mono fun e w' ⟨he, hb⟩ => ⟨he, h.bel hb⟩
theorem dirtyLeast_st (h : StD w0 w tb l) (hlen : l.length ≤ 1000000) :
    Calls Try.prog 33 #[.pointer (some ⟨tb, 0, none⟩)] w fun e w' => e = .returned (.int .i64 (least l)) ∧ StD w0 w' tb l := by
  obtain ⟨row, ht, hr⟩ := h.tab
  exact (dirtyLeast_any w tb row l ht hlen).mono fun e w' ⟨he, hb⟩ => ⟨he, h.bel hb⟩
/-- All: a new list, which no later call on the table touches. -/
def AllD (w0 w : World) (tb : Nat) (l : List (Int × Int)) (e : Ending) (w' : World) : Prop :=
  ∃ v', e = .returned v' ∧ Own enc2 2 32 w.heap.size w' v' l ∧ StD w0 w' tb l
theorem dirtyAll_st (h : StD w0 w tb l) (hlen : l.length ≤ 1000000) :
    Calls Try.prog 15 #[.pointer (some ⟨tb, 0, none⟩)] w (AllD w0 w tb l) := by
  obtain ⟨row, ht, hr⟩ := h.tab
  exact (dirtyAll_any w tb row l ht hlen).mono fun e w' ⟨v, he, ho, hb⟩ => ⟨v, he, ho, h.bel hb⟩
end

set_option maxHeartbeats 1000000 in
theorem dirtyFirst0_any (w : World) : Calls Try.prog 12 #[] w fun e w' => e = .returned (.bool true) ∧ Below w.heap.size w w' := by
  have HS : Sc (StD w (w.alloc (.cells #[.slice none 0 0] 26)) w.heap.size []) := ⟨StD.new w⟩
  have hl : (add ([] : List (Int × Int)) (3, 7)).length ≤ 1000000 := by decide
  have H1 : Sc ((look (add ([] : List (Int × Int)) (3, 7)) 3).getD 0 = 7) := ⟨by decide⟩
  have H2 : Sc (has (add ([] : List (Int × Int)) (3, 7)) 3 = true) := ⟨by decide⟩
  have HL := Sc.mk hl
  clear hl
  go_enter Try.func12, Try.ntmps12
  go_wp2_with (first | (go_at_call 33; refine (dirtyLeast_st w _ _ [] HS.out (by simp)).mono ?_; rintro e w1 ⟨rfl, hs⟩; have HS1 := Sc.mk hs; clear hs) | (go_at_call 13; refine (dirtyAdd_st w _ _ [] 3 7 HS1.out (by simp)).mono ?_; rintro e w2 ⟨rfl, hs⟩; have HS2 := Sc.mk hs; clear hs) | (go_at_call 31; refine (dirtyFrom_st w _ _ _ 3 HS2.out HL.out).mono ?_; rintro e w3 ⟨rfl, hs⟩; rw [H1.out, H2.out]; have HS3 := Sc.mk hs; clear hs))
  go_ret
  exact ⟨rfl, HS3.out.below⟩
end Go.Proofs.Ytmaknknldegmhaa
