/- The walk of TransPlays: whatever begins, is put in, noted, dropped, the table and the document's table tell the same. -/
import Derived.Test.YtmaknknldegmhaaTFirst
import Derived.Test.YtmaknknldegmhaaNum
import Derived.Test.YtmaknknldegmhaaRTabT2
import Derived.Test.YtmaknknldegmhaaRecs
import Derived.Deep.CutRange
import Derived.Deep.CutBlock
namespace Go.Proofs.Ytmaknknldegmhaa
open Go.RowKit

theorem RTabT.new (w : World) : RTabT (w.alloc (.cells #[.slice none 0 0, .int .i64 0] 62)) w.heap.size none [] 0 :=
  ⟨⟨.slice none 0 0, rfl, heap_alloc_new w _, Own.nil⟩, by simp, List.Pairwise.nil⟩
theorem TabT.lt {w : World} {tb : Nat} {row : Option Nat} {l : List TX} {m : Int} (h : TabT w tb row l m) : tb < w.heap.size ∧ ∀ q, row = some q → q < w.heap.size := by
  obtain ⟨⟨v, hv, hc, hown⟩, _, _⟩ := h
  exact ⟨heap_lt hc, fun q hq => (hown.lt q (hv.trans hq)).2⟩
theorem RTabT.lt {w : World} {tb : Nat} {row : Option Nat} {l : List TX} {m : Int} (h : RTabT w tb row l m) : tb < w.heap.size ∧ ∀ q, row = some q → q < w.heap.size := by
  obtain ⟨⟨v, hv, hc, hown⟩, _, _⟩ := h
  exact ⟨heap_lt hc, fun q hq => (hown.lt q (hv.trans hq)).2⟩
/-- The table and the document's, side by side. -/
structure StTR (w0 w : World) (tb tr : Nat) (l : List TX) (m : Int) (L : List TX) (M : Int) : Prop where
  tab : ∃ row rrow, TabT w tb row l m ∧ RTabT w tr rrow L M ∧ (∀ q, row = some q → w0.heap.size ≤ q ∧ q ≠ tr ∧ rrow ≠ some q) ∧ (∀ q, rrow = some q → w0.heap.size ≤ q ∧ q ≠ tb)
  made : w0.heap.size ≤ tb
  rmade : w0.heap.size ≤ tr
  apart : tb ≠ tr
  below : Below w0.heap.size w0 w
section
variable {w0 w w' : World} {tb tr : Nat} {l l' L L' : List TX} {m m' M M' : Int}
theorem StTR.new (w0 : World) : StTR w0 ((w0.alloc (.cells #[.slice none 0 0, .int .i64 0] 37)).alloc (.cells #[.slice none 0 0, .int .i64 0] 62)) w0.heap.size (w0.heap.size + 1) [] 0 [] 0 := by
  have h2 := RTabT.new (w0.alloc (.cells #[.slice none 0 0, .int .i64 0] 37))
  have hs : (w0.alloc (.cells #[.slice none 0 0, .int .i64 0] 37)).heap.size = w0.heap.size + 1 := by simp
  rw [hs] at h2
  exact ⟨⟨none, none, (TabT.new w0).bel ((Below.refl _ _).alloc (Nat.le_refl _) _), h2, (fun _ h => by cases h), (fun _ h => by cases h)⟩, Nat.le_refl _, by omega, by omega, ((Below.refl _ _).alloc (Nat.le_refl _) _).alloc (by simp) _⟩
theorem StTR.bel (h : StTR w0 w tb tr l m L M) (hb : Below w.heap.size w w') : StTR w0 w' tb tr l m L M := by
  obtain ⟨⟨row, rrow, h1, h2, h3, h4⟩, hm, hr, ha, hbb⟩ := h
  exact ⟨⟨row, rrow, h1.bel hb, h2.bel hb, h3, h4⟩, hm, hr, ha, hbb.trans (hb.mono hbb.size)⟩
theorem StTR.alloc (h : StTR w0 w tb tr l m L M) (o : Obj) : StTR w0 (w.alloc o) tb tr l m L M := h.bel ((Below.refl _ _).alloc (Nat.le_refl _) o)
theorem StTR.step (h : StTR w0 w tb tr l m L M) {row rrow : Option Nat} (h2 : RTabT w tr rrow L M) (h3 : ∀ q, row = some q → w0.heap.size ≤ q ∧ q ≠ tr ∧ rrow ≠ some q) (h4 : ∀ q, rrow = some q → w0.heap.size ≤ q ∧ q ≠ tb)
    (hl : LeftT tb row l' m' w w') : StTR w0 w' tb tr l' m' L M := by
  obtain ⟨_, hm, hr, ha, hbb⟩ := h
  obtain ⟨row', ht', hk, hat⟩ := hl
  have lt2 := h2.lt
  refine ⟨⟨row', rrow, ht', h2.kp hk (fun h => h.elim (fun h => ha h.symm) (fun h => (h3 _ h.symm).2.1 rfl)) (fun q hq h => h.elim (fun h => (h4 q hq).2 h) (fun h => (h3 q h.symm).2.2 hq)), fun q hq => ?_, h4⟩, hm, hr, ha, hbb.trans (hk.below hbb.size (fun q hq => ?_))⟩
  · rcases hat with hat | ⟨q', hq', hle⟩
    · exact h3 q (by rw [← hat]; exact hq)
    · rw [hq'] at hq; injection hq with hq; subst hq
      exact ⟨Nat.le_trans hbb.size hle, fun he => by have := lt2.1; omega, fun he => by have := lt2.2 _ he; omega⟩
  · rcases hq with rfl | hq
    · exact hm
    · exact (h3 q hq.symm).1
theorem StTR.rstep (h : StTR w0 w tb tr l m L M) {row rrow : Option Nat} (h1 : TabT w tb row l m) (h3 : ∀ q, row = some q → w0.heap.size ≤ q ∧ q ≠ tr ∧ rrow ≠ some q) (h4 : ∀ q, rrow = some q → w0.heap.size ≤ q ∧ q ≠ tb)
    (hl : RLeftT tr rrow L' M' w w') : StTR w0 w' tb tr l m L' M' := by
  obtain ⟨_, hm, hr, ha, hbb⟩ := h
  obtain ⟨row', ht', hk, hat⟩ := hl
  have lt1 := h1.lt
  refine ⟨⟨row, row', h1.kp hk (fun h => h.elim ha (fun h => (h4 _ h.symm).2 rfl)) (fun q hq h => h.elim (fun h => (h3 q hq).2.1 h) (fun h => (h3 q hq).2.2 h.symm)), ht', fun q hq => ⟨(h3 q hq).1, (h3 q hq).2.1, ?_⟩, fun q hq => ?_⟩, hm, hr, ha, hbb.trans (hk.below hbb.size (fun q hq => ?_))⟩
  · rcases hat with hat | hat
    · rw [hat]; exact (h3 q hq).2.2
    · intro he; have := hat _ he; have := lt1.2 q hq; omega
  · rcases hat with hat | hat
    · exact h4 q (by rw [← hat]; exact hq)
    · have := hat q hq; exact ⟨Nat.le_trans hbb.size this, fun he => by have := lt1.1; omega⟩
  · rcases hq with rfl | hq
    · exact hr
    · exact (h4 q hq.symm).1
theorem StTR.viaT {f : FuncId} {args : Array Value} {v : Value} (h : StTR w0 w tb tr l m L M) (hc : ∀ row, TabT w tb row l m → Calls Try.prog f args w fun e w' => e = .returned v ∧ LeftT tb row l' m' w w') :
    Calls Try.prog f args w fun e w' => e = .returned v ∧ StTR w0 w' tb tr l' m' L M := by
  obtain ⟨row, rrow, h1, h2, h3, h4⟩ := h.tab
  exact (hc row h1).mono fun e w' ⟨he, hl⟩ => ⟨he, h.step h2 h3 h4 hl⟩
theorem StTR.viaR {f : FuncId} {args : Array Value} {v : Value} (h : StTR w0 w tb tr l m L M) (hc : ∀ row, RTabT w tr row L M → Calls Try.prog f args w fun e w' => e = .returned v ∧ RLeftT tr row L' M' w w') :
    Calls Try.prog f args w fun e w' => e = .returned v ∧ StTR w0 w' tb tr l m L' M' := by
  obtain ⟨row, rrow, h1, h2, h3, h4⟩ := h.tab
  exact (hc rrow h2).mono fun e w' ⟨he, hl⟩ => ⟨he, h.rstep h1 h3 h4 hl⟩
/-- .. and a block that the law made just ahead. -/
theorem StTR.boxT {f : FuncId} {args : Array Value} {v : Value} {o : Obj} (h : StTR w0 w tb tr l m L M) (hc : ∀ row, TabT (w.alloc o) tb row l m → Calls Try.prog f args (w.alloc o) fun e w' => e = .returned v ∧ LeftT tb row l' m' (w.alloc o) w') :
    Calls Try.prog f args (w.alloc o) fun e w' => e = .returned v ∧ StTR w0 w' tb tr l' m' L M ∧ w'.heap[w.heap.size]? = (w.alloc o).heap[w.heap.size]? := by
  obtain ⟨row, rrow, h1, h2, h3, h4⟩ := h.tab
  have hb : Below w.heap.size w (w.alloc o) := (Below.refl _ _).alloc (Nat.le_refl _) o
  have hlt := h1.lt
  refine (hc row (h1.bel hb)).mono fun e w' ⟨he, hl⟩ => ⟨he, (h.bel hb).step (h2.bel hb) h3 h4 hl, ?_⟩
  obtain ⟨_, _, hk, _⟩ := hl
  exact hk.block _ (by simp) (fun hq => hq.elim (fun hq => by have := hlt.1; omega) (fun hq => by have := hlt.2 _ hq.symm; omega))
theorem StTR.ref (h : StTR w0 w tb tr l m L M) : ∃ A n c, w.cell? ⟨tr, 0, none⟩ = some (.slice A n c) ∧ w.cell? ⟨tr, 1, none⟩ = some (.int .i64 M) ∧ Own enc4 4 41 0 w (.slice A n c) L := by
  obtain ⟨row, rrow, _, ⟨⟨v, hv, hc, hown⟩, _, _⟩, _⟩ := h.tab
  obtain ⟨A, n, c, rfl⟩ := hown.slice3
  obtain ⟨c0, c1⟩ := cells_two hc
  exact ⟨A, n, c, c0, c1, hown⟩
theorem tGet2 (h : StTR w0 w tb tr l m L M) (p : Int) (hlen : l.length ≤ 1000000) :
    Calls Try.prog 26 #[.pointer (some ⟨tb, 0, none⟩), .int .i64 p] w fun e w' => e = .returned (.tuple #[aggT (got l p), .bool (has l p)]) ∧ Below w.heap.size w w' := by
  obtain ⟨row, rrow, h1, _⟩ := h.tab
  exact txnGet_any w tb row l m p h1 hlen
theorem rGet2 (h : StTR w0 w tb tr l m L M) (p : Int) (hlen : L.length ≤ 1000000) :
    Calls Try.prog 41 #[.pointer (some ⟨tr, 0, none⟩), .int .i64 p] w fun e w' => e = .returned (.tuple #[aggT (got L p), .bool (has L p)]) ∧ Below w.heap.size w w' := by
  obtain ⟨row, rrow, _, h2, _⟩ := h.tab
  exact rGetT_any w tr rrow L M p h2 hlen
theorem tMost2 (h : StTR w0 w tb tr l m L M) :
    Calls Try.prog 23 #[.pointer (some ⟨tb, 0, none⟩)] w fun e w' => e = .returned (.int .i64 m) ∧ w = w' := by
  obtain ⟨row, rrow, h1, _⟩ := h.tab
  exact txnMost_any w tb row l m h1
def AllT2 (w : World) (l : List TX) (e : Ending) (w' : World) : Prop :=
  ∃ A n c, e = .returned (.slice A n c) ∧ Own enc4 4 41 w.heap.size w' (.slice A n c) l ∧ Below w.heap.size w w'
theorem tAll2 (h : StTR w0 w tb tr l m L M) (hlen : l.length ≤ 1000000) :
    Calls Try.prog 24 #[.pointer (some ⟨tb, 0, none⟩)] w (AllT2 w l) := by
  obtain ⟨row, rrow, h1, _⟩ := h.tab
  exact (txnAll_any w tb row l m h1 hlen).mono fun e w' ⟨v, he, ho, hb⟩ => by
    obtain ⟨A, n, c, rfl⟩ := ho.slice3
    exact ⟨A, n, c, he, ho, hb⟩
end
end Go.Proofs.Ytmaknknldegmhaa
