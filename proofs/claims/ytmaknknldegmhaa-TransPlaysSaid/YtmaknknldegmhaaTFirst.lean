/- The chapter's examples on the table of transactions; a new table; a table that a law keeps. -/
import Derived.Test.YtmaknknldegmhaaTabT2
namespace Go.Proofs.Ytmaknknldegmhaa
open Go.RowKit

theorem TabT.new (w : World) : TabT (w.alloc (.cells #[.slice none 0 0, .int .i64 0] 37)) w.heap.size none [] 0 :=
  ⟨⟨.slice none 0 0, rfl, heap_alloc_new w _, Own.nil⟩, by simp, List.Pairwise.nil⟩
/-- A table that a law made, behind some of its calls; X: blocks of the law's own that no call on the table touches. -/
structure StT (w0 w : World) (tb : Nat) (l : List TX) (m : Int) (X : List (Nat × Obj)) : Prop where
  tab : ∃ row, TabT w tb row l m ∧ (∀ q, row = some q → w0.heap.size ≤ q) ∧ ∀ b o, (b, o) ∈ X → w.heap[b]? = some o ∧ b ≠ tb ∧ row ≠ some b
  made : w0.heap.size ≤ tb
  below : Below w0.heap.size w0 w
theorem StT.new (w0 : World) : StT w0 (w0.alloc (.cells #[.slice none 0 0, .int .i64 0] 37)) w0.heap.size [] 0 [] :=
  ⟨⟨none, TabT.new w0, (fun _ h => by cases h), fun _ _ h => by cases h⟩, Nat.le_refl _, (Below.refl _ _).alloc (Nat.le_refl _) _⟩
section
variable {w0 w w' : World} {tb : Nat} {l l' : List TX} {m m' : Int} {X : List (Nat × Obj)}
theorem StT.step (h : StT w0 w tb l m X) {row : Option Nat} (hrow : ∀ q, row = some q → w0.heap.size ≤ q) (hX : ∀ b o, (b, o) ∈ X → w.heap[b]? = some o ∧ b ≠ tb ∧ row ≠ some b) (hl : LeftT tb row l' m' w w') : StT w0 w' tb l' m' X := by
  obtain ⟨row', ht', hk, hat⟩ := hl
  refine ⟨⟨row', ht', fun q hq => ?_, fun b o hb => ?_⟩, h.made, h.below.trans (hk.below h.below.size (fun q hq => ?_))⟩
  · rcases hat with hat | ⟨q', hq', hle⟩
    · exact hrow q (by rw [← hat]; exact hq)
    · rw [hq'] at hq; injection hq with hq; subst hq; exact Nat.le_trans h.below.size hle
  · obtain ⟨h1, h2, h3⟩ := hX b o hb
    refine ⟨hk.at h1 (fun hq => hq.elim h2 (fun hq => h3 hq.symm)), h2, ?_⟩
    rcases hat with hat | ⟨q', hq', hle⟩
    · rw [hat]; exact h3
    · rw [hq']; intro he; injection he with he; subst he; have := heap_lt h1; omega
  · rcases hq with rfl | hq
    · exact h.made
    · exact hrow q hq.symm
theorem StT.bel (h : StT w0 w tb l m X) (hb : Below w.heap.size w w') : StT w0 w' tb l m X := by
  obtain ⟨⟨row, ht, hr, hX⟩, hm, hbb⟩ := h
  exact ⟨⟨row, ht.bel hb, hr, fun b o hbo => ⟨(hb.block b (heap_lt (hX b o hbo).1)).trans (hX b o hbo).1, (hX b o hbo).2⟩⟩, hm, hbb.trans (hb.mono hbb.size)⟩
theorem StT.alloc (h : StT w0 w tb l m X) (o : Obj) : StT w0 (w.alloc o) tb l m ((w.heap.size, o) :: X) := by
  obtain ⟨⟨row, ht, hr, hX⟩, hm, hbb⟩ := h
  refine ⟨⟨row, ht.bel ((Below.refl _ _).alloc (Nat.le_refl _) o), hr, fun b o' hbo => ?_⟩, hm, hbb.alloc hbb.size o⟩
  rcases List.mem_cons.1 hbo with he | hbo
  · injection he with h1 h2
    subst h1 h2
    obtain ⟨⟨v, hv, hc, hown⟩, _, _⟩ := ht
    exact ⟨heap_alloc_new w _, fun he => by have := heap_lt hc; omega, fun he => by have := (hown.lt _ (hv.trans he)).2; omega⟩
  · obtain ⟨h1, h2, h3⟩ := hX b o' hbo
    exact ⟨(heap_alloc_old w o (heap_lt h1)).trans h1, h2, h3⟩
theorem StT.has (h : StT w0 w tb l m X) {b : Nat} {o : Obj} (hb : (b, o) ∈ X) : w.heap[b]? = some o := by
  obtain ⟨row, _, _, hX⟩ := h.tab
  exact (hX b o hb).1
end

section
variable (w0 w : World) (tb : Nat) (l : List TX) (m : Int) (X : List (Nat × Obj)) (p a b : Int) (x : TX)
theorem txnAdd_st (h : StT w0 w tb l m X) (hlen : l.length ≤ 1000000) :
    Calls Try.prog 20 #[.pointer (some ⟨tb, 0, none⟩), aggT x] w fun e w' => e = .returned (.tuple #[]) ∧ StT w0 w' tb (setIn l x) (max m x.1) X := by
  obtain ⟨row, ht, hr, hX⟩ := h.tab
  exact (txnAdd_any w tb row l m x ht hlen).mono fun e w' ⟨he, hl⟩ => ⟨he, h.step hr hX hl⟩
theorem txnSeen_st (h : StT w0 w tb l m X) :
    Calls Try.prog 19 #[.pointer (some ⟨tb, 0, none⟩), .int .i64 p] w fun e w' => e = .returned (.tuple #[]) ∧ StT w0 w' tb l (max m p) X := by
  obtain ⟨row, ht, hr, hX⟩ := h.tab
  exact (txnSeen_any w tb row l m p ht).mono fun e w' ⟨he, hl⟩ => ⟨he, h.step hr hX hl⟩
theorem txnMost_st (h : StT w0 w tb l m X) :
    Calls Try.prog 23 #[.pointer (some ⟨tb, 0, none⟩)] w fun e w' => e = .returned (.int .i64 m) ∧ w = w' := by
  obtain ⟨row, ht, hr, hX⟩ := h.tab
  exact txnMost_any w tb row l m ht
theorem txnDrop_st (h : StT w0 w tb l m X) (hlen : l.length ≤ 1000000) :
    Calls Try.prog 21 #[.pointer (some ⟨tb, 0, none⟩), .int .i64 p] w fun e w' => e = .returned (.bool (has l p)) ∧ StT w0 w' tb (drop' l p) m X := by
  obtain ⟨row, ht, hr, hX⟩ := h.tab
  exact (txnDrop_any w tb row l m p ht hlen).mono fun e w' ⟨he, hl⟩ => ⟨he, h.step hr hX hl⟩
theorem txnGet_st (h : StT w0 w tb l m X) (hlen : l.length ≤ 1000000) :
    Calls Try.prog 26 #[.pointer (some ⟨tb, 0, none⟩), .int .i64 p] w fun e w' => e = .returned (.tuple #[aggT (got l p), .bool (has l p)]) ∧ StT w0 w' tb l m X := by
  obtain ⟨row, ht, hr, hX⟩ := h.tab
  exact (txnGet_any w tb row l m p ht hlen).mono fun e w' ⟨he, hb⟩ => ⟨he, h.bel hb⟩
theorem txnNote_st (h : StT w0 w tb l m X) (hlen : l.length ≤ 1000000) :
    Calls Try.prog 25 #[.pointer (some ⟨tb, 0, none⟩), .int .i64 p, .int .i64 a, .int .i64 b] w fun e w' => e = .returned (.bool (has l p)) ∧ StT w0 w' tb (upd l p (fun y => (y.1, a, b))) m X := by
  obtain ⟨row, ht, hr, hX⟩ := h.tab
  exact (txnNote_any w tb row l m p a b ht hlen).mono fun e w' ⟨he, hl⟩ => ⟨he, h.step hr hX hl⟩
theorem txnState_st (h : StT w0 w tb l m X) (hlen : l.length ≤ 1000000) :
    Calls Try.prog 27 #[.pointer (some ⟨tb, 0, none⟩), .int .i64 p, .int .i64 a] w fun e w' => e = .returned (.bool (has l p)) ∧ StT w0 w' tb (upd l p (fun y => (a, y.2.1, y.2.2))) m X := by
  obtain ⟨row, ht, hr, hX⟩ := h.tab
  exact (txnState_any w tb row l m p a ht hlen).mono fun e w' ⟨he, hl⟩ => ⟨he, h.step hr hX hl⟩
theorem txnBegin_st (h : StT w0 w tb l m X) (hlen : l.length ≤ 1000000) (h0 : 0 ≤ m) (hm : m < 60000) :
    Calls Try.prog 22 #[.pointer (some ⟨tb, 0, none⟩)] w fun e w' => e = .returned (.tuple #[.int .i64 (m + 1), .bool true]) ∧ StT w0 w' tb (setIn l (m + 1, 0, 0, 0)) (m + 1) X := by
  obtain ⟨row, ht, hr, hX⟩ := h.tab
  exact (txnBegin_yes w tb row l m ht hlen h0 hm).mono fun e w' ⟨he, hl⟩ => ⟨he, h.step hr hX hl⟩
theorem txnBegin_st_no (h : StT w0 w tb l m X) (hm : 60000 ≤ m) :
    Calls Try.prog 22 #[.pointer (some ⟨tb, 0, none⟩)] w fun e w' => e = .returned (.tuple #[.int .i64 0, .bool false]) ∧ w = w' := by
  obtain ⟨row, ht, hr, hX⟩ := h.tab
  exact txnBegin_no w tb row l m ht hm
/-- All: a new list. -/
def AllT (w0 w : World) (tb : Nat) (l : List TX) (m : Int) (X : List (Nat × Obj)) (e : Ending) (w' : World) : Prop :=
  ∃ v', e = .returned v' ∧ Own enc4 4 41 w.heap.size w' v' l ∧ StT w0 w' tb l m X
theorem txnAll_st (h : StT w0 w tb l m X) (hlen : l.length ≤ 1000000) :
    Calls Try.prog 24 #[.pointer (some ⟨tb, 0, none⟩)] w (AllT w0 w tb l m X) := by
  obtain ⟨row, ht, hr, hX⟩ := h.tab
  exact (txnAll_any w tb row l m ht hlen).mono fun e w' ⟨v, he, ho, hb⟩ => ⟨v, he, ho, h.bel hb⟩
end

set_option maxHeartbeats 1000000 in
theorem txnFirst0_any (w : World) : Calls Try.prog 18 #[] w fun e w' => e = .returned (.bool true) ∧ Below w.heap.size w w' := by
  have HS : Sc (StT w (w.alloc (.cells #[.slice none 0 0, .int .i64 0] 37)) w.heap.size [] 0 []) := ⟨StT.new w⟩
  have HL : Sc ((setIn ([] : List TX) (0 + 1, 0, 0, 0)).length = 1) := ⟨by decide⟩
  go_enter Try.func18, Try.ntmps18
  go_wp2_with (first | (go_at_call 22; refine (txnBegin_st w _ _ [] 0 [] HS.out (by simp) (by omega) (by omega)).mono ?_; rintro e w1 ⟨rfl, hs⟩; have HS1 := Sc.mk hs; clear hs) | (go_at_call 23; refine (txnMost_st w _ _ _ _ _ HS1.out).mono ?_; rintro e w2 ⟨rfl, rfl⟩) | (go_at_call 24; refine (txnAll_st w _ _ _ _ _ HS1.out (by rw [HL.out]; omega)).mono ?_; rintro e w3 ⟨v, rfl, ho, hs⟩; obtain ⟨A, c, rfl, _, _⟩ := ho.slice; rw [HL.out]; have HS3 := Sc.mk hs; clear hs ho))
  go_ret
  exact ⟨rfl, HS3.out.below⟩
end Go.Proofs.Ytmaknknldegmhaa
