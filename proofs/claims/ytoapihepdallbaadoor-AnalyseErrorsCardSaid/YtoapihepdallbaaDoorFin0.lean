/- A finder under way: its log, its two tables; what the tables' calls leave of it. -/
import Derived.Test.YtoapihepdallbaaDoorFTabD
import Derived.Test.YtoapihepdallbaaDoorPlainA
import Derived.Test.YtoapihepdallbaaDoorUp
namespace Go.Proofs.YtoapihepdallbaaDoor
open Go.RowKit

/-- A finder in block fb, its log in block lb, its rows; all of it from block B on; what it found. -/
structure FinP (B : Nat) (w : World) (fb lb : Nat) (rt rd : Option Nat) (s : An) : Prop where
  val : ∃ vt vd : Value, vt.ownBlock = rt ∧ vd.ownBlock = rd ∧ w.heap[fb]? = some (.cells #[.pointer (some ⟨lb, 0, none⟩), vt, .int .i64 s.m, vd, .bool s.ins] 83 (0, 0)) ∧ Own enc4 4 56 0 w vt s.t ∧ Own enc2 2 58 0 w vd s.d
  at_ : rt ≠ some fb
  ad : rd ≠ some fb
  diff : ∀ q, rt = some q → rd ≠ some q
  rising : Rising s.t
  risingD : Rising s.d
  newF : B ≤ fb
  newT : ∀ q, rt = some q → B ≤ q
  newD : ∀ q, rd = some q → B ≤ q
/-- What a call that may turn the finder leaves. -/
def LeftF (B fb lb : Nat) (rt rd : Option Nat) (s : An) (w w' : World) : Prop :=
  ∃ rt' rd', FinP B w' fb lb rt' rd' s ∧ Kp (fun q => q = fb ∨ some q = rt ∨ some q = rd) w w' ∧ (rt' = rt ∨ ∃ q, rt' = some q ∧ w.heap.size ≤ q) ∧ (rd' = rd ∨ ∃ q, rd' = some q ∧ w.heap.size ≤ q)
section
variable {B fb lb : Nat} {w w' w'' : World} {rt rd : Option Nat} {s s' : An}
theorem FinP.lt (h : FinP B w fb lb rt rd s) : fb < w.heap.size := by obtain ⟨⟨_, _, _, _, hc, _⟩, _⟩ := h; exact heap_lt hc
theorem FinP.rowlt (h : FinP B w fb lb rt rd s) : (∀ q, rt = some q → q < w.heap.size) ∧ ∀ q, rd = some q → q < w.heap.size := by
  obtain ⟨⟨vt, vd, h1, h2, _, h3, h4⟩, _⟩ := h
  exact ⟨fun q hq => (h3.lt q (by rw [h1]; exact hq)).2, fun q hq => (h4.lt q (by rw [h2]; exact hq)).2⟩
theorem FinP.bel (h : FinP B w fb lb rt rd s) (hb : Below w.heap.size w w') : FinP B w' fb lb rt rd s := by
  obtain ⟨⟨vt, vd, h1, h2, hc, h3, h4⟩, a, b, c, d, e, f, g, i⟩ := h
  exact ⟨⟨vt, vd, h1, h2, up hb hc, h3.below hb, h4.below hb⟩, a, b, c, d, e, f, g, i⟩
theorem FinP.drew (h : FinP B w fb lb rt rd s) : FinP B w.drew fb lb rt rd s := by
  obtain ⟨⟨vt, vd, h1, h2, hc, h3, h4⟩, a, b, c, d, e, f, g, i⟩ := h
  exact ⟨⟨vt, vd, h1, h2, hc, h3.drew, h4.drew⟩, a, b, c, d, e, f, g, i⟩
theorem FinP.cells (h : FinP B w fb lb rt rd s) : w.cell? ⟨fb, 0, none⟩ = some (.pointer (some ⟨lb, 0, none⟩)) ∧ w.cell? ⟨fb, 4, none⟩ = some (.bool s.ins) := by
  obtain ⟨⟨vt, vd, h1, h2, hc, h3, h4⟩, _⟩ := h
  simp [World.cell?, hc]
theorem FinP.unfrozen (h : FinP B w fb lb rt rd s) (o : Nat) : w.frozen? ⟨fb, o, none⟩ = false := by
  obtain ⟨⟨vt, vd, h1, h2, hc, h3, h4⟩, _⟩ := h
  exact unfrozen_at hc o
theorem FinP.tabT (h : FinP B w fb lb rt rd s) : ∃ R, TabT R w fb rt s.t s.m := by
  obtain ⟨⟨vt, vd, h1, h2, hc, h3, h4⟩, a, b, c, d, e, f, g, i⟩ := h
  exact ⟨⟨.pointer (some ⟨lb, 0, none⟩), vd, s.ins⟩, ⟨vt, h1, hc, h3⟩, a, d⟩
theorem FinP.tabD (h : FinP B w fb lb rt rd s) : ∃ R, TabD R w fb rd s.d := by
  obtain ⟨⟨vt, vd, h1, h2, hc, h3, h4⟩, a, b, c, d, e, f, g, i⟩ := h
  exact ⟨⟨.pointer (some ⟨lb, 0, none⟩), vt, s.m, s.ins⟩, ⟨vd, h2, hc, h4⟩, b, e⟩
theorem LeftF.same (h : FinP B w fb lb rt rd s) (hb : Below w.heap.size w w') : LeftF B fb lb rt rd s w w' := ⟨rt, rd, h.bel hb, Kp.of_below hb _, .inl rfl, .inl rfl⟩
theorem LeftF.refl (h : FinP B w fb lb rt rd s) : LeftF B fb lb rt rd s w w := LeftF.same h (Below.refl _ _)
theorem LeftF.trans {rt' rd' : Option Nat} (hk : Kp (fun q => q = fb ∨ some q = rt ∨ some q = rd) w w') (ht : rt' = rt ∨ ∃ q, rt' = some q ∧ w.heap.size ≤ q) (hd : rd' = rd ∨ ∃ q, rd' = some q ∧ w.heap.size ≤ q) (h : LeftF B fb lb rt' rd' s' w' w'') : LeftF B fb lb rt rd s' w w'' := by
  obtain ⟨rt2, rd2, hf, hk2, ht2, hd2⟩ := h
  refine ⟨rt2, rd2, hf, hk.trans hk2 (fun q hq => ?_), ?_, ?_⟩
  · rcases hq with hq | hq | hq
    · exact .inl (.inl hq)
    · rcases ht with h | ⟨p, h, hp⟩
      · exact .inl (.inr (.inl (by rw [← h]; exact hq)))
      · rw [h] at hq; injection hq with hq; exact .inr (by omega)
    · rcases hd with h | ⟨p, h, hp⟩
      · exact .inl (.inr (.inr (by rw [← h]; exact hq)))
      · rw [h] at hq; injection hq with hq; exact .inr (by omega)
  · rcases ht2 with h2 | ⟨q, h2, hq⟩
    · rcases ht with h | ⟨p, h, hp⟩
      · exact .inl (h2.trans h)
      · exact .inr ⟨p, h2.trans h, hp⟩
    · exact .inr ⟨q, h2, Nat.le_trans hk.size hq⟩
  · rcases hd2 with h2 | ⟨q, h2, hq⟩
    · rcases hd with h | ⟨p, h, hp⟩
      · exact .inl (h2.trans h)
      · exact .inr ⟨p, h2.trans h, hp⟩
    · exact .inr ⟨q, h2, Nat.le_trans hk.size hq⟩
theorem LeftF.bel (h : LeftF B fb lb rt rd s w w') (hb : Below w'.heap.size w' w'') : LeftF B fb lb rt rd s w w'' := by
  obtain ⟨rt2, rd2, hf, hk, ht, hd⟩ := h
  exact ⟨rt2, rd2, hf.bel hb, hk.trans (Kp.of_below hb (fun _ => False)) (fun _ h => h.elim), ht, hd⟩
theorem LeftF.from_ {w0 : World} (h : LeftF B fb lb rt rd s w w') (hb : Below w0.heap.size w0 w) : LeftF B fb lb rt rd s w0 w' := by
  obtain ⟨rt2, rd2, hf, hk, ht, hd⟩ := h
  refine ⟨rt2, rd2, hf, (Kp.of_below hb _).trans hk (fun _ h => .inl h), ?_, ?_⟩
  · rcases ht with h | ⟨q, h, hq⟩
    · exact .inl h
    · exact .inr ⟨q, h, Nat.le_trans hb.size hq⟩
  · rcases hd with h | ⟨q, h, hq⟩
    · exact .inl h
    · exact .inr ⟨q, h, Nat.le_trans hb.size hq⟩
/-- All below B is as it was. -/
theorem LeftF.below (h : LeftF B fb lb rt rd s' w w') (hf : FinP B w fb lb rt rd s) : Below B w w' := by
  obtain ⟨_, _, _, hk, _, _⟩ := h
  refine hk.below (Nat.le_trans hf.newF (Nat.le_of_lt hf.lt)) (fun q hq => ?_)
  rcases hq with hq | hq | hq
  · rw [hq]; exact hf.newF
  · exact hf.newT q hq.symm
  · exact hf.newD q hq.symm
/-- A block that is none of the finder's. -/
theorem LeftF.at_ {b : Nat} {o : Obj} (h : LeftF B fb lb rt rd s' w w') (hb : w.heap[b]? = some o) (h1 : b ≠ fb) (h2 : rt ≠ some b) (h3 : rd ≠ some b) : w'.heap[b]? = some o := by
  obtain ⟨_, _, _, hk, _, _⟩ := h
  exact hk.at hb (fun h => h.elim h1 (fun h => h.elim (fun h => h2 h.symm) (fun h => h3 h.symm)))
theorem FinP.ofT {t' : List TX} {m' : Int} {vt vd : Value} (h : FinP B w fb lb rt rd s) (_h1 : vt.ownBlock = rt) (h2 : vd.ownBlock = rd) (hc : w.heap[fb]? = some (.cells #[.pointer (some ⟨lb, 0, none⟩), vt, .int .i64 s.m, vd, .bool s.ins] 83 (0, 0))) (h4 : Own enc2 2 58 0 w vd s.d) (hl : LeftT ⟨.pointer (some ⟨lb, 0, none⟩), vd, s.ins⟩ fb rt t' m' w w') : LeftF B fb lb rt rd { s with t := t', m := m' } w w' := by
  obtain ⟨_, a, b, c, d, e, f, g, i⟩ := h
  obtain ⟨rt', ⟨⟨vt', h1', hc', h3'⟩, a', d'⟩, hk, hat⟩ := hl
  have hdl : ∀ q, rd = some q → q < w.heap.size := fun q hq => (h4.lt q (by rw [h2]; exact hq)).2
  refine ⟨rt', rd, ⟨⟨vt', vd, h1', h2, hc', h3', h4.kp hk (fun q hq he => ?_)⟩, a', b, fun q hq he => ?_, d', e, f, fun q hq => ?_, i⟩, hk.mono (fun q hq => hq.elim .inl (fun h => .inr (.inl h))), hat, .inl rfl⟩
  · rw [h2] at hq
    rcases he with he | he
    · exact b (by rw [hq, he])
    · exact c q he.symm hq
  · rcases hat with h | ⟨p, h, hp⟩
    · exact c q (h.symm.trans hq) he
    · rw [h] at hq; injection hq with hq; have := hdl q he; omega
  · rcases hat with h | ⟨p, h, hp⟩
    · exact g q (h.symm.trans hq)
    · rw [h] at hq; injection hq with hq; have := heap_lt hc; omega
theorem FinP.ofD {d' : List (Int × Int)} {vt vd : Value} (h : FinP B w fb lb rt rd s) (h1 : vt.ownBlock = rt) (hc : w.heap[fb]? = some (.cells #[.pointer (some ⟨lb, 0, none⟩), vt, .int .i64 s.m, vd, .bool s.ins] 83 (0, 0))) (h3 : Own enc4 4 56 0 w vt s.t) (hl : LeftD ⟨.pointer (some ⟨lb, 0, none⟩), vt, s.m, s.ins⟩ fb rd d' w w') : LeftF B fb lb rt rd { s with d := d' } w w' := by
  obtain ⟨_, a, b, c, d, e, f, g, i⟩ := h
  obtain ⟨rd', ⟨⟨vd', h2', hc', h4'⟩, b', e'⟩, hk, hat⟩ := hl
  have htl : ∀ q, rt = some q → q < w.heap.size := fun q hq => (h3.lt q (by rw [h1]; exact hq)).2
  refine ⟨rt, rd', ⟨⟨vt, vd', h1, h2', hc', h3.kp hk (fun q hq he => ?_), h4'⟩, a, b', fun q hq he => ?_, d, e', f, g, fun q hq => ?_⟩, hk.mono (fun q hq => hq.elim .inl (fun h => .inr (.inr h))), .inl rfl, hat⟩
  · rw [h1] at hq
    rcases he with he | he
    · exact a (by rw [hq, he])
    · exact c q hq he.symm
  · rcases hat with h | ⟨p, h, hp⟩
    · exact c q hq (h.symm.trans he)
    · rw [h] at he; injection he with he; have := htl q hq; omega
  · rcases hat with h | ⟨p, h, hp⟩
    · exact i q (h.symm.trans hq)
    · rw [h] at hq; injection hq with hq; have := heap_lt hc; omega
theorem FinP.setIns (h : FinP B w fb lb rt rd s) (x : Bool) : FinP B (w.setCell ⟨fb, 4, none⟩ (.bool x)) fb lb rt rd { s with ins := x } := by
  obtain ⟨⟨vt, vd, h1, h2, hc, h3, h4⟩, a, b, c, d, e, f, g, i⟩ := h
  refine ⟨⟨vt, vd, h1, h2, ?_, h3.kp (Kp.setCell w _ _) (fun q hq he => a (by rw [← h1, hq, he])), h4.kp (Kp.setCell w _ _) (fun q hq he => b (by rw [← h2, hq, he]))⟩, a, b, c, d, e, f, g, i⟩
  rw [set_one hc 4 _]; rfl
theorem LeftF.setIns (h : LeftF B fb lb rt rd s w w') (x : Bool) : LeftF B fb lb rt rd { s with ins := x } w (w'.setCell ⟨fb, 4, none⟩ (.bool x)) := by
  obtain ⟨rt2, rd2, hf, hk, ht, hd⟩ := h
  exact ⟨rt2, rd2, hf.setIns x, hk.trans (Kp.setCell w' ⟨fb, 4, none⟩ _) (fun q hq => .inl (.inl hq)), ht, hd⟩
end
variable {B fb lb : Nat} {rt rd : Option Nat} {s : An}
theorem finAddT (w : World) (x : TX) (h : FinP B w fb lb rt rd s) (hlen : s.t.length ≤ 1000000) :
    Calls Tryd.prog 68 #[.pointer (some ⟨fb, 1, none⟩), aggT x] w fun e w' => e = .returned (.tuple #[]) ∧ LeftF B fb lb rt rd { s with t := setIn s.t x, m := max s.m x.1 } w w' := by
  obtain ⟨⟨vt, vd, h1, h2, hc, h3, h4⟩, a, b, c, d, e, f, g, i⟩ := id h
  exact (txnAdd_any (R := ⟨.pointer (some ⟨lb, 0, none⟩), vd, s.ins⟩) w fb rt s.t s.m x ⟨⟨vt, h1, hc, h3⟩, a, d⟩ hlen).mono fun e w' ⟨he, hl⟩ => ⟨he, h.ofT h1 h2 hc h4 hl⟩
theorem finSeen (w : World) (p : Int) (h : FinP B w fb lb rt rd s) :
    Calls Tryd.prog 70 #[.pointer (some ⟨fb, 1, none⟩), .int .i64 p] w fun e w' => e = .returned (.tuple #[]) ∧ LeftF B fb lb rt rd { s with m := max s.m p } w w' := by
  obtain ⟨⟨vt, vd, h1, h2, hc, h3, h4⟩, a, b, c, d, e, f, g, i⟩ := id h
  exact (txnSeen_any (R := ⟨.pointer (some ⟨lb, 0, none⟩), vd, s.ins⟩) w fb rt s.t s.m p ⟨⟨vt, h1, hc, h3⟩, a, d⟩).mono fun e w' ⟨he, hl⟩ => ⟨he, h.ofT h1 h2 hc h4 hl⟩
theorem finDrop (w : World) (p : Int) (h : FinP B w fb lb rt rd s) (hlen : s.t.length ≤ 1000000) :
    Calls Tryd.prog 72 #[.pointer (some ⟨fb, 1, none⟩), .int .i64 p] w fun e w' => e = .returned (.bool (has s.t p)) ∧ LeftF B fb lb rt rd { s with t := drop' s.t p } w w' := by
  obtain ⟨⟨vt, vd, h1, h2, hc, h3, h4⟩, a, b, c, d, e, f, g, i⟩ := id h
  exact (txnDrop_any (R := ⟨.pointer (some ⟨lb, 0, none⟩), vd, s.ins⟩) w fb rt s.t s.m p ⟨⟨vt, h1, hc, h3⟩, a, d⟩ hlen).mono fun e w' ⟨he, hl⟩ => ⟨he, h.ofT h1 h2 hc h4 hl⟩
theorem finGet (w : World) (p : Int) (h : FinP B w fb lb rt rd s) (hlen : s.t.length ≤ 1000000) :
    Calls Tryd.prog 71 #[.pointer (some ⟨fb, 1, none⟩), .int .i64 p] w fun e w' => e = .returned (.tuple #[aggT (got s.t p), .bool (has s.t p)]) ∧ Below w.heap.size w w' := by
  obtain ⟨R, hR⟩ := h.tabT
  exact txnGet_any (R := R) w fb rt s.t s.m p hR hlen
theorem finAddD (w : World) (p q : Int) (h : FinP B w fb lb rt rd s) (hlen : s.d.length ≤ 1000000) :
    Calls Tryd.prog 69 #[.pointer (some ⟨fb, 3, none⟩), .int .i64 p, .int .i64 q] w fun e w' => e = .returned (.tuple #[]) ∧ LeftF B fb lb rt rd { s with d := add s.d (p, q) } w w' := by
  obtain ⟨⟨vt, vd, h1, h2, hc, h3, h4⟩, a, b, c, d, e, f, g, i⟩ := id h
  exact (dirtyAdd_any (Rd := ⟨.pointer (some ⟨lb, 0, none⟩), vt, s.m, s.ins⟩) w fb rd s.d p q ⟨⟨vd, h2, hc, h4⟩, b, e⟩ hlen).mono fun e w' ⟨he, hl⟩ => ⟨he, h.ofD h1 hc h3 hl⟩
theorem finAllT (w : World) (h : FinP B w fb lb rt rd s) (hlen : s.t.length ≤ 1000000) : Calls Tryd.prog 30 #[.pointer (some ⟨fb, 1, none⟩)] w (FreshT s.t w) := by
  obtain ⟨R, hR⟩ := h.tabT
  exact txnAll_any (R := R) w fb rt s.t s.m hR hlen
theorem finAllD (w : World) (h : FinP B w fb lb rt rd s) (hlen : s.d.length ≤ 1000000) : Calls Tryd.prog 31 #[.pointer (some ⟨fb, 3, none⟩)] w (FreshD s.d w) := by
  obtain ⟨R, hR⟩ := h.tabD
  exact dirtyAll_any (Rd := R) w fb rd s.d hR hlen
theorem finMost (w : World) (h : FinP B w fb lb rt rd s) : Calls Tryd.prog 32 #[.pointer (some ⟨fb, 1, none⟩)] w fun e w' => e = .returned (.int .i64 s.m) ∧ w = w' := by
  obtain ⟨R, hR⟩ := h.tabT
  exact txnMost_any (R := R) w fb rt s.t s.m hR
end Go.Proofs.YtoapihepdallbaaDoor
