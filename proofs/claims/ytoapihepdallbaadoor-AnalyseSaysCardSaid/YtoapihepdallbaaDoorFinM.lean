/- A finder under way: its log, its two tables; what the tables' calls leave of it. The program's analysis, a record at a time: bad, check. The program's analysis, a record at a time: goes. The program's analysis: one record. -/
import Derived.Test.YtoapihepdallbaaDoorFTabD
import Derived.Test.YtoapihepdallbaaDoorPlainA
import Derived.Test.YtoapihepdallbaaDoorUp
import Derived.Test.YtoapihepdallbaaDoorWal2
import Derived.Deep.RegionLaw
namespace Go.Proofs.YtoapihepdallbaaDoor
section
open Go.RowKit

/-- A finder in block fb, its log in block lb, its rows; all of it from block B on; what it found. -/
structure FinP (B : Nat) (w : World) (fb lb : Nat) (rt rd : Option Nat) (s : An) : Prop where
  val : ∃ vt vd : Value, vt.ownBlock = rt ∧ vd.ownBlock = rd ∧ w.heap[fb]? = some (.cells #[.pointer (some ⟨lb, 0, none⟩), vt, .int .i64 s.m, vd, .bool s.ins] 83 (0, 0)) ∧ Own enc4 4 56 0 w vt s.t ∧ Own enc2 2 58 0 w vd s.d
  at_ : rt ≠ some fb
  ad : rd ≠ some fb
  diff : ∀ q, rt = some q → rd ≠ some q
  rising : Rising s.t
  risingD : Rising s.d
  newF : B ≤ fb
  newT : ∀ q, rt = some q → B ≤ q
  newD : ∀ q, rd = some q → B ≤ q
/-- What a call that may turn the finder leaves. -/
def LeftF (B fb lb : Nat) (rt rd : Option Nat) (s : An) (w w' : World) : Prop :=
  ∃ rt' rd', FinP B w' fb lb rt' rd' s ∧ Kp (fun q => q = fb ∨ some q = rt ∨ some q = rd) w w' ∧ (rt' = rt ∨ ∃ q, rt' = some q ∧ w.heap.size ≤ q) ∧ (rd' = rd ∨ ∃ q, rd' = some q ∧ w.heap.size ≤ q)
section
variable {B fb lb : Nat} {w w' w'' : World} {rt rd : Option Nat} {s s' : An}
theorem FinP.lt (h : FinP B w fb lb rt rd s) : fb < w.heap.size := by obtain ⟨⟨_, _, _, _, hc, _⟩, _⟩ := h; exact heap_lt hc
theorem FinP.rowlt (h : FinP B w fb lb rt rd s) : (∀ q, rt = some q → q < w.heap.size) ∧ ∀ q, rd = some q → q < w.heap.size := by
  obtain ⟨⟨vt, vd, h1, h2, _, h3, h4⟩, _⟩ := h
  exact ⟨fun q hq => (h3.lt q (by rw [h1]; exact hq)).2, fun q hq => (h4.lt q (by rw [h2]; exact hq)).2⟩
theorem FinP.bel (h : FinP B w fb lb rt rd s) (hb : Below w.heap.size w w') : FinP B w' fb lb rt rd s := by
  obtain ⟨⟨vt, vd, h1, h2, hc, h3, h4⟩, a, b, c, d, e, f, g, i⟩ := h
  exact ⟨⟨vt, vd, h1, h2, up hb hc, h3.below hb, h4.below hb⟩, a, b, c, d, e, f, g, i⟩
theorem FinP.drew (h : FinP B w fb lb rt rd s) : FinP B w.drew fb lb rt rd s := by
  obtain ⟨⟨vt, vd, h1, h2, hc, h3, h4⟩, a, b, c, d, e, f, g, i⟩ := h
  exact ⟨⟨vt, vd, h1, h2, hc, h3.drew, h4.drew⟩, a, b, c, d, e, f, g, i⟩
theorem FinP.cells (h : FinP B w fb lb rt rd s) : w.cell? ⟨fb, 0, none⟩ = some (.pointer (some ⟨lb, 0, none⟩)) ∧ w.cell? ⟨fb, 4, none⟩ = some (.bool s.ins) := by
  obtain ⟨⟨vt, vd, h1, h2, hc, h3, h4⟩, _⟩ := h
  simp [World.cell?, hc]
theorem FinP.unfrozen (h : FinP B w fb lb rt rd s) (o : Nat) : w.frozen? ⟨fb, o, none⟩ = false := by
  obtain ⟨⟨vt, vd, h1, h2, hc, h3, h4⟩, _⟩ := h
  exact unfrozen_at hc o
theorem FinP.tabT (h : FinP B w fb lb rt rd s) : ∃ R, TabT R w fb rt s.t s.m := by
  obtain ⟨⟨vt, vd, h1, h2, hc, h3, h4⟩, a, b, c, d, e, f, g, i⟩ := h
  exact ⟨⟨.pointer (some ⟨lb, 0, none⟩), vd, s.ins⟩, ⟨vt, h1, hc, h3⟩, a, d⟩
theorem FinP.tabD (h : FinP B w fb lb rt rd s) : ∃ R, TabD R w fb rd s.d := by
  obtain ⟨⟨vt, vd, h1, h2, hc, h3, h4⟩, a, b, c, d, e, f, g, i⟩ := h
  exact ⟨⟨.pointer (some ⟨lb, 0, none⟩), vt, s.m, s.ins⟩, ⟨vd, h2, hc, h4⟩, b, e⟩
theorem LeftF.same (h : FinP B w fb lb rt rd s) (hb : Below w.heap.size w w') : LeftF B fb lb rt rd s w w' := ⟨rt, rd, h.bel hb, Kp.of_below hb _, .inl rfl, .inl rfl⟩
theorem LeftF.refl (h : FinP B w fb lb rt rd s) : LeftF B fb lb rt rd s w w := LeftF.same h (Below.refl _ _)
theorem LeftF.trans {rt' rd' : Option Nat} (hk : Kp (fun q => q = fb ∨ some q = rt ∨ some q = rd) w w') (ht : rt' = rt ∨ ∃ q, rt' = some q ∧ w.heap.size ≤ q) (hd : rd' = rd ∨ ∃ q, rd' = some q ∧ w.heap.size ≤ q) (h : LeftF B fb lb rt' rd' s' w' w'') : LeftF B fb lb rt rd s' w w'' := by
  obtain ⟨rt2, rd2, hf, hk2, ht2, hd2⟩ := h
  refine ⟨rt2, rd2, hf, hk.trans hk2 (fun q hq => ?_), ?_, ?_⟩
  · rcases hq with hq | hq | hq
    · exact .inl (.inl hq)
    · rcases ht with h | ⟨p, h, hp⟩
      · exact .inl (.inr (.inl (by rw [← h]; exact hq)))
      · rw [h] at hq; injection hq with hq; exact .inr (by omega)
    · rcases hd with h | ⟨p, h, hp⟩
      · exact .inl (.inr (.inr (by rw [← h]; exact hq)))
      · rw [h] at hq; injection hq with hq; exact .inr (by omega)
  · rcases ht2 with h2 | ⟨q, h2, hq⟩
    · rcases ht with h | ⟨p, h, hp⟩
      · exact .inl (h2.trans h)
      · exact .inr ⟨p, h2.trans h, hp⟩
    · exact .inr ⟨q, h2, Nat.le_trans hk.size hq⟩
  · rcases hd2 with h2 | ⟨q, h2, hq⟩
    · rcases hd with h | ⟨p, h, hp⟩
      · exact .inl (h2.trans h)
      · exact .inr ⟨p, h2.trans h, hp⟩
    · exact .inr ⟨q, h2, Nat.le_trans hk.size hq⟩
theorem LeftF.bel (h : LeftF B fb lb rt rd s w w') (hb : Below w'.heap.size w' w'') : LeftF B fb lb rt rd s w w'' := by
  obtain ⟨rt2, rd2, hf, hk, ht, hd⟩ := h
  exact ⟨rt2, rd2, hf.bel hb, hk.trans (Kp.of_below hb (fun _ => False)) (fun _ h => h.elim), ht, hd⟩
theorem LeftF.from_ {w0 : World} (h : LeftF B fb lb rt rd s w w') (hb : Below w0.heap.size w0 w) : LeftF B fb lb rt rd s w0 w' := by
  obtain ⟨rt2, rd2, hf, hk, ht, hd⟩ := h
  refine ⟨rt2, rd2, hf, (Kp.of_below hb _).trans hk (fun _ h => .inl h), ?_, ?_⟩
  · rcases ht with h | ⟨q, h, hq⟩
    · exact .inl h
    · exact .inr ⟨q, h, Nat.le_trans hb.size hq⟩
  · rcases hd with h | ⟨q, h, hq⟩
    · exact .inl h
    · exact .inr ⟨q, h, Nat.le_trans hb.size hq⟩
/-- All below B is as it was. -/
theorem LeftF.below (h : LeftF B fb lb rt rd s' w w') (hf : FinP B w fb lb rt rd s) : Below B w w' := by
  obtain ⟨_, _, _, hk, _, _⟩ := h
  refine hk.below (Nat.le_trans hf.newF (Nat.le_of_lt hf.lt)) (fun q hq => ?_)
  rcases hq with hq | hq | hq
  · rw [hq]; exact hf.newF
  · exact hf.newT q hq.symm
  · exact hf.newD q hq.symm
/-- A block that is none of the finder's. -/
theorem LeftF.at_ {b : Nat} {o : Obj} (h : LeftF B fb lb rt rd s' w w') (hb : w.heap[b]? = some o) (h1 : b ≠ fb) (h2 : rt ≠ some b) (h3 : rd ≠ some b) : w'.heap[b]? = some o := by
  obtain ⟨_, _, _, hk, _, _⟩ := h
  exact hk.at hb (fun h => h.elim h1 (fun h => h.elim (fun h => h2 h.symm) (fun h => h3 h.symm)))
theorem FinP.ofT {t' : List TX} {m' : Int} {vt vd : Value} (h : FinP B w fb lb rt rd s) (_h1 : vt.ownBlock = rt) (h2 : vd.ownBlock = rd) (hc : w.heap[fb]? = some (.cells #[.pointer (some ⟨lb, 0, none⟩), vt, .int .i64 s.m, vd, .bool s.ins] 83 (0, 0))) (h4 : Own enc2 2 58 0 w vd s.d) (hl : LeftT ⟨.pointer (some ⟨lb, 0, none⟩), vd, s.ins⟩ fb rt t' m' w w') : LeftF B fb lb rt rd { s with t := t', m := m' } w w' := by
  obtain ⟨_, a, b, c, d, e, f, g, i⟩ := h
  obtain ⟨rt', ⟨⟨vt', h1', hc', h3'⟩, a', d'⟩, hk, hat⟩ := hl
  have hdl : ∀ q, rd = some q → q < w.heap.size := fun q hq => (h4.lt q (by rw [h2]; exact hq)).2
  refine ⟨rt', rd, ⟨⟨vt', vd, h1', h2, hc', h3', h4.kp hk (fun q hq he => ?_)⟩, a', b, fun q hq he => ?_, d', e, f, fun q hq => ?_, i⟩, hk.mono (fun q hq => hq.elim .inl (fun h => .inr (.inl h))), hat, .inl rfl⟩
  · rw [h2] at hq
    rcases he with he | he
    · exact b (by rw [hq, he])
    · exact c q he.symm hq
  · rcases hat with h | ⟨p, h, hp⟩
    · exact c q (h.symm.trans hq) he
    · rw [h] at hq; injection hq with hq; have := hdl q he; omega
  · rcases hat with h | ⟨p, h, hp⟩
    · exact g q (h.symm.trans hq)
    · rw [h] at hq; injection hq with hq; have := heap_lt hc; omega
theorem FinP.ofD {d' : List (Int × Int)} {vt vd : Value} (h : FinP B w fb lb rt rd s) (h1 : vt.ownBlock = rt) (hc : w.heap[fb]? = some (.cells #[.pointer (some ⟨lb, 0, none⟩), vt, .int .i64 s.m, vd, .bool s.ins] 83 (0, 0))) (h3 : Own enc4 4 56 0 w vt s.t) (hl : LeftD ⟨.pointer (some ⟨lb, 0, none⟩), vt, s.m, s.ins⟩ fb rd d' w w') : LeftF B fb lb rt rd { s with d := d' } w w' := by
  obtain ⟨_, a, b, c, d, e, f, g, i⟩ := h
  obtain ⟨rd', ⟨⟨vd', h2', hc', h4'⟩, b', e'⟩, hk, hat⟩ := hl
  have htl : ∀ q, rt = some q → q < w.heap.size := fun q hq => (h3.lt q (by rw [h1]; exact hq)).2
  refine ⟨rt, rd', ⟨⟨vt, vd', h1, h2', hc', h3.kp hk (fun q hq he => ?_), h4'⟩, a, b', fun q hq he => ?_, d, e', f, g, fun q hq => ?_⟩, hk.mono (fun q hq => hq.elim .inl (fun h => .inr (.inr h))), .inl rfl, hat⟩
  · rw [h1] at hq
    rcases he with he | he
    · exact a (by rw [hq, he])
    · exact c q hq he.symm
  · rcases hat with h | ⟨p, h, hp⟩
    · exact c q hq (h.symm.trans he)
    · rw [h] at he; injection he with he; have := htl q hq; omega
  · rcases hat with h | ⟨p, h, hp⟩
    · exact i q (h.symm.trans hq)
    · rw [h] at hq; injection hq with hq; have := heap_lt hc; omega
theorem FinP.setIns (h : FinP B w fb lb rt rd s) (x : Bool) : FinP B (w.setCell ⟨fb, 4, none⟩ (.bool x)) fb lb rt rd { s with ins := x } := by
  obtain ⟨⟨vt, vd, h1, h2, hc, h3, h4⟩, a, b, c, d, e, f, g, i⟩ := h
  refine ⟨⟨vt, vd, h1, h2, ?_, h3.kp (Kp.setCell w _ _) (fun q hq he => a (by rw [← h1, hq, he])), h4.kp (Kp.setCell w _ _) (fun q hq he => b (by rw [← h2, hq, he]))⟩, a, b, c, d, e, f, g, i⟩
  rw [set_one hc 4 _]; rfl
theorem LeftF.setIns (h : LeftF B fb lb rt rd s w w') (x : Bool) : LeftF B fb lb rt rd { s with ins := x } w (w'.setCell ⟨fb, 4, none⟩ (.bool x)) := by
  obtain ⟨rt2, rd2, hf, hk, ht, hd⟩ := h
  exact ⟨rt2, rd2, hf.setIns x, hk.trans (Kp.setCell w' ⟨fb, 4, none⟩ _) (fun q hq => .inl (.inl hq)), ht, hd⟩
end
variable {B fb lb : Nat} {rt rd : Option Nat} {s : An}
theorem finAddT (w : World) (x : TX) (h : FinP B w fb lb rt rd s) (hlen : s.t.length ≤ 1000000) :
    Calls Tryd.prog 68 #[.pointer (some ⟨fb, 1, none⟩), aggT x] w fun e w' => e = .returned (.tuple #[]) ∧ LeftF B fb lb rt rd { s with t := setIn s.t x, m := max s.m x.1 } w w' := by
  obtain ⟨⟨vt, vd, h1, h2, hc, h3, h4⟩, a, b, c, d, e, f, g, i⟩ := id h
  exact (txnAdd_any (R := ⟨.pointer (some ⟨lb, 0, none⟩), vd, s.ins⟩) w fb rt s.t s.m x ⟨⟨vt, h1, hc, h3⟩, a, d⟩ hlen).mono fun e w' ⟨he, hl⟩ => ⟨he, h.ofT h1 h2 hc h4 hl⟩
theorem finSeen (w : World) (p : Int) (h : FinP B w fb lb rt rd s) :
    Calls Tryd.prog 70 #[.pointer (some ⟨fb, 1, none⟩), .int .i64 p] w fun e w' => e = .returned (.tuple #[]) ∧ LeftF B fb lb rt rd { s with m := max s.m p } w w' := by
  obtain ⟨⟨vt, vd, h1, h2, hc, h3, h4⟩, a, b, c, d, e, f, g, i⟩ := id h
  exact (txnSeen_any (R := ⟨.pointer (some ⟨lb, 0, none⟩), vd, s.ins⟩) w fb rt s.t s.m p ⟨⟨vt, h1, hc, h3⟩, a, d⟩).mono fun e w' ⟨he, hl⟩ => ⟨he, h.ofT h1 h2 hc h4 hl⟩
theorem finDrop (w : World) (p : Int) (h : FinP B w fb lb rt rd s) (hlen : s.t.length ≤ 1000000) :
    Calls Tryd.prog 72 #[.pointer (some ⟨fb, 1, none⟩), .int .i64 p] w fun e w' => e = .returned (.bool (has s.t p)) ∧ LeftF B fb lb rt rd { s with t := drop' s.t p } w w' := by
  obtain ⟨⟨vt, vd, h1, h2, hc, h3, h4⟩, a, b, c, d, e, f, g, i⟩ := id h
  exact (txnDrop_any (R := ⟨.pointer (some ⟨lb, 0, none⟩), vd, s.ins⟩) w fb rt s.t s.m p ⟨⟨vt, h1, hc, h3⟩, a, d⟩ hlen).mono fun e w' ⟨he, hl⟩ => ⟨he, h.ofT h1 h2 hc h4 hl⟩
theorem finGet (w : World) (p : Int) (h : FinP B w fb lb rt rd s) (hlen : s.t.length ≤ 1000000) :
    Calls Tryd.prog 71 #[.pointer (some ⟨fb, 1, none⟩), .int .i64 p] w fun e w' => e = .returned (.tuple #[aggT (got s.t p), .bool (has s.t p)]) ∧ Below w.heap.size w w' := by
  obtain ⟨R, hR⟩ := h.tabT
  exact txnGet_any (R := R) w fb rt s.t s.m p hR hlen
theorem finAddD (w : World) (p q : Int) (h : FinP B w fb lb rt rd s) (hlen : s.d.length ≤ 1000000) :
    Calls Tryd.prog 69 #[.pointer (some ⟨fb, 3, none⟩), .int .i64 p, .int .i64 q] w fun e w' => e = .returned (.tuple #[]) ∧ LeftF B fb lb rt rd { s with d := add s.d (p, q) } w w' := by
  obtain ⟨⟨vt, vd, h1, h2, hc, h3, h4⟩, a, b, c, d, e, f, g, i⟩ := id h
  exact (dirtyAdd_any (Rd := ⟨.pointer (some ⟨lb, 0, none⟩), vt, s.m, s.ins⟩) w fb rd s.d p q ⟨⟨vd, h2, hc, h4⟩, b, e⟩ hlen).mono fun e w' ⟨he, hl⟩ => ⟨he, h.ofD h1 hc h3 hl⟩
theorem finAllT (w : World) (h : FinP B w fb lb rt rd s) (hlen : s.t.length ≤ 1000000) : Calls Tryd.prog 30 #[.pointer (some ⟨fb, 1, none⟩)] w (FreshT s.t w) := by
  obtain ⟨R, hR⟩ := h.tabT
  exact txnAll_any (R := R) w fb rt s.t s.m hR hlen
theorem finAllD (w : World) (h : FinP B w fb lb rt rd s) (hlen : s.d.length ≤ 1000000) : Calls Tryd.prog 31 #[.pointer (some ⟨fb, 3, none⟩)] w (FreshD s.d w) := by
  obtain ⟨R, hR⟩ := h.tabD
  exact dirtyAll_any (Rd := R) w fb rd s.d hR hlen
theorem finMost (w : World) (h : FinP B w fb lb rt rd s) : Calls Tryd.prog 32 #[.pointer (some ⟨fb, 1, none⟩)] w fun e w' => e = .returned (.int .i64 s.m) ∧ w = w' := by
  obtain ⟨R, hR⟩ := h.tabT
  exact txnMost_any (R := R) w fb rt s.t s.m hR
end
section
open Go.RowKit

theorem LogP.left {B fb lb lg : Nat} {w w' : World} {rt rd row : Option Nat} {s s' : An} {L : List RecD} {bs : Int} (h : LogP w lg row L bs) (hl : LeftF B fb lb rt rd s' w w') (hf : FinP B w fb lb rt rd s) (h1 : lg < B) (h2 : ∀ q, row = some q → q < B) : LogP w' lg row L bs := by
  have hb := hl.below hf
  refine h.kp (S := fun q => B ≤ q) ⟨hb.os, hb.tape, hb.output, hb.size, fun k hk hn => hb.block k (by omega)⟩ (by omega) (fun q hq => by have := h2 q hq; omega)
theorem box_left {B fb lb b : Nat} {w w' : World} {rt rd : Option Nat} {s' : An} {o : Obj} (hl : LeftF B fb lb rt rd s' w w') (hb : w.heap[b]? = some o) (hn : b ≠ fb ∧ rt ≠ some b ∧ rd ≠ some b) : w'.heap[b]? = some o := hl.at_ hb hn.1 hn.2.1 hn.2.2
theorem FinP.fresh {B fb lb : Nat} {w : World} {rt rd : Option Nat} {s : An} (h : FinP B w fb lb rt rd s) : w.heap.size ≠ fb ∧ rt ≠ some w.heap.size ∧ rd ≠ some w.heap.size :=
  ⟨by have := h.lt; omega, fun he => by have := h.rowlt.1 _ he; omega, fun he => by have := h.rowlt.2 _ he; omega⟩

/-- An error around a place. -/
abbrev errAt (b : Nat) : Value := .iface 119 (.pointer (some ⟨b, 0, none⟩))
set_option maxRecDepth 4000 in
set_option maxHeartbeats 1000000 in
theorem bad_any (f : Nat → Addr) (w : World) (lsn : Int) (hS : Sents w f) :
    Calls Tryd.prog 28 #[.int .i64 lsn] w fun e w' => ∃ b, e = .returned (errAt b) ∧ w.heap.size ≤ b ∧ w'.heap[b]? = some (.cells #[.int .i64 lsn, errV (f 7)] 121 (0, 0)) ∧ Below w.heap.size w w' := by
  have hge : w.cell? ⟨1, 0, none⟩ = some (errV (f 7)) := hS.cell 7 (by omega)
  clear hS
  go_enter Tryd.func28, Tryd.ntmps28
  go_wp2
  go_ret
  exact ⟨_, rfl, Nat.le_refl _, heap_alloc_new w _, dn_alloc (Below.refl _ _) _⟩

variable {B fb lb : Nat} {rt rd row : Option Nat} {s : An} {L : List RecD} {bs : Int}
set_option maxRecDepth 4000 in
set_option maxHeartbeats 2000000 in
theorem finCheck (w : World) (lsn : Int) (r : RecD) (h : FinP B w fb lb rt rd s) (hl : LogP w lb row L bs) (hlb : lb < B ∧ ∀ q, row = some q → q < B) (ht : s.t.length ≤ 1000000) (hd : s.d.length ≤ 1000000) :
    Calls Tryd.prog 49 #[.pointer (some ⟨fb, 0, none⟩), .int .i64 lsn, aggR r] w fun e w' => e = .returned (.bool (stepC bs lsn r s).1) ∧ LeftF B fb lb rt rd (stepC bs lsn r s).2 w w' := by
  obtain ⟨ok, hok⟩ : ∃ ok, (stepC bs lsn r s).1 = ok := ⟨_, rfl⟩
  obtain ⟨s', hs'⟩ : ∃ s', (stepC bs lsn r s).2 = s' := ⟨_, rfl⟩
  rw [hok, hs']
  have HOK := Sc.mk (And.intro hok hs')
  have HB1 : Sc (Below w.heap.size w (w.alloc (.cells (cellsR r) 51))) := ⟨dn_alloc (Below.refl _ _) _⟩
  have HF0 := Sc.mk h
  have HF1 := Sc.mk (h.bel HB1.out)
  have HL1 := Sc.mk (hl.bel HB1.out)
  have HFR := Sc.mk h.fresh
  have HZ1 := Sc.mk (heap_alloc_new w (.cells (cellsR r) 51))
  obtain ⟨w1, hw1⟩ : ∃ w1, w.alloc (.cells (cellsR r) 51) = w1 := ⟨_, rfl⟩
  obtain ⟨b1, hb1⟩ : ∃ b, w.heap.size = b := ⟨_, rfl⟩
  rw [hw1] at HB1 HF1 HL1 HZ1
  rw [hb1] at HZ1 HFR
  have HLB := Sc.mk hlb
  obtain ⟨c0, c1, c2, c3, c4, c5, c6, c7, c8, c9⟩ := cells_recs HZ1.out
  obtain ⟨f0, f4⟩ := HF1.out.cells
  have z4 := HF1.out.unfrozen 4
  clear hok hs' h hl hlb
  by_cases h8 : r.kind = 8
  · have b8 : (r.kind == 8) = true := by simp [h8]
    have HC : Sc (ok = (decide (r.prev < lsn) && decide (r.next < lsn)) ∧ s' = { s with t := setIn s.t (r.txn, r.key, r.prev, r.next), m := max s.m r.txn }) := ⟨by rw [← HOK.out.1, ← HOK.out.2]; unfold stepC; rw [if_pos h8]; exact ⟨rfl, rfl⟩⟩
    clear h8
    go_enter Tryd.func49, Tryd.ntmps49
    go_upto_region 3 with fail
    clear hw1 hb1
    have CA : Calls Tryd.prog 68 #[.pointer (some ⟨fb, 1, none⟩), .agg #[.int .i64 r.txn, .int .i64 r.key, .int .i64 r.prev, .int .i64 r.next]] w1.drew fun e w2 => e = .returned (.tuple #[]) ∧ LeftF B fb lb rt rd { s with t := setIn s.t (r.txn, r.key, r.prev, r.next), m := max s.m r.txn } w1 w2 := (finAddT w1.drew (r.txn, r.key, r.prev, r.next) HF1.out.drew ht).mono fun e w' ⟨he, hl⟩ => ⟨he, hl.from_ (Below.refl w1.heap.size w1).drew⟩
    go_region_law (first | (go_simp; go_at_call 68; refine CA.mono ?_; rintro e w2 ⟨rfl, hl⟩; have HLF := Sc.mk hl; clear hl))
    all_goals
      obtain ⟨c0, c1, c2, c3, c4, c5, c6, c7, c8, c9⟩ := cells_recs (box_left HLF.out HZ1.out HFR.out)
      by_cases hp : r.prev < lsn
      · have hp' : decide (r.prev < lsn) = true := decide_eq_true hp
        clear hp
        go_wp2
        go_ret
        exact ⟨by rw [HC.out.1, hp', Bool.true_and]; rfl, by rw [HC.out.2]; exact HLF.out.from_ HB1.out⟩
      · have hp' : decide (r.prev < lsn) = false := decide_eq_false hp
        clear hp
        go_wp2
        go_ret
        exact ⟨by rw [HC.out.1, hp', Bool.false_and]; rfl, by rw [HC.out.2]; exact HLF.out.from_ HB1.out⟩
  · have b8 : (r.kind == 8) = false := by simp [h8]
    by_cases h9 : r.kind = 9
    · have b9 : (r.kind == 9) = true := by simp [h9]
      have HC : Sc (ok = (decide (bs < r.prev) && decide (r.prev < lsn)) ∧ s' = { s with d := add s.d (r.page, r.prev) }) := ⟨by rw [← HOK.out.1, ← HOK.out.2]; unfold stepC; rw [if_neg h8, if_pos h9]; exact ⟨rfl, rfl⟩⟩
      clear h8 h9
      go_enter Tryd.func49, Tryd.ntmps49
      go_upto_region 6 with fail
      clear hw1 hb1
      have CA : Calls Tryd.prog 69 #[.pointer (some ⟨fb, 3, none⟩), .int .i64 r.page, .int .i64 r.prev] w1.drew fun e w2 => e = .returned (.tuple #[]) ∧ LeftF B fb lb rt rd { s with d := add s.d (r.page, r.prev) } w1 w2 := (finAddD w1.drew r.page r.prev HF1.out.drew hd).mono fun e w' ⟨he, hl⟩ => ⟨he, hl.from_ (Below.refl w1.heap.size w1).drew⟩
      go_region_law (first | (go_simp; go_at_call 69; refine CA.mono ?_; rintro e w2 ⟨rfl, hl⟩; have HLF := Sc.mk hl; clear hl))
      all_goals
        have HL2 := Sc.mk (HL1.out.left HLF.out HF1.out HLB.out.1 HLB.out.2)
        obtain ⟨d0, d1, d2, d3, d4, d5, d6, d7, d8, d9⟩ := cells_recs (box_left HLF.out HZ1.out HFR.out)
        obtain ⟨rt2, rd2, hf2, _, _, _⟩ := HLF.out
        obtain ⟨g0, g4⟩ := hf2.cells
        have k3 : ∀ X : From w2, X.world.cell? ⟨b1, 3, none⟩ = some (.int .i64 r.prev) := fun X => X.cell d3
        have k0 : ∀ X : From w2, X.world.cell? ⟨fb, 0, none⟩ = some (.pointer (some ⟨lb, 0, none⟩)) := fun X => X.cell g0
        have CB : ∀ X : From w2, Calls Tryd.prog 25 #[.pointer (some ⟨lb, 0, none⟩)] X.world fun e w' => e = .returned (.int .i64 bs) ∧ w' = X.world := fun X => walBase_any X.world lb row L bs (HL2.out.bel X.below)
        clear hf2 g0 g4 d0 d1 d2 d3 d4 d5 d6 d7 d8 d9 c0 c1 c2 c3 c4 c5 c6 c7 c8 c9 f0 f4 z4
        by_cases hp : bs < r.prev
        · have hp' : decide (bs < r.prev) = true := decide_eq_true hp
          clear hp
          go_wp2_with fail
          refine wp_region_below (by kernel_rfl) (by kernel_rfl) ?_
          repeat (go_big_quiet_step ((go_at_call 25; exact From.call_same _ (CB _))))
          refine wpQuiet_nil ?_
          intro wq hw'
          have HBQ := Sc.mk (From.of_class hw')
          clear hw'
          go_wp2
          go_ret
          exact ⟨by rw [HC.out.1, hp', Bool.true_and]; rfl, by rw [HC.out.2]; exact (HLF.out.bel HBQ.out).from_ HB1.out⟩
        · have hp' : decide (bs < r.prev) = false := decide_eq_false hp
          clear hp
          go_wp2_with fail
          refine wp_region_below (by kernel_rfl) (by kernel_rfl) ?_
          repeat (go_big_quiet_step ((go_at_call 25; exact From.call_same _ (CB _))))
          refine wpQuiet_nil ?_
          intro wq hw'
          have HBQ := Sc.mk (From.of_class hw')
          clear hw'
          go_wp2
          go_ret
          exact ⟨by rw [HC.out.1, hp', Bool.false_and]; rfl, by rw [HC.out.2]; exact (HLF.out.bel HBQ.out).from_ HB1.out⟩
    · have b9 : (r.kind == 9) = false := by simp [h9]
      by_cases h10 : r.kind = 10
      · have b10 : (r.kind == 10) = true := by simp [h10]
        have HC : Sc (ok = true ∧ s' = { s with m := max s.m r.next, ins := false }) := ⟨by rw [← HOK.out.1, ← HOK.out.2]; unfold stepC; rw [if_neg h8, if_neg h9, if_pos h10]; exact ⟨rfl, rfl⟩⟩
        clear h8 h9 h10
        go_enter Tryd.func49, Tryd.ntmps49
        go_upto_region 9 with fail
        clear hw1 hb1
        have CA : Calls Tryd.prog 70 #[.pointer (some ⟨fb, 1, none⟩), .int .i64 r.next] w1.drew fun e w2 => e = .returned (.tuple #[]) ∧ LeftF B fb lb rt rd { s with m := max s.m r.next } w1 w2 := (finSeen w1.drew r.next HF1.out.drew).mono fun e w' ⟨he, hl⟩ => ⟨he, hl.from_ (Below.refl w1.heap.size w1).drew⟩
        go_region_law (first | (go_simp; go_at_call 70; refine CA.mono ?_; rintro e w2 ⟨rfl, hl⟩; have HLF := Sc.mk hl; clear hl))
        all_goals
          obtain ⟨rt2, rd2, hf2, _, _, _⟩ := HLF.out
          obtain ⟨g0, g4⟩ := hf2.cells
          have y4 := hf2.unfrozen 4
          have lf := hf2.lt
          clear hf2 c0 c1 c2 c3 c4 c5 c6 c7 c8 c9 f0 f4 z4
          go_wp2
          go_ret
          exact ⟨by rw [HC.out.1]; rfl, by rw [HC.out.2]; exact (HLF.out.setIns false).from_ HB1.out⟩
      · have b10 : (r.kind == 10) = false := by simp [h10]
        have HC : Sc (ok = false ∧ s' = s) := ⟨by rw [← HOK.out.1, ← HOK.out.2]; unfold stepC; rw [if_neg h8, if_neg h9, if_neg h10]; exact ⟨rfl, rfl⟩⟩
        clear h8 h9 h10
        go_enter Tryd.func49, Tryd.ntmps49
        go_wp2
        go_ret
        exact ⟨by rw [HC.out.1]; rfl, by rw [HC.out.2]; exact LeftF.same HF0.out HB1.out⟩
end
section
open Go.RowKit

abbrev zeroT : Array Value := #[.int .i64 0, .int .i64 0, .int .i64 0, .int .i64 0]
theorem set_txn {w : World} {b : Nat} {t : TypeId} {x : TX} (h : w.heap[b]? = some (.cells zeroT t (0, 0))) :
    ((((w.setCell ⟨b, 0, none⟩ (.int .i64 x.1)).setCell ⟨b, 1, none⟩ (.int .i64 x.2.1)).setCell ⟨b, 2, none⟩ (.int .i64 x.2.2.1)).setCell ⟨b, 3, none⟩ (.int .i64 x.2.2.2)).heap[b]? = some (.cells (enc4 x).toArray t (0, 0)) := by
  rw [set_one (set_one (set_one (set_one h 0 _) 1 _) 2 _) 3 _]; rfl
theorem below_st4 {w0 w : World} {b : Nat} {u0 u1 u2 u3 : Value} (h : Below w0.heap.size w0 w) (hb : w0.heap.size ≤ b) : Below w0.heap.size w0 ((((w.setCell ⟨b, 0, none⟩ u0).setCell ⟨b, 1, none⟩ u1).setCell ⟨b, 2, none⟩ u2).setCell ⟨b, 3, none⟩ u3) :=
  (((h.setCell hb _).setCell hb _).setCell hb _).setCell hb _
theorem cells_txn {w1 : World} {b : Nat} {x : TX} {t : TypeId} (h : w1.heap[b]? = some (.cells (enc4 x).toArray t (0, 0))) :
    w1.cell? ⟨b, 0, none⟩ = some (.int .i64 x.1) ∧ w1.cell? ⟨b, 1, none⟩ = some (.int .i64 x.2.1) ∧ w1.cell? ⟨b, 2, none⟩ = some (.int .i64 x.2.2.1) ∧ w1.cell? ⟨b, 3, none⟩ = some (.int .i64 x.2.2.2) := by simp [World.cell?, h]
theorem FinP.kp {B fb lb : Nat} {w w' : World} {rt rd : Option Nat} {s : An} {S : Nat → Prop} (h : FinP B w fb lb rt rd s) (k : Kp S w w') (h1 : ¬ S fb) (h2 : ∀ q, rt = some q → ¬ S q) (h3 : ∀ q, rd = some q → ¬ S q) : FinP B w' fb lb rt rd s := by
  obtain ⟨⟨vt, vd, e1, e2, hc, e3, e4⟩, a, b, c, d, e, f, g, i⟩ := h
  exact ⟨⟨vt, vd, e1, e2, k.at hc h1, e3.kp k (fun q hq => h2 q (by rw [← e1]; exact hq)), e4.kp k (fun q hq => h3 q (by rw [← e2]; exact hq))⟩, a, b, c, d, e, f, g, i⟩
theorem LeftF.keep {B fb lb b : Nat} {w w' : World} {rt rd : Option Nat} {s' : An} (h : LeftF B fb lb rt rd s' w w') (hb : b < w.heap.size) (hn : b ≠ fb ∧ rt ≠ some b ∧ rd ≠ some b) :
    ∃ rt' rd', FinP B w' fb lb rt' rd' s' ∧ Kp (fun q => q = fb ∨ some q = rt ∨ some q = rd) w w' ∧ (rt' = rt ∨ ∃ q, rt' = some q ∧ w.heap.size ≤ q) ∧ (rd' = rd ∨ ∃ q, rd' = some q ∧ w.heap.size ≤ q) ∧ b ≠ fb ∧ rt' ≠ some b ∧ rd' ≠ some b := by
  obtain ⟨rt', rd', hf, hk, ht, hd⟩ := h
  refine ⟨rt', rd', hf, hk, ht, hd, hn.1, fun he => ?_, fun he => ?_⟩
  · rcases ht with h | ⟨q, h, hq⟩
    · exact hn.2.1 (h.symm.trans he)
    · rw [h] at he; injection he with he; omega
  · rcases hd with h | ⟨q, h, hq⟩
    · exact hn.2.2 (h.symm.trans he)
    · rw [h] at he; injection he with he; omega
variable {B fb lb : Nat} {rt rd : Option Nat} {s : An}
set_option maxRecDepth 4000 in
set_option maxHeartbeats 4000000 in
theorem finGoes (w : World) (lsn : Int) (r : RecD) (h : FinP B w fb lb rt rd s) (ht : s.t.length ≤ 1000000) (hd : s.d.length ≤ 1000000) :
    Calls Tryd.prog 50 #[.pointer (some ⟨fb, 0, none⟩), .int .i64 lsn, aggR r] w fun e w' => e = .returned (.bool (stepG lsn r s).1) ∧ LeftF B fb lb rt rd (stepG lsn r s).2 w w' := by
  obtain ⟨ok, hok⟩ : ∃ ok, (stepG lsn r s).1 = ok := ⟨_, rfl⟩
  obtain ⟨s', hs'⟩ : ∃ s', (stepG lsn r s).2 = s' := ⟨_, rfl⟩
  rw [hok, hs']
  have HOK := Sc.mk (And.intro hok hs')
  have HB1 : Sc (Below w.heap.size w (w.alloc (.cells (cellsR r) 51))) := ⟨dn_alloc (Below.refl _ _) _⟩
  have HF0 := Sc.mk h
  have HF1 := Sc.mk (h.bel HB1.out)
  have HFR := Sc.mk h.fresh
  have HZ1 := Sc.mk (heap_alloc_new w (.cells (cellsR r) 51))
  obtain ⟨w1, hw1⟩ : ∃ w1, w.alloc (.cells (cellsR r) 51) = w1 := ⟨_, rfl⟩
  obtain ⟨b1, hb1⟩ : ∃ b, w.heap.size = b := ⟨_, rfl⟩
  rw [hw1] at HB1 HF1 HZ1
  rw [hb1] at HZ1 HFR
  obtain ⟨c0, c1, c2, c3, c4, c5, c6, c7, c8, c9⟩ := cells_recs HZ1.out
  have lz := heap_lt HZ1.out
  obtain ⟨x, hx⟩ : ∃ x, got s.t r.txn = x := ⟨_, rfl⟩
  obtain ⟨hs, hhs⟩ : ∃ hs, has s.t r.txn = hs := ⟨_, rfl⟩
  have HX := Sc.mk (And.intro hx hhs)
  clear hok hs' h hx hhs
  go_enter Tryd.func50, Tryd.ntmps50
  go_upto_region 1 with fail
  clear hw1 hb1
  go_cut [7, 8] from 10 to 18 (fun s7 s8 wx => ∃ b7, s7 = .pointer (some ⟨b7, 0, none⟩) ∧ s8 = .bool hs ∧ w1.heap.size ≤ b7 ∧ Sc (wx.heap[b7]? = some (.cells (enc4 x).toArray 56 (0, 0))) ∧ Sc (Below w1.heap.size w1 wx))
  case first =>
    go_region_law (first | (go_simp; go_at_call 71; refine (finGet _ r.txn (by first | with_reducible exact HF1.out.drew | exact (HF1.out.bel (dn_alloc (Below.refl _ _) _)).drew | exact (HF1.out.drew.bel (dn_alloc (Below.refl _ _) _))) ht).mono ?_; rw [HX.out.1, HX.out.2]; rintro e w2 ⟨rfl, hb⟩; have HB2 : Sc (Below w1.heap.size w1 w2) := ⟨by first | exact (Below.refl w1.heap.size w1).drew.trans hb | exact ((Below.refl w1.heap.size w1).alloc (Nat.le_refl _) _).drew.trans (hb.mono (by simp)) | exact ((Below.refl w1.heap.size w1).drew.alloc (Nat.le_refl _) _).trans (hb.mono (by simp))⟩; (first | (have hz : w2.heap[w1.heap.size]? = some (.cells zeroT 56 (0, 0)) := (hb.block _ (by simp)).trans (heap_alloc_new w1 (.cells zeroT 56)); obtain ⟨q0, q1, q2, q3⟩ := cells_txn (x := (0, 0, 0, 0)) hz; have y0 := unfrozen_at hz 0; have y1 := unfrozen_at hz 1; have y2 := unfrozen_at hz 2; have y3 := unfrozen_at hz 3; have HZ2 := Sc.mk hz; clear hz) | skip); clear hb))
    all_goals
      go_wp2_with fail
      go_meet
      case rel => first
        | exact ⟨_, rfl, rfl, HB2.out.size, ⟨heap_alloc_new w2 _⟩, ⟨dn_alloc HB2.out _⟩⟩
        | exact ⟨_, rfl, rfl, Nat.le_refl _, ⟨set_txn HZ2.out⟩, ⟨below_st4 HB2.out (Nat.le_refl _)⟩⟩
  case rest =>
    obtain ⟨b7, rfl, rfl, hb7, HX7, HB7⟩ := hcut
    have HFC := Sc.mk (HF1.out.bel HB7.out)
    have HZC := Sc.mk (up HB7.out HZ1.out)
    have HBC : Sc (Below w.heap.size w wc) := ⟨below_down HB1.out HB7.out⟩
    have HR7 : Sc (b7 ≠ fb ∧ rt ≠ some b7 ∧ rd ≠ some b7) := ⟨by have := HF1.out.lt; omega, fun he => by have := HF1.out.rowlt.1 _ he; omega, fun he => by have := HF1.out.rowlt.2 _ he; omega⟩
    have hne : b1 ≠ b7 := by omega
    clear c0 c1 c2 c3 c4 c5 c6 c7 c8 c9 lz
    obtain ⟨c0, c1, c2, c3, c4, c5, c6, c7, c8, c9⟩ := cells_recs HZC.out
    obtain ⟨x0, x1, x2, x3⟩ := cells_txn HX7.out
    by_cases h1 : r.kind = 1
    · have e1 : (r.kind == 1) = true := by simp [h1]
      have HC : Sc (ok = !hs ∧ s' = { s with t := setIn s.t (r.txn, 0, lsn, 0), m := max s.m r.txn }) := ⟨by rw [← HOK.out.1, ← HOK.out.2]; unfold stepG; rw [if_pos h1, HX.out.2]; exact ⟨rfl, rfl⟩⟩
      clear h1
      go_wp2_with fail
      have CA : Calls Tryd.prog 68 #[.pointer (some ⟨fb, 1, none⟩), .agg #[.int .i64 r.txn, .int .i64 0, .int .i64 lsn, .int .i64 0]] wc.drew fun e w2 => e = .returned (.tuple #[]) ∧ LeftF B fb lb rt rd { s with t := setIn s.t (r.txn, 0, lsn, 0), m := max s.m r.txn } wc w2 := (finAddT wc.drew (r.txn, 0, lsn, 0) HFC.out.drew ht).mono fun e w' ⟨he, hl⟩ => ⟨he, hl.from_ (Below.refl wc.heap.size wc).drew⟩
      go_region_law (first | (go_simp; go_at_call 68; refine CA.mono ?_; rintro e w2 ⟨rfl, hl⟩; have HLF := Sc.mk hl; clear hl))
      all_goals
        clear CA
        go_wp2
        go_ret
        exact ⟨by rw [HC.out.1]; rfl, by rw [HC.out.2]; exact HLF.out.from_ HBC.out⟩
    · have e1 : (r.kind == 1) = false := beq_no h1
      cases hs with
      | false =>
        have HC : Sc (ok = false ∧ s' = s) := ⟨by rw [← HOK.out.1, ← HOK.out.2]; unfold stepG; rw [if_neg h1, if_pos (.inl HX.out.2)]; exact ⟨rfl, rfl⟩⟩
        clear h1
        go_wp2
        go_ret
        exact ⟨by rw [HC.out.1]; rfl, by rw [HC.out.2]; exact LeftF.same HF0.out HBC.out⟩
      | true =>
        by_cases hpv : r.prev = x.2.2.1
        · have epv : (r.prev == x.2.2.1) = true := by simp [hpv]
          have hno : ¬ (has s.t r.txn = false ∨ r.prev ≠ (got s.t r.txn).2.2.1) := by rw [HX.out.1, HX.out.2]; simp [hpv]
          by_cases h6 : r.kind = 6
          · have HC : Sc (ok = true ∧ s' = { s with t := drop' s.t r.txn }) := ⟨by rw [← HOK.out.1, ← HOK.out.2]; unfold stepG; rw [if_neg h1, if_neg hno, if_pos h6]; exact ⟨rfl, rfl⟩⟩
            have y2 := unfrozen_at HX7.out 2
            have l7 := heap_lt HX7.out
            have e2 : (r.kind == 2) = false := beq_no (by omega)
            have e3 : (r.kind == 3) = false := beq_no (by omega)
            have e4 : (r.kind == 4) = false := beq_no (by omega)
            have e5 : (r.kind == 5) = false := beq_no (by omega)
            have e6 : (r.kind == 6) = true := by simp [h6]
            have hne7 : ¬ b7 = fb := HR7.out.1
            have HKD : Sc (Kp (fun q => q = b7) wc (wc.setCell ⟨b7, 2, none⟩ (.int .i64 lsn))) := ⟨Kp.setCell wc ⟨b7, 2, none⟩ _⟩
            have HFD := Sc.mk (HFC.out.kp HKD.out (fun h => HR7.out.1 h.symm) (fun q hq h => HR7.out.2.1 (by rw [hq, h])) (fun q hq h => HR7.out.2.2 (by rw [hq, h])))
            have HBD : Sc (Below w.heap.size w (wc.setCell ⟨b7, 2, none⟩ (.int .i64 lsn))) := ⟨HBC.out.setCell (by have := HB1.out.size; show w.heap.size ≤ b7; omega) _⟩
            clear h1 h6 hpv hno
            go_wp2_with fail
            obtain ⟨wd, hwd⟩ : ∃ wd, wc.setCell ⟨b7, 2, none⟩ (.int .i64 lsn) = wd := ⟨_, rfl⟩
            rw [hwd] at HKD HFD HBD ⊢
            clear hwd c0 c1 c2 c3 c4 c5 c6 c7 c8 c9 x0 x1 x2 x3 y2
            obtain ⟨c0, c1, c2, c3, c4, c5, c6, c7, c8, c9⟩ := cells_recs (HKD.out.at HZC.out hne)
            have CA : Calls Tryd.prog 72 #[.pointer (some ⟨fb, 1, none⟩), .int .i64 r.txn] wd.drew fun e w2 => e = .returned (.bool (has s.t r.txn)) ∧ LeftF B fb lb rt rd { s with t := drop' s.t r.txn } wd w2 := (finDrop wd.drew r.txn HFD.out.drew ht).mono fun e w' ⟨he, hl⟩ => ⟨he, hl.from_ (Below.refl wd.heap.size wd).drew⟩
            go_region_law (first | (go_simp; go_at_call 72; refine CA.mono ?_; rintro e w2 ⟨rfl, hl⟩; have HLF := Sc.mk hl; clear hl))
            all_goals
              clear CA
              go_wp2
              go_ret
              exact ⟨by rw [HC.out.1]; rfl, by rw [HC.out.2]; exact HLF.out.from_ HBD.out⟩
          · have HC : Sc (ok = (if r.kind = 3 then decide (x.2.1 ≠ 1) && decide (r.next < lsn) else decide (x.2.1 = 0)) ∧ s' = { s with t := setIn s.t (noteG lsn r x), m := max s.m x.1, d := if r.kind = 2 ∨ r.kind = 3 then add s.d (r.page, lsn) else s.d }) := ⟨by rw [← HOK.out.1, ← HOK.out.2]; unfold stepG; rw [if_neg h1, if_neg hno, if_neg h6, HX.out.1]; exact ⟨rfl, rfl⟩⟩
            have y1 := unfrozen_at HX7.out 1
            have y2 := unfrozen_at HX7.out 2
            have y3 := unfrozen_at HX7.out 3
            have l7 := heap_lt HX7.out
            have e6 : (r.kind == 6) = false := beq_no h6
            have hne7 : ¬ b7 = fb := HR7.out.1
            have hne' : ¬ b7 = b1 := fun h => hne h.symm
            clear h1 h6 hpv hno
            go_upto_block 0 with fail
            go_cut [] from 45 to 69 (fun wx => Sc (wx.heap[b7]? = some (.cells (enc4 (noteG lsn r x)).toArray 56 (0, 0))) ∧ Sc (Kp (fun q => q = b7) wc wx))
            case first =>
              by_cases h2 : r.kind = 2
              · have e2 : (r.kind == 2) = true := by simp [h2]
                have HN : Sc (noteG lsn r x = (x.1, x.2.1, lsn, lsn)) := ⟨by simp [noteG, h2]⟩
                clear h2
                go_wp2_with fail
                go_meet
                case rel => exact ⟨⟨by rw [HN.out, set_one (set_one HX7.out 2 _) 3 _]; rfl⟩, ⟨(Kp.setCell wc ⟨b7, 2, none⟩ _).trans (Kp.setCell _ ⟨b7, 3, none⟩ _) (fun _ h => .inl h)⟩⟩
              · have e2 : (r.kind == 2) = false := beq_no h2
                by_cases h3 : r.kind = 3
                · have e3 : (r.kind == 3) = true := by simp [h3]
                  have HN : Sc (noteG lsn r x = (x.1, x.2.1, lsn, r.next)) := ⟨by simp [noteG, h3]⟩
                  clear h2 h3
                  go_wp2_with fail
                  go_meet
                  case rel => exact ⟨⟨by rw [HN.out, set_one (set_one HX7.out 2 _) 3 _]; rfl⟩, ⟨(Kp.setCell wc ⟨b7, 2, none⟩ _).trans (Kp.setCell _ ⟨b7, 3, none⟩ _) (fun _ h => .inl h)⟩⟩
                · have e3 : (r.kind == 3) = false := beq_no h3
                  by_cases h4 : r.kind = 4
                  · have e4 : (r.kind == 4) = true := by simp [h4]
                    have HN : Sc (noteG lsn r x = (x.1, 1, lsn, x.2.2.2)) := ⟨by simp [noteG, h4]⟩
                    clear h2 h3 h4
                    go_wp2_with fail
                    go_meet
                    case rel => exact ⟨⟨by rw [HN.out, set_one (set_one HX7.out 2 _) 1 _]; rfl⟩, ⟨(Kp.setCell wc ⟨b7, 2, none⟩ _).trans (Kp.setCell _ ⟨b7, 1, none⟩ _) (fun _ h => .inl h)⟩⟩
                  · have e4 : (r.kind == 4) = false := beq_no h4
                    by_cases h5 : r.kind = 5
                    · have e5 : (r.kind == 5) = true := by simp [h5]
                      have HN : Sc (noteG lsn r x = (x.1, 2, lsn, x.2.2.2)) := ⟨by simp [noteG, h5]⟩
                      clear h2 h3 h4 h5
                      go_wp2_with fail
                      go_meet
                      case rel => exact ⟨⟨by rw [HN.out, set_one (set_one HX7.out 2 _) 1 _]; rfl⟩, ⟨(Kp.setCell wc ⟨b7, 2, none⟩ _).trans (Kp.setCell _ ⟨b7, 1, none⟩ _) (fun _ h => .inl h)⟩⟩
                    · have e5 : (r.kind == 5) = false := beq_no h5
                      have HN : Sc (noteG lsn r x = (x.1, x.2.1, lsn, x.2.2.2)) := ⟨by simp [noteG, h2, h3, h4, h5]⟩
                      clear h2 h3 h4 h5
                      go_wp2_with fail
                      go_meet
                      case rel => exact ⟨⟨by rw [HN.out, set_one HX7.out 2 _]; rfl⟩, ⟨Kp.setCell wc ⟨b7, 2, none⟩ _⟩⟩
            case rest =>
              obtain ⟨HX8, HK8⟩ := hcut
              have HF8 := Sc.mk (HFC.out.kp HK8.out (fun h => HR7.out.1 h.symm) (fun q hq h => HR7.out.2.1 (by rw [hq, h])) (fun q hq h => HR7.out.2.2 (by rw [hq, h])))
              have HB8 : Sc (Below w.heap.size w wc) := ⟨HBC.out.trans (HK8.out.below (by have := HB1.out.size; omega) (fun q hq => by rw [hq]; have := HB1.out.size; omega))⟩
              have HZ8 := Sc.mk (HK8.out.at HZC.out hne)
              obtain ⟨x0, x1, x2, x3⟩ := cells_txn HX8.out
              obtain ⟨y, hy⟩ : ∃ y, noteG lsn r x = y := ⟨_, rfl⟩
              have HY : Sc (y.1 = x.1) := ⟨by rw [← hy]; rfl⟩
              rw [hy] at HX8 HC x0 x1 x2 x3
              clear hy
              have CA : Calls Tryd.prog 68 #[.pointer (some ⟨fb, 1, none⟩), aggT y] wc.drew fun e w2 => e = .returned (.tuple #[]) ∧ LeftF B fb lb rt rd { s with t := setIn s.t y, m := max s.m x.1 } wc w2 := (finAddT wc.drew y HF8.out.drew ht).mono fun e w' ⟨he, hl⟩ => ⟨he, by rw [← HY.out]; exact hl.from_ (Below.refl wc.heap.size wc).drew⟩
              clear c0 c1 c2 c3 c4 c5 c6 c7 c8 c9
              go_wp2_with fail
              go_region_law (first | (go_simp; go_at_call 68; refine CA.mono ?_; rintro e w2 ⟨rfl, hl⟩; have HLF := Sc.mk hl; clear hl))
              all_goals
                clear CA
                obtain ⟨rt2, rd2, hf2, hk2, ht2, hd2, hn2⟩ := HLF.out.keep (heap_lt HZ8.out) HFR.out
                have HZ9 := Sc.mk (box_left HLF.out HZ8.out HFR.out)
                obtain ⟨c0, c1, c2, c3, c4, c5, c6, c7, c8, c9⟩ := cells_recs HZ9.out
                have HK2 := Sc.mk (And.intro hk2 (And.intro ht2 hd2))
                have HN2 := Sc.mk hn2
                have CD : Calls Tryd.prog 69 #[.pointer (some ⟨fb, 3, none⟩), .int .i64 r.page, .int .i64 lsn] w2.drew fun e w3 => e = .returned (.tuple #[]) ∧ LeftF B fb lb rt2 rd2 { s with t := setIn s.t y, m := max s.m x.1, d := add s.d (r.page, lsn) } w2 w3 := (finAddD w2.drew r.page lsn hf2.drew hd).mono fun e w' ⟨he, hl⟩ => ⟨he, hl.from_ (Below.refl w2.heap.size w2).drew⟩
                clear hf2 hk2 ht2 hd2 hn2
                by_cases h2 : r.kind = 2
                · have e2 : (r.kind == 2) = true := by simp [h2]
                  have e3 : (r.kind == 3) = false := beq_no (by omega)
                  have HD : Sc (ok = (x.2.1 == 0) ∧ s' = { s with t := setIn s.t y, m := max s.m x.1, d := add s.d (r.page, lsn) }) := ⟨by rw [HC.out.1, if_neg (by omega), beq_dec], by rw [HC.out.2, if_pos (.inl h2)]⟩
                  clear h2
                  go_wp2_with fail
                  go_region_law (first | (go_simp; go_at_call 69; refine CD.mono ?_; rintro e w3 ⟨rfl, hl⟩; have HLG := Sc.mk hl; clear hl))
                  all_goals
                    obtain ⟨c0, c1, c2, c3, c4, c5, c6, c7, c8, c9⟩ := cells_recs (box_left HLG.out HZ9.out HN2.out)
                    clear CD
                    go_wp2
                    go_ret
                    exact ⟨by rw [HD.out.1]; rfl, by rw [HD.out.2]; exact (LeftF.trans HK2.out.1 HK2.out.2.1 HK2.out.2.2 HLG.out).from_ HB8.out⟩
                · have e2 : (r.kind == 2) = false := beq_no h2
                  by_cases h3 : r.kind = 3
                  · have e3 : (r.kind == 3) = true := by simp [h3]
                    have HD : Sc (ok = (decide (x.2.1 ≠ 1) && decide (r.next < lsn)) ∧ s' = { s with t := setIn s.t y, m := max s.m x.1, d := add s.d (r.page, lsn) }) := ⟨by rw [HC.out.1, if_pos h3], by rw [HC.out.2, if_pos (.inr h3)]⟩
                    clear h2 h3
                    go_wp2_with fail
                    go_region_law (first | (go_simp; go_at_call 69; refine CD.mono ?_; rintro e w3 ⟨rfl, hl⟩; have HLG := Sc.mk hl; clear hl))
                    all_goals
                      obtain ⟨c0, c1, c2, c3, c4, c5, c6, c7, c8, c9⟩ := cells_recs (box_left HLG.out HZ9.out HN2.out)
                      clear CD
                      go_wp2
                      all_goals
                        rename_i hw
                        go_ret
                        refine ⟨?_, by rw [HD.out.2]; exact (LeftF.trans HK2.out.1 HK2.out.2.1 HK2.out.2.2 HLG.out).from_ HB8.out⟩
                        first
                          | (have HW : ok = (x.2.1 != 1 && decide (r.next < lsn)) := (by rw [HD.out.1]; by_cases hq : x.2.1 = 1 <;> simp [hq]); rw [HW]; rfl)
                          | (have HW : ok = false := (by rw [HD.out.1]; simp [hw]); rw [HW]; rfl)
                          | (have HW : ok = decide (r.next < lsn) := (by rw [HD.out.1]; simp [hw]); rw [HW]; rfl)
                  · have e3 : (r.kind == 3) = false := beq_no h3
                    have HD : Sc (ok = (x.2.1 == 0) ∧ s' = { s with t := setIn s.t y, m := max s.m x.1 }) := ⟨by rw [HC.out.1, if_neg h3, beq_dec], by rw [HC.out.2, if_neg (by omega)]⟩
                    clear h2 h3 CD
                    go_wp2
                    go_ret
                    exact ⟨by rw [HD.out.1]; rfl, by rw [HD.out.2]; exact HLF.out.from_ HB8.out⟩
        · have epv : (r.prev == x.2.2.1) = false := beq_no hpv
          have HC : Sc (ok = false ∧ s' = s) := ⟨by rw [← HOK.out.1, ← HOK.out.2]; unfold stepG; rw [if_neg h1, if_pos (.inr (by rw [HX.out.1]; exact hpv))]; exact ⟨rfl, rfl⟩⟩
          clear h1 hpv
          go_wp2
          go_ret
          exact ⟨by rw [HC.out.1]; rfl, by rw [HC.out.2]; exact LeftF.same HF0.out HBC.out⟩
end
section
open Go.RowKit

variable {B fb lb : Nat} {rt rd row : Option Nat} {s : An} {L : List RecD} {bs : Int}
set_option maxRecDepth 4000 in
set_option maxHeartbeats 2000000 in
theorem finOne (w : World) (lsn : Int) (r : RecD) (h : FinP B w fb lb rt rd s) (hl : LogP w lb row L bs) (hlb : lb < B ∧ ∀ q, row = some q → q < B) (ht : s.t.length ≤ 1000000) (hd : s.d.length ≤ 1000000) :
    Calls Tryd.prog 29 #[.pointer (some ⟨fb, 0, none⟩), .int .i64 lsn, aggR r] w fun e w' => e = .returned (.bool (stepO bs lsn r s).1) ∧ LeftF B fb lb rt rd (stepO bs lsn r s).2 w w' := by
  obtain ⟨ok, hok⟩ : ∃ ok, (stepO bs lsn r s).1 = ok := ⟨_, rfl⟩
  obtain ⟨s', hs'⟩ : ∃ s', (stepO bs lsn r s).2 = s' := ⟨_, rfl⟩
  rw [hok, hs']
  have HOK := Sc.mk (And.intro hok hs')
  have HB1 : Sc (Below w.heap.size w (w.alloc (.cells (cellsR r) 51))) := ⟨dn_alloc (Below.refl _ _) _⟩
  have HF1 := Sc.mk (h.bel HB1.out)
  have HL1 := Sc.mk (hl.bel HB1.out)
  have HZ1 := Sc.mk (heap_alloc_new w (.cells (cellsR r) 51))
  obtain ⟨w1, hw1⟩ : ∃ w1, w.alloc (.cells (cellsR r) 51) = w1 := ⟨_, rfl⟩
  obtain ⟨b1, hb1⟩ : ∃ b, w.heap.size = b := ⟨_, rfl⟩
  rw [hw1] at HB1 HF1 HL1 HZ1
  rw [hb1] at HZ1
  have HLB := Sc.mk hlb
  obtain ⟨c0, c1, c2, c3, c4, c5, c6, c7, c8, c9⟩ := cells_recs HZ1.out
  obtain ⟨f0, f4⟩ := HF1.out.cells
  clear hok hs' h hl hlb
  cases hi : s.ins with
  | true =>
    rw [hi] at f4
    have HS : Sc (stepO bs lsn r s = stepC bs lsn r s) := ⟨by unfold stepO; rw [if_pos hi]⟩
    clear hi
    go_enter Tryd.func29, Tryd.ntmps29
    go_wp2_with fail
    clear hw1 hb1
    refine (finCheck w1 lsn r HF1.out HL1.out HLB.out ht hd).mono ?_
    rw [← HS.out, HOK.out.1, HOK.out.2]
    rintro e w2 ⟨rfl, hl⟩
    have HLF := Sc.mk hl
    clear hl c0 c1 c2 c3 c4 c5 c6 c7 c8 c9 f0 f4
    go_wp2
    go_ret
    exact ⟨rfl, HLF.out.from_ HB1.out⟩
  | false =>
    rw [hi] at f4
    by_cases h7 : 7 ≤ r.kind
    · have d7 : decide (7 ≤ r.kind) = true := decide_eq_true h7
      have HS : Sc (stepO bs lsn r s = (true, s)) := ⟨by unfold stepO; rw [if_neg (by rw [hi]; exact Bool.false_ne_true), if_pos h7]⟩
      have HE : Sc (ok = true ∧ s' = s) := ⟨by rw [← HOK.out.1, ← HOK.out.2, HS.out]; exact ⟨rfl, rfl⟩⟩
      clear hi
      go_enter Tryd.func29, Tryd.ntmps29
      go_wp2
      go_ret
      exact ⟨by rw [HE.out.1]; rfl, by rw [HE.out.2]; exact (LeftF.refl HF1.out).from_ HB1.out⟩
    · have d7 : decide (7 ≤ r.kind) = false := decide_eq_false h7
      have HS : Sc (stepO bs lsn r s = stepG lsn r s) := ⟨by unfold stepO; rw [if_neg (by rw [hi]; exact Bool.false_ne_true), if_neg h7]⟩
      clear hi
      go_enter Tryd.func29, Tryd.ntmps29
      go_wp2_with fail
      clear hw1 hb1
      refine (finGoes w1 lsn r HF1.out ht hd).mono ?_
      rw [← HS.out, HOK.out.1, HOK.out.2]
      rintro e w2 ⟨rfl, hl⟩
      have HLF := Sc.mk hl
      clear hl c0 c1 c2 c3 c4 c5 c6 c7 c8 c9 f0 f4
      go_wp2
      go_ret
      exact ⟨rfl, HLF.out.from_ HB1.out⟩

theorem stepO_len (lsn : Int) (r : RecD) (s : An) : (stepO bs lsn r s).2.t.length ≤ s.t.length + 1 ∧ (stepO bs lsn r s).2.d.length ≤ s.d.length + 1 := by
  unfold stepO
  split
  · unfold stepC
    split
    · exact ⟨setIn_length _ _, Nat.le_succ _⟩
    split
    · exact ⟨Nat.le_succ _, add_length _ _⟩
    split <;> exact ⟨Nat.le_succ _, Nat.le_succ _⟩
  split
  · exact ⟨Nat.le_succ _, Nat.le_succ _⟩
  unfold stepG
  split
  · exact ⟨setIn_length _ _, Nat.le_succ _⟩
  split
  · exact ⟨Nat.le_succ _, Nat.le_succ _⟩
  split
  · exact ⟨Nat.le_succ_of_le (drop'_length _ _), Nat.le_succ _⟩
  refine ⟨setIn_length _ _, ?_⟩
  show (if r.kind = 2 ∨ r.kind = 3 then add s.d (r.page, lsn) else s.d).length ≤ _
  split
  · exact add_length _ _
  · exact Nat.le_succ _
/-- A step of the run. -/
theorem runA_next {b lsn : Int} {i : Nat} {r : RecD} {s : An} (hr : L[i]? = some r) (h : (stepO b lsn r s).1 = true) : runA b lsn (L.drop i) s = runA b (lsn + 1) (L.drop (i + 1)) (stepO b lsn r s).2 := by
  rw [List.drop_eq_getElem_cons (List.getElem?_eq_some_iff.mp hr).1, (List.getElem?_eq_some_iff.mp hr).2, runA, if_pos h]
theorem runA_stop {b lsn : Int} {i : Nat} {r : RecD} {s : An} (hr : L[i]? = some r) (h : (stepO b lsn r s).1 = false) : (runA b lsn (L.drop i) s).1 = some lsn := by
  rw [List.drop_eq_getElem_cons (List.getElem?_eq_some_iff.mp hr).1, (List.getElem?_eq_some_iff.mp hr).2, runA, if_neg (by rw [h]; exact Bool.false_ne_true)]
theorem runA_end {b lsn : Int} {s : An} : runA b lsn (L.drop L.length) s = (none, s) := by rw [List.drop_length, runA]
theorem badPage_next {pages lsn : Int} {i : Nat} {r : RecD} (hr : L[i]? = some r) (h : ¬ ((r.kind = 2 ∨ r.kind = 3 ∨ r.kind = 9) ∧ pages < r.page)) : badPage pages lsn (L.drop i) = badPage pages (lsn + 1) (L.drop (i + 1)) := by
  rw [List.drop_eq_getElem_cons (List.getElem?_eq_some_iff.mp hr).1, (List.getElem?_eq_some_iff.mp hr).2, badPage, if_neg h]
theorem badPage_stop {pages lsn : Int} {i : Nat} {r : RecD} (hr : L[i]? = some r) (h : (r.kind = 2 ∨ r.kind = 3 ∨ r.kind = 9) ∧ pages < r.page) : badPage pages lsn (L.drop i) = some lsn := by
  rw [List.drop_eq_getElem_cons (List.getElem?_eq_some_iff.mp hr).1, (List.getElem?_eq_some_iff.mp hr).2, badPage, if_pos h]
theorem badPage_end {pages lsn : Int} : badPage pages lsn (L.drop L.length) = none := by rw [List.drop_length, badPage]
end
end Go.Proofs.YtoapihepdallbaaDoor
