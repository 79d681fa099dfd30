/- Words for rows that a call owns: lists of elements of several cells, what is kept of the world; no program. -/
import Derived.WalkKit
import Derived.WalkSpells
import Derived.WalkLawsBesides
import Derived.Deep.LoopGhost
import Derived.BigQuiet
import Derived.Deep.QuietTactic
import Derived.Maps.AppendAt
namespace Go.Proofs.YtoapihepdallbaaDoor
open Go.RowKit

/-- A fact that the walk does not look into. -/
structure Sc (p : Prop) : Prop where mk :: (out : p)

/-- The cells of a row of elements. -/
def flat {α : Type} (enc : α → List Value) (l : List α) : List Value := l.flatMap enc

/-- An element is so many cells, each the value of one cell. -/
structure Kind {α : Type} (enc : α → List Value) (sz : Nat) : Prop where
  len : ∀ x, (enc x).length = sz
  one : ∀ x u, u ∈ enc x → u.oneCell' = true
  pos : 0 < sz

section
variable {α : Type} {enc : α → List Value} {sz : Nat}

theorem flat_nil : flat enc [] = [] := rfl
theorem flat_cons (x : α) (l : List α) : flat enc (x :: l) = enc x ++ flat enc l := by simp [flat]
theorem flat_append (a b : List α) : flat enc (a ++ b) = flat enc a ++ flat enc b := by simp [flat]
theorem flat_single (x : α) : flat enc [x] = enc x := by simp [flat]
theorem Kind.flat_length (K : Kind enc sz) (l : List α) : (flat enc l).length = l.length * sz := by
  induction l with
  | nil => simp [flat]
  | cons x l ih => rw [flat_cons, List.length_append, K.len, ih, List.length_cons, Nat.add_mul, Nat.one_mul, Nat.add_comm]
theorem Kind.flat_one (K : Kind enc sz) (l : List α) : ∀ u ∈ flat enc l, u.oneCell' = true := by
  intro u hu
  simp only [flat, List.mem_flatMap] at hu
  obtain ⟨x, _, hx⟩ := hu
  exact K.one x u hx
theorem Kind.flat_take (K : Kind enc sz) (l : List α) (k : Nat) : (flat enc l).take (k * sz) = flat enc (l.take k) := by
  induction l generalizing k with
  | nil => simp [flat]
  | cons x l ih =>
    cases k with
    | zero => simp [flat]
    | succ k =>
      rw [List.take_succ_cons, flat_cons, flat_cons, ← ih k, Nat.add_mul, Nat.one_mul, Nat.add_comm, ← K.len x, List.take_length_add_append]
theorem Kind.flat_drop (K : Kind enc sz) (l : List α) (k : Nat) : (flat enc l).drop (k * sz) = flat enc (l.drop k) := by
  induction l generalizing k with
  | nil => simp [flat]
  | cons x l ih =>
    cases k with
    | zero => simp [flat]
    | succ k =>
      rw [List.drop_succ_cons, flat_cons, ← ih k, Nat.add_mul, Nat.one_mul, Nat.add_comm, ← K.len x, List.drop_length_add_append]
theorem Kind.flat_at (K : Kind enc sz) (l : List α) (k : Nat) (x : α) (hx : l[k]? = some x) (j : Nat) (hj : j < sz) : (flat enc l)[k * sz + j]? = (enc x)[j]? := by
  have h := K.flat_drop l k
  have hd : l.drop k = x :: l.drop (k + 1) := by
    rw [List.drop_eq_getElem?_toList_append, hx]; rfl
  rw [hd, flat_cons] at h
  have := congrArg (fun q => q[j]?) h
  simp only [List.getElem?_drop] at this
  rw [this, List.getElem?_append_left (by rw [K.len]; exact hj)]
theorem flat_map {β : Type} (f : β → α) (l : List β) : flat enc (l.map f) = flat (fun x => enc (f x)) l := by simp [flat, List.flatMap_map]
end

/-- A pair of ints, an element of two cells. -/
abbrev enc2 (x : Int × Int) : List Value := [.int .i64 x.1, .int .i64 x.2]
theorem kind2 : Kind enc2 2 := ⟨fun _ => rfl, fun x u hu => by simp [enc2] at hu; rcases hu with rfl | rfl <;> rfl, by omega⟩
/-- Four ints, an element of four cells. -/
abbrev enc4 (x : Int × Int × Int × Int) : List Value := [.int .i64 x.1, .int .i64 x.2.1, .int .i64 x.2.2.1, .int .i64 x.2.2.2]
theorem kind4 : Kind enc4 4 := ⟨fun _ => rfl, fun x u hu => by simp [enc4] at hu; rcases hu with rfl | rfl | rfl | rfl <;> rfl, by omega⟩

/-- A slice value over a row of the call's own (from block 'base' on), which holds l. -/
def Own {α : Type} (enc : α → List Value) (sz : Nat) (e : TypeId) (base : Nat) (w : World) (v : Value) (l : List α) : Prop :=
  w.ownsRow base e sz v l.length (flat enc l)

section
variable {α : Type} {enc : α → List Value} {sz : Nat} {e : TypeId} {base : Nat} {w w' : World} {v : Value} {l : List α}
theorem Own.form (h : Own enc sz e base w v l) (hl : 0 < l.length) : ∃ g cap, v = .slice (some ⟨g, 0, none⟩) l.length cap ∧ base ≤ g ∧ g < w.heap.size ∧ l.length ≤ cap ∧ cap ≤ maxLen := by
  rcases h.2 with ⟨_, h0⟩ | ⟨g, cap, cur, rfl, hb, hg, hn, hc, hs, ht⟩
  · omega
  · exact ⟨g, cap, rfl, hb, (Array.getElem?_eq_some_iff.1 hg).1, hn, hc⟩
theorem Own.slice (h : Own enc sz e base w v l) : ∃ A cap, v = .slice A l.length cap ∧ l.length ≤ cap ∧ cap ≤ maxLen := by
  rcases h.2 with ⟨rfl, h0⟩ | ⟨g, cap, cur, rfl, hb, hg, hn, hc, hs, ht⟩
  · exact ⟨none, 0, by rw [h0], by omega, by unfold maxLen; omega⟩
  · exact ⟨_, cap, rfl, hn, hc⟩
theorem Own.slice3 (h : Own enc sz e base w v l) : ∃ A n cap, v = .slice A n cap := by
  obtain ⟨A, cap, h1, _, _⟩ := h.slice
  exact ⟨A, _, cap, h1⟩
theorem Own.cell {g n cap : Nat} (K : Kind enc sz) (h : Own enc sz e base w (.slice (some ⟨g, 0, none⟩) n cap) l) {k : Nat} {x : α} (hx : l[k]? = some x) (j : Nat) (u : Value) (hu : (enc x)[j]? = some u) : w.cell? ⟨g, k * sz + j, none⟩ = some u := by
  have hj : j < sz := by rw [← K.len x]; exact (List.getElem?_eq_some_iff.1 hu).1
  have := h.cells (g := g) rfl (k * sz + j) u (by rw [K.flat_at l k x hx j hj]; exact hu)
  have ha : (⟨g, 0, none⟩ : Addr).add (k * sz + j) = ⟨g, k * sz + j, none⟩ := by unfold Addr.add; split <;> simp_all
  rwa [ha] at this
/-- The two cells of an element, as the walk spells their places. -/
theorem Own.cells2 {w : World} {g n cap : Nat} {l : List (Int × Int)} (h : Own enc2 2 e base w (.slice (some ⟨g, 0, none⟩) n cap) l) {k : Nat} {x : Int × Int} (hx : l[k]? = some x) :
    w.cell? ⟨g, k * 2, none⟩ = some (.int .i64 x.1) ∧ w.cell? ⟨g, k * 2 + 1, none⟩ = some (.int .i64 x.2) :=
  ⟨h.cell kind2 hx 0 _ rfl, h.cell kind2 hx 1 _ rfl⟩
theorem Own.cells4 {w : World} {g n cap : Nat} {l : List (Int × Int × Int × Int)} (h : Own enc4 4 e base w (.slice (some ⟨g, 0, none⟩) n cap) l) {k : Nat} {x : Int × Int × Int × Int} (hx : l[k]? = some x) :
    w.cell? ⟨g, k * 4, none⟩ = some (.int .i64 x.1) ∧ w.cell? ⟨g, k * 4 + 1, none⟩ = some (.int .i64 x.2.1) ∧ w.cell? ⟨g, k * 4 + 2, none⟩ = some (.int .i64 x.2.2.1) ∧ w.cell? ⟨g, k * 4 + 3, none⟩ = some (.int .i64 x.2.2.2) :=
  ⟨h.cell kind4 hx 0 _ rfl, h.cell kind4 hx 1 _ rfl, h.cell kind4 hx 2 _ rfl, h.cell kind4 hx 3 _ rfl⟩
theorem Own.unfrozen {g n cap : Nat} (h : Own enc sz e base w (.slice (some ⟨g, 0, none⟩) n cap) l) (j : Nat) : w.frozen? ⟨g, j, none⟩ = false := by
  rcases h.2 with ⟨h', _⟩ | ⟨g', cap', cur, h', _, hh, _⟩
  · cases h'
  · have : g = g' := by injection h' with h'; injection h' with h'; injection h' with h'
    subst this
    simp [World.frozen?, hh]
theorem Own.lt (h : Own enc sz e base w v l) : ∀ k, v.ownBlock = some k → base ≤ k ∧ k < w.heap.size := World.ownsRow.lt h
theorem Own.kept {row : Option Nat} (h : Own enc sz e base w v l) (hg : w.grownBy w' row) (hne : v.ownBlock = none ∨ v.ownBlock ≠ row) : Own enc sz e base w' v l := World.ownsRow.kept h hg hne
theorem Own.grown (h : Own enc sz e base w v l) (hg : w.grownBy w' none) : Own enc sz e base w' v l := World.ownsRow.kept h hg (by cases v.ownBlock <;> simp)
theorem Own.below (h : Own enc sz e base w v l) (hg : Below w.heap.size w w') : Own enc sz e base w' v l := h.grown ⟨hg.os, hg.tape, hg.output, hg.size, fun k hk _ => hg.block k hk⟩
theorem Own.alloc (h : Own enc sz e base w v l) (o : Obj) : Own enc sz e base (w.alloc o) v l := h.below ((Below.refl _ _).alloc (Nat.le_refl _) o)
theorem Own.drew (h : Own enc sz e base w v l) : Own enc sz e base w.drew v l := h
theorem Own.mono {b : Nat} (h : Own enc sz e base w v l) (hb : b ≤ base) : Own enc sz e b w v l := by
  refine ⟨h.1, ?_⟩
  rcases h.2 with h' | ⟨g, cap, cur, h1, h2, r⟩
  · exact .inl h'
  · exact .inr ⟨g, cap, cur, h1, by omega, r⟩
/-- Behind a call that says of a new row that it is new. -/
theorem Own.raise {b : Nat} (h : Own enc sz e base w v l) (hb : ∀ k, v.ownBlock = some k → b ≤ k) : Own enc sz e b w v l := by
  refine ⟨h.1, ?_⟩
  rcases h.2 with h' | ⟨g, cap, cur, h1, h2, r⟩
  · exact .inl h'
  · exact .inr ⟨g, cap, cur, h1, hb g (by rw [h1]; rfl), r⟩
theorem Own.nil : Own enc sz e base w (.slice none 0 0) ([] : List α) := World.ownsRow_nil _ _ _ _
end

theorem below_grown {w w' : World} (hg : Below w.heap.size w w') (row : Option Nat) : w.grownBy w' row := ⟨hg.os, hg.tape, hg.output, hg.size, fun k hk _ => hg.block k hk⟩
theorem grown_below {w w' : World} (hg : w.grownBy w' none) : Below w.heap.size w w' := ⟨hg.os, hg.tape, hg.output, hg.size, fun k hk => hg.block k hk (by simp)⟩

/-- One cell of one element turned. -/
theorem Kind.flat_set {α : Type} {enc : α → List Value} {sz : Nat} (K : Kind enc sz) : ∀ (l : List α) (k j : Nat) (x x' : α) (u : Value), l[k]? = some x → j < sz → enc x' = (enc x).set j u → (flat enc l).set (k * sz + j) u = flat enc (l.set k x')
  | [], k, j, x, x', u, hx, _, _ => by simp at hx
  | a :: l, 0, j, x, x', u, hx, hj, he => by
    simp at hx
    subst hx
    rw [List.set_cons_zero, flat_cons, flat_cons, he, Nat.zero_mul, Nat.zero_add, List.set_append_left _ _ (by rw [K.len]; exact hj)]
  | a :: l, k + 1, j, x, x', u, hx, hj, he => by
    rw [List.set_cons_succ, flat_cons, flat_cons, ← K.flat_set l k j x x' u (by simpa using hx) hj he, List.set_append_right _ _ (by rw [K.len, Nat.add_mul]; omega)]
    congr 2
    rw [K.len, Nat.add_mul]
    omega
theorem Own.set {α : Type} {enc : α → List Value} {sz : Nat} {e : TypeId} {base : Nat} {w : World} {g n cap : Nat} {l : List α} (K : Kind enc sz) (h : Own enc sz e base w (.slice (some ⟨g, 0, none⟩) n cap) l) {k j : Nat} {x x' : α} {u : Value} (hx : l[k]? = some x) (hj : j < sz) (he : enc x' = (enc x).set j u) :
    Own enc sz e base (w.setCell ⟨g, k * sz + j, none⟩ u) (.slice (some ⟨g, 0, none⟩) n cap) (l.set k x') := by
  obtain rfl : n = l.length := by
    rcases h.2 with ⟨h', _⟩ | ⟨g', cap', cur, h', _⟩
    · cases h'
    · injection h'
  have hs := World.ownsRow.stored (g := g) (cap := cap) (show w.ownsRow base e sz (.slice (some ⟨g, 0, none⟩) l.length cap) l.length (flat enc l) from h) (k * sz + j) u
  unfold Own
  rw [List.length_set, ← K.flat_set l k j x x' u hx hj he]
  exact hs.1

/-- A slice of integers that came in: nil; or it leads to a row of 'cap' cells, the numbers 'zs' (the first 'len' are its elements). -/
def IsRow (k : IntKind) (w : World) (a : Option Addr) (len cap : Nat) (zs : List Int) : Prop :=
  (a = none ∧ len = 0 ∧ cap = 0 ∧ zs = []) ∨
  ∃ x, a = some x ∧ len ≤ cap ∧ cap ≤ maxLen ∧ zs.length = cap ∧ (∀ i, i < zs.length → w.cell? (x.add i) = some (.int k (zs.getD i 0))) ∧ ∀ n ∈ zs, (Lit.int k n).wf = true
theorem IsRow.at {k : IntKind} {w : World} {a : Option Addr} {len cap : Nat} {zs : List Int} (h : IsRow k w a len cap zs) (hl : 0 < len) :
    ∃ b off, a = some ⟨b, off, none⟩ ∧ b < w.heap.size ∧ ∀ i, i < len → w.cell? ⟨b, off + i, none⟩ = some (.int k (zs.getD i 0)) := by
  rcases h with ⟨_, h0, _⟩ | ⟨x, rfl, hlc, _, hz, hc, _⟩
  · omega
  · have h0 := hc 0 (by omega)
    obtain ⟨b, off, s⟩ := x
    have hs : s = none := by
      cases s with
      | none => rfl
      | some s =>
        simp only [World.cell?, Addr.add] at h0
        split at h0
        · simp at h0
        · cases h0
    subst hs
    have hadd : ∀ i, (⟨b, off, none⟩ : Addr).add i = ⟨b, off + i, none⟩ := fun i => by unfold Addr.add; split <;> simp_all
    exact ⟨b, off, rfl, World.block_lt_of_cell? w _ h0, fun i hi => by rw [← hadd i]; exact hc i (by omega)⟩

/-- What a call keeps: all blocks but those of S. -/
structure Kp (S : Nat → Prop) (w w' : World) : Prop where
  os : w'.os = w.os
  tape : w'.tape = w.tape
  output : w'.output = w.output
  size : w.heap.size ≤ w'.heap.size
  block : ∀ k, k < w.heap.size → ¬ S k → w'.heap[k]? = w.heap[k]?
section
variable {S S' : Nat → Prop} {w w' w'' : World}
theorem Kp.refl (S : Nat → Prop) (w : World) : Kp S w w := ⟨rfl, rfl, rfl, Nat.le_refl _, fun _ _ _ => rfl⟩
theorem Kp.trans (h : Kp S w w') (k : Kp S' w' w'') (hs : ∀ q, S' q → S q ∨ w.heap.size ≤ q) : Kp S w w'' :=
  ⟨k.os.trans h.os, k.tape.trans h.tape, k.output.trans h.output, Nat.le_trans h.size k.size, fun q hq hn =>
    (k.block q (Nat.lt_of_lt_of_le hq h.size) (fun h2 => (hs q h2).elim hn (fun h3 => by omega))).trans (h.block q hq hn)⟩
theorem Kp.mono (h : Kp S w w') (hs : ∀ q, S q → S' q) : Kp S' w w' := ⟨h.os, h.tape, h.output, h.size, fun q hq hn => h.block q hq (fun h2 => hn (hs q h2))⟩
theorem Kp.of_below (h : Below w.heap.size w w') (S : Nat → Prop) : Kp S w w' := ⟨h.os, h.tape, h.output, h.size, fun q hq _ => h.block q hq⟩
theorem Kp.of_grown {row : Option Nat} (h : w.grownBy w' row) : Kp (fun q => some q = row) w w' := ⟨h.os, h.tape, h.output, h.size, fun q hq hn => h.block q hq hn⟩
theorem Kp.grown {row : Option Nat} (h : Kp S w w') (hs : ∀ q, S q → some q = row) : w.grownBy w' row := ⟨h.os, h.tape, h.output, h.size, fun q hq hn => h.block q hq (fun h2 => hn (hs q h2))⟩
theorem Kp.below (h : Kp S w w') {B : Nat} (hB : B ≤ w.heap.size) (hs : ∀ q, S q → B ≤ q) : Below B w w' := ⟨h.os, h.tape, h.output, h.size, fun q hq => h.block q (by omega) (fun h2 => by have := hs q h2; omega)⟩
theorem Kp.setCell (w : World) (a : Addr) (v : Value) : Kp (fun q => q = a.block) w (w.setCell a v) := ⟨rfl, rfl, rfl, by simp [World.setCell], fun q _ hn => Below.heap_setCell w a v q hn⟩
theorem Kp.alloc (w : World) (o : Obj) (S : Nat → Prop) : Kp S w (w.alloc o) := .of_below ((Below.refl _ _).alloc (Nat.le_refl _) o) S
theorem Kp.drew (h : Kp S w w') : Kp S w w'.drew := ⟨h.os, h.tape, h.output, h.size, h.block⟩
theorem Kp.drewN (h : Kp S w w') (n : Nat) : Kp S w (w'.drewN n) := ⟨h.os, h.tape, h.output, h.size, h.block⟩
theorem Kp.at (h : Kp S w w') {q : Nat} {o : Obj} (hq : w.heap[q]? = some o) (hn : ¬ S q) : w'.heap[q]? = some o :=
  (h.block q (Array.getElem?_eq_some_iff.1 hq).1 hn).trans hq
end
theorem cell_down {w w1 wr : World} (h1 : Below w.heap.size w w1) (h2 : Below w1.heap.size w1 wr) {a : Addr} {v : Value} (h : w.cell? a = some v) : wr.cell? a = some v := by
  have hb := World.block_lt_of_cell? w a h
  rw [h2.cell (Nat.lt_of_lt_of_le hb h1.size), h1.cell hb]
  exact h
theorem below_down {w w1 wr : World} (h1 : Below w.heap.size w w1) (h2 : Below w1.heap.size w1 wr) : Below w.heap.size w wr := h1.trans (h2.mono h1.size)
/-- A block of one cell, and the store into it. -/
theorem cell_one {w : World} {b : Nat} {v : Value} {t : TypeId} (h : w.heap[b]? = some (.cells #[v] t (0, 0))) : w.cell? ⟨b, 0, none⟩ = some v := by simp [World.cell?, h]
theorem unfrozen_at {w : World} {b : Nat} {c : Array Value} {t : TypeId} (h : w.heap[b]? = some (.cells c t (0, 0))) (o : Nat) : w.frozen? ⟨b, o, none⟩ = false := by simp [World.frozen?, h]
theorem set_one {w : World} {b : Nat} {c : Array Value} {t : TypeId} (h : w.heap[b]? = some (.cells c t (0, 0))) (o : Nat) (u : Value) : (w.setCell ⟨b, o, none⟩ u).heap[b]? = some (.cells (c.setIfInBounds o u) t (0, 0)) := by
  simp [World.setCell, Array.getElem?_modify, h]
theorem heap_lt {w : World} {b : Nat} {o : Obj} (h : w.heap[b]? = some o) : b < w.heap.size := (Array.getElem?_eq_some_iff.1 h).1
theorem Own.kp {α : Type} {enc : α → List Value} {sz : Nat} {e : TypeId} {base : Nat} {w w' : World} {v : Value} {l : List α} {S : Nat → Prop} (h : Own enc sz e base w v l) (k : Kp S w w') (hn : ∀ q, v.ownBlock = some q → ¬ S q) : Own enc sz e base w' v l := by
  refine ⟨h.1, ?_⟩
  rcases h.2 with h' | ⟨g, cap, cur, h1, h2, h3, r⟩
  · exact .inl h'
  · exact .inr ⟨g, cap, cur, h1, h2, k.at h3 (hn g (by rw [h1]; rfl)), r⟩
end Go.Proofs.YtoapihepdallbaaDoor
