/- The document's turning of a table comes to the same; plain, no program. The document's finder under way: its log, its two tables; what the tables' calls leave of it. The document's analysis, a record at a time: one. -/
import Derived.Test.YtoapihepdallbaaDoorPlainA
import Derived.Test.YtoapihepdallbaaDoorFRTabD
import Derived.Test.YtoapihepdallbaaDoorFRTabT2
import Derived.Test.YtoapihepdallbaaDoorUp
import Derived.Test.YtoapihepdallbaaDoorRW1
import Derived.Test.YtoapihepdallbaaDoorFinM
namespace Go.Proofs.YtoapihepdallbaaDoor
section
/-- Every number in the table has been seen. -/
def Seen (s : An) : Prop := ∀ x ∈ s.t, x.1 ≤ s.m
theorem mem_setInR {β : Type} {l : List (Int × β)} {x y : Int × β} (h : y ∈ setIn l x) : y = x ∨ y ∈ l := by
  unfold setIn at h
  split at h
  · rcases List.mem_or_eq_of_mem_set h with h | h
    · exact .inr h
    · exact .inl h
  · exact mem_put.1 h
theorem mem_dropR {β : Type} {l : List (Int × β)} {k : Int} {y : Int × β} (h : y ∈ drop' l k) : y ∈ l := by
  unfold drop' at h
  split at h
  · unfold cut at h
    rcases List.mem_append.1 h with h | h
    · exact List.mem_of_mem_take h
    · exact List.mem_of_mem_drop h
  · exact h
theorem seen_setIn {s : An} (h : Seen s) (x : TX) (d : List (Int × Int)) : Seen { s with t := setIn s.t x, m := max s.m x.1, d := d } := fun y hy => by
  show y.1 ≤ max s.m x.1
  rcases mem_setInR hy with rfl | hy
  · omega
  · have := h y hy; omega
theorem seen_stepC (bs lsn : Int) (r : RecD) {s : An} (h : Seen s) : Seen (stepC bs lsn r s).2 := by
  unfold stepC
  split
  · exact seen_setIn h (r.txn, r.key, r.prev, r.next) s.d
  split
  · exact h
  split
  · exact fun y hy => by show y.1 ≤ max s.m r.next; have := h y hy; omega
  · exact h
theorem seen_stepG (lsn : Int) (r : RecD) {s : An} (h : Seen s) : Seen (stepG lsn r s).2 := by
  unfold stepG
  split
  · exact seen_setIn h (r.txn, 0, lsn, 0) s.d
  split
  · exact h
  split
  · exact fun y hy => h y (mem_dropR hy)
  · exact seen_setIn h (noteG lsn r (got s.t r.txn)) _
theorem seen_stepO (bs lsn : Int) (r : RecD) {s : An} (h : Seen s) : Seen (stepO bs lsn r s).2 := by
  unfold stepO
  split
  · exact seen_stepC bs lsn r h
  split
  · exact h
  · exact seen_stepG lsn r h
theorem seen_zero (i : Bool) : Seen (An.zero i) := fun x hx => by cases hx

theorem keys_same {β : Type} {l m : List (Int × β)} (h : m.map (·.1) = l.map (·.1)) (k : Int) : pos m k = pos l k ∧ has m k = has l k := by
  have hp : ∀ q : List (Int × β), pos q k = (q.map (·.1)).countP fun x => decide (x < k) := fun q => by unfold pos; rw [List.countP_map]; rfl
  have hh : ∀ q : List (Int × β), has q k = (q.map (·.1)).any fun x => decide (x = k) := fun q => by unfold has; rw [List.any_map]; rfl
  rw [hp, hp, hh, hh, h]
  exact ⟨rfl, rfl⟩
/-- What is found at a number that is there. -/
theorem got_at {l : List TX} (hr : Rising l) {p : Int} (h : has l p = true) : l[pos l p]? = some (got l p) ∧ (got l p).1 = p := by
  obtain ⟨x, hx, hk⟩ := (has_at hr p).1 h
  have : got l p = x := by unfold got; rw [if_pos h, hx]; rfl
  rw [this]
  exact ⟨hx, hk⟩
theorem upd_set {l : List TX} (hr : Rising l) {p : Int} (h : has l p = true) (f : Int × Int × Int → Int × Int × Int) : upd l p f = setIn l ((got l p).1, f (got l p).2) := by
  obtain ⟨hx, hk⟩ := got_at hr h
  rw [upd_yes f h hx, setIn_yes (by show has l (got l p).1 = true; rw [hk]; exact h)]
  show _ = l.set (pos l (got l p).1) _
  rw [hk]
theorem upd_upd {l : List TX} (hr : Rising l) {p : Int} (h : has l p = true) (f g : Int × Int × Int → Int × Int × Int) : upd (upd l p f) p g = upd l p (fun y => g (f y)) := by
  obtain ⟨hx, hk⟩ := got_at hr h
  obtain ⟨hlt, _⟩ := List.getElem?_eq_some_iff.1 hx
  have hu := upd_yes f h hx
  obtain ⟨e1, e2⟩ := keys_same (l := l) (m := upd l p f) (by rw [hu]; exact keys_set hx rfl) p
  have hx2 : (upd l p f)[pos (upd l p f) p]? = some ((got l p).1, f (got l p).2) := by
    rw [e1, hu, List.getElem?_set, if_pos rfl, if_pos hlt]
  rw [upd_yes g (by rw [e2]; exact h) hx2, e1, hu, List.set_set, upd_yes (fun y => g (f y)) h hx]
theorem max_seen {s : An} (h : Seen s) (hr : Rising s.t) {p : Int} (hp : has s.t p = true) : max s.m (got s.t p).1 = s.m := by
  have := h _ (List.mem_of_getElem? (got_at hr hp).1); omega

variable {s : An} {r : RecD} {lsn : Int}
/-- The document's notes come to the chapter's. -/
theorem note_is (hr : Rising s.t) (hs : Seen s) (h : has s.t r.txn = true) (f : Int × Int × Int → Int × Int × Int) (hf : noteG lsn r (got s.t r.txn) = ((got s.t r.txn).1, f (got s.t r.txn).2)) (d : List (Int × Int)) :
    ({ s with t := upd s.t r.txn f, d := d } : An) = { s with t := setIn s.t (noteG lsn r (got s.t r.txn)), m := max s.m (got s.t r.txn).1, d := d } := by
  rw [upd_set hr h f, hf, max_seen hs hr h]
theorem stepG_begin (h1 : r.kind = 1) : stepG lsn r s = (!has s.t r.txn, { s with t := setIn s.t (r.txn, 0, lsn, 0), m := max s.m r.txn }) := by unfold stepG; rw [if_pos h1]
theorem stepG_no (h1 : r.kind ≠ 1) (h : has s.t r.txn = false ∨ r.prev ≠ (got s.t r.txn).2.2.1) : stepG lsn r s = (false, s) := by unfold stepG; rw [if_neg h1, if_pos h]
theorem stepG_end (h6 : r.kind = 6) (h : ¬ (has s.t r.txn = false ∨ r.prev ≠ (got s.t r.txn).2.2.1)) : stepG lsn r s = (true, { s with t := drop' s.t r.txn }) := by unfold stepG; rw [if_neg (by omega), if_neg h, if_pos h6]
theorem stepG_set (hr : Rising s.t) (hs : Seen s) (h2 : r.kind = 2) (h : ¬ (has s.t r.txn = false ∨ r.prev ≠ (got s.t r.txn).2.2.1)) : stepG lsn r s = ((got s.t r.txn).2.1 == 0, { s with t := upd s.t r.txn (fun y => (y.1, lsn, lsn)), d := add s.d (r.page, lsn) }) := by
  have hh : has s.t r.txn = true := by cases hx : has s.t r.txn with | true => rfl | false => exact absurd (.inl hx) h
  rw [note_is (lsn := lsn) hr hs hh _ (by simp [noteG, h2]) (add s.d (r.page, lsn))]
  unfold stepG; rw [if_neg (by omega), if_neg h, if_neg (by omega), if_neg (by omega), if_pos (.inl h2)]
  rfl
theorem stepG_clr (hr : Rising s.t) (hs : Seen s) (h2 : r.kind = 3) (h : ¬ (has s.t r.txn = false ∨ r.prev ≠ (got s.t r.txn).2.2.1)) : stepG lsn r s = (decide ((got s.t r.txn).2.1 ≠ 1) && decide (r.next < lsn), { s with t := upd s.t r.txn (fun y => (y.1, lsn, r.next)), d := add s.d (r.page, lsn) }) := by
  have hh : has s.t r.txn = true := by cases hx : has s.t r.txn with | true => rfl | false => exact absurd (.inl hx) h
  rw [note_is (lsn := lsn) hr hs hh _ (by simp [noteG, h2]) (add s.d (r.page, lsn))]
  unfold stepG; rw [if_neg (by omega), if_neg h, if_neg (by omega), if_pos h2, if_pos (.inr h2)]
theorem stepG_state (hr : Rising s.t) (hs : Seen s) (z : Int) (h2 : r.kind = 4 ∧ z = 1 ∨ r.kind = 5 ∧ z = 2) (h : ¬ (has s.t r.txn = false ∨ r.prev ≠ (got s.t r.txn).2.2.1)) : stepG lsn r s = ((got s.t r.txn).2.1 == 0, { s with t := upd (upd s.t r.txn (fun y => (z, y.2.1, y.2.2))) r.txn (fun y => (y.1, lsn, (got s.t r.txn).2.2.2)) }) := by
  have hh : has s.t r.txn = true := by cases hx : has s.t r.txn with | true => rfl | false => exact absurd (.inl hx) h
  rw [upd_upd hr hh, note_is (lsn := lsn) hr hs hh _ (by rcases h2 with ⟨h2, rfl⟩ | ⟨h2, rfl⟩ <;> simp [noteG, h2]) s.d]
  unfold stepG; rw [if_neg (by omega), if_neg h, if_neg (by omega), if_neg (by omega), if_neg (by omega)]
  rfl
end
section
open Go.RowKit

/-- A row that is where it was, or new from n on. -/
abbrev Mov (rt rt' : Option Nat) (n : Nat) : Prop := ∀ q, rt' = some q → rt = some q ∨ n ≤ q
theorem Mov.of {rt rt' : Option Nat} {n : Nat} (h : rt' = rt ∨ ∀ q, rt' = some q → n ≤ q) : Mov rt rt' n := fun q hq => h.elim (fun e => .inl (e.symm.trans hq)) (fun h => .inr (h q hq))
theorem Mov.refl (rt : Option Nat) (n : Nat) : Mov rt rt n := fun _ hq => .inl hq
theorem Mov.trans {a b c : Option Nat} {n m : Nat} (h : Mov a b n) (h' : Mov b c m) (hn : n ≤ m) : Mov a c n := fun q hq => (h' q hq).elim (h q) (fun h => .inr (Nat.le_trans hn h))
theorem Mov.mono {a b : Option Nat} {n m : Nat} (h : Mov a b m) (hn : n ≤ m) : Mov a b n := fun q hq => (h q hq).imp id (Nat.le_trans hn)
/-- The document's finder in block fb, its log in block lb, its rows; all of it from block B on; what it found. -/
structure FinR (B : Nat) (w : World) (fb lb : Nat) (rt rd : Option Nat) (s : An) : Prop where
  val : ∃ vt vd : Value, vt.ownBlock = rt ∧ vd.ownBlock = rd ∧ w.heap[fb]? = some (.cells #[.pointer (some ⟨lb, 0, none⟩), vt, .int .i64 s.m, vd] 93 (0, 0)) ∧ Own enc4 4 56 0 w vt s.t ∧ Own enc2 2 58 0 w vd s.d
  at_ : rt ≠ some fb
  ad : rd ≠ some fb
  diff : ∀ q, rt = some q → rd ≠ some q
  rising : Rising s.t
  risingD : Rising s.d
  newF : B ≤ fb
  newT : ∀ q, rt = some q → B ≤ q
  newD : ∀ q, rd = some q → B ≤ q
/-- What a call that may turn the finder leaves. -/
def LeftG (B fb lb : Nat) (rt rd : Option Nat) (s : An) (w w' : World) : Prop :=
  ∃ rt' rd', FinR B w' fb lb rt' rd' s ∧ Kp (fun q => q = fb ∨ some q = rt ∨ some q = rd) w w' ∧ Mov rt rt' w.heap.size ∧ Mov rd rd' w.heap.size
section
variable {B fb lb : Nat} {w w' w'' : World} {rt rd : Option Nat} {s s' : An}
theorem FinR.lt (h : FinR B w fb lb rt rd s) : fb < w.heap.size := by obtain ⟨⟨_, _, _, _, hc, _⟩, _⟩ := h; exact heap_lt hc
theorem FinR.rowlt (h : FinR B w fb lb rt rd s) : (∀ q, rt = some q → q < w.heap.size) ∧ ∀ q, rd = some q → q < w.heap.size := by
  obtain ⟨⟨vt, vd, h1, h2, _, h3, h4⟩, _⟩ := h
  exact ⟨fun q hq => (h3.lt q (by rw [h1]; exact hq)).2, fun q hq => (h4.lt q (by rw [h2]; exact hq)).2⟩
theorem FinR.kp {S : Nat → Prop} (h : FinR B w fb lb rt rd s) (k : Kp S w w') (h1 : ¬ S fb) (h2 : ∀ q, rt = some q → ¬ S q) (h3 : ∀ q, rd = some q → ¬ S q) : FinR B w' fb lb rt rd s := by
  obtain ⟨⟨vt, vd, e1, e2, hc, e3, e4⟩, a, b, c, d, e, f, g, i⟩ := h
  exact ⟨⟨vt, vd, e1, e2, k.at hc h1, e3.kp k (fun q hq => h2 q (by rw [← e1]; exact hq)), e4.kp k (fun q hq => h3 q (by rw [← e2]; exact hq))⟩, a, b, c, d, e, f, g, i⟩
theorem FinR.bel (h : FinR B w fb lb rt rd s) (hb : Below w.heap.size w w') : FinR B w' fb lb rt rd s := by
  obtain ⟨⟨vt, vd, h1, h2, hc, h3, h4⟩, a, b, c, d, e, f, g, i⟩ := h
  exact ⟨⟨vt, vd, h1, h2, up hb hc, h3.below hb, h4.below hb⟩, a, b, c, d, e, f, g, i⟩
theorem FinR.drew (h : FinR B w fb lb rt rd s) : FinR B w.drew fb lb rt rd s := by
  obtain ⟨⟨vt, vd, h1, h2, hc, h3, h4⟩, a, b, c, d, e, f, g, i⟩ := h
  exact ⟨⟨vt, vd, h1, h2, hc, h3.drew, h4.drew⟩, a, b, c, d, e, f, g, i⟩
theorem FinR.cells (h : FinR B w fb lb rt rd s) : w.cell? ⟨fb, 0, none⟩ = some (.pointer (some ⟨lb, 0, none⟩)) := by
  obtain ⟨⟨vt, vd, h1, h2, hc, h3, h4⟩, _⟩ := h
  simp [World.cell?, hc]
theorem FinR.unfrozen (h : FinR B w fb lb rt rd s) (o : Nat) : w.frozen? ⟨fb, o, none⟩ = false := by
  obtain ⟨⟨vt, vd, h1, h2, hc, h3, h4⟩, _⟩ := h
  exact unfrozen_at hc o
theorem FinR.tabT (h : FinR B w fb lb rt rd s) : ∃ R, RTabT R w fb rt s.t s.m := by
  obtain ⟨⟨vt, vd, h1, h2, hc, h3, h4⟩, a, b, c, d, e, f, g, i⟩ := h
  exact ⟨⟨.pointer (some ⟨lb, 0, none⟩), vd⟩, ⟨vt, h1, hc, h3⟩, a, d⟩
theorem FinR.tabD (h : FinR B w fb lb rt rd s) : ∃ R, RTabD R w fb rd s.d := by
  obtain ⟨⟨vt, vd, h1, h2, hc, h3, h4⟩, a, b, c, d, e, f, g, i⟩ := h
  exact ⟨⟨.pointer (some ⟨lb, 0, none⟩), vt, s.m⟩, ⟨vd, h2, hc, h4⟩, b, e⟩
theorem FinR.fresh (h : FinR B w fb lb rt rd s) : w.heap.size ≠ fb ∧ rt ≠ some w.heap.size ∧ rd ≠ some w.heap.size :=
  ⟨by have := h.lt; omega, fun he => by have := h.rowlt.1 _ he; omega, fun he => by have := h.rowlt.2 _ he; omega⟩
theorem LeftG.same (h : FinR B w fb lb rt rd s) (hb : Below w.heap.size w w') : LeftG B fb lb rt rd s w w' := ⟨rt, rd, h.bel hb, Kp.of_below hb _, Mov.refl _ _, Mov.refl _ _⟩
theorem LeftG.refl (h : FinR B w fb lb rt rd s) : LeftG B fb lb rt rd s w w := LeftG.same h (Below.refl _ _)
theorem LeftG.trans {rt' rd' : Option Nat} (hk : Kp (fun q => q = fb ∨ some q = rt ∨ some q = rd) w w') (ht : Mov rt rt' w.heap.size) (hd : Mov rd rd' w.heap.size) (h : LeftG B fb lb rt' rd' s' w' w'') : LeftG B fb lb rt rd s' w w'' := by
  obtain ⟨rt2, rd2, hf, hk2, ht2, hd2⟩ := h
  refine ⟨rt2, rd2, hf, hk.trans hk2 (fun q hq => ?_), ht.trans ht2 hk.size, hd.trans hd2 hk.size⟩
  rcases hq with hq | hq | hq
  · exact .inl (.inl hq)
  · rcases ht q hq.symm with h | h
    · exact .inl (.inr (.inl h.symm))
    · exact .inr h
  · rcases hd q hq.symm with h | h
    · exact .inl (.inr (.inr h.symm))
    · exact .inr h
theorem LeftG.bel (h : LeftG B fb lb rt rd s w w') (hb : Below w'.heap.size w' w'') : LeftG B fb lb rt rd s w w'' := by
  obtain ⟨rt2, rd2, hf, hk, ht, hd⟩ := h
  exact ⟨rt2, rd2, hf.bel hb, hk.trans (Kp.of_below hb (fun _ => False)) (fun _ h => h.elim), ht, hd⟩
theorem LeftG.from_ {w0 : World} (h : LeftG B fb lb rt rd s w w') (hb : Below w0.heap.size w0 w) : LeftG B fb lb rt rd s w0 w' := by
  obtain ⟨rt2, rd2, hf, hk, ht, hd⟩ := h
  exact ⟨rt2, rd2, hf, (Kp.of_below hb _).trans hk (fun _ h => .inl h), ht.mono hb.size, hd.mono hb.size⟩
/-- All below B is as it was. -/
theorem LeftG.below (h : LeftG B fb lb rt rd s' w w') (hf : FinR B w fb lb rt rd s) : Below B w w' := by
  obtain ⟨_, _, _, hk, _, _⟩ := h
  refine hk.below (Nat.le_trans hf.newF (Nat.le_of_lt hf.lt)) (fun q hq => ?_)
  rcases hq with hq | hq | hq
  · rw [hq]; exact hf.newF
  · exact hf.newT q hq.symm
  · exact hf.newD q hq.symm
/-- A block that is none of the finder's. -/
theorem LeftG.at_ {b : Nat} {o : Obj} (h : LeftG B fb lb rt rd s' w w') (hb : w.heap[b]? = some o) (hn : b ≠ fb ∧ rt ≠ some b ∧ rd ≠ some b) : w'.heap[b]? = some o := by
  obtain ⟨_, _, _, hk, _, _⟩ := h
  exact hk.at hb (fun h => h.elim hn.1 (fun h => h.elim (fun h => hn.2.1 h.symm) (fun h => hn.2.2 h.symm)))
theorem LeftG.keep {b : Nat} (h : LeftG B fb lb rt rd s' w w') (hb : b < w.heap.size) (hn : b ≠ fb ∧ rt ≠ some b ∧ rd ≠ some b) :
    ∃ rt' rd', FinR B w' fb lb rt' rd' s' ∧ Kp (fun q => q = fb ∨ some q = rt ∨ some q = rd) w w' ∧ Mov rt rt' w.heap.size ∧ Mov rd rd' w.heap.size ∧ b ≠ fb ∧ rt' ≠ some b ∧ rd' ≠ some b := by
  obtain ⟨rt', rd', hf, hk, ht, hd⟩ := h
  refine ⟨rt', rd', hf, hk, ht, hd, hn.1, fun he => ?_, fun he => ?_⟩
  · rcases ht _ he with h | h
    · exact hn.2.1 h
    · omega
  · rcases hd _ he with h | h
    · exact hn.2.2 h
    · omega
theorem FinR.ofT {t' : List TX} {m' : Int} {vt vd : Value} (h : FinR B w fb lb rt rd s) (h2 : vd.ownBlock = rd) (hc : w.heap[fb]? = some (.cells #[.pointer (some ⟨lb, 0, none⟩), vt, .int .i64 s.m, vd] 93 (0, 0))) (h4 : Own enc2 2 58 0 w vd s.d) (hl : RLeftT ⟨.pointer (some ⟨lb, 0, none⟩), vd⟩ fb rt t' m' w w') : LeftG B fb lb rt rd { s with t := t', m := m' } w w' := by
  obtain ⟨_, a, b, c, d, e, f, g, i⟩ := h
  obtain ⟨rt', ⟨⟨vt', h1', hc', h3'⟩, a', d'⟩, hk, hat⟩ := hl
  have hdl : ∀ q, rd = some q → q < w.heap.size := fun q hq => (h4.lt q (by rw [h2]; exact hq)).2
  have hm : Mov rt rt' w.heap.size := Mov.of hat
  have hf := heap_lt hc
  refine ⟨rt', rd, ⟨⟨vt', vd, h1', h2, hc', h3', h4.kp hk (fun q hq he => ?_)⟩, a', b, fun q hq he => ?_, d', e, f, fun q hq => ?_, i⟩, hk.mono (fun q hq => hq.elim .inl (fun h => .inr (.inl h))), hm, Mov.refl _ _⟩
  · rw [h2] at hq
    rcases he with he | he
    · exact b (by rw [hq, he])
    · exact c q he.symm hq
  · rcases hm q hq with h | h
    · exact c q h he
    · have := hdl q he; omega
  · rcases hm q hq with h | h
    · exact g q h
    · omega
theorem FinR.ofD {d' : List (Int × Int)} {vt vd : Value} (h : FinR B w fb lb rt rd s) (h1 : vt.ownBlock = rt) (hc : w.heap[fb]? = some (.cells #[.pointer (some ⟨lb, 0, none⟩), vt, .int .i64 s.m, vd] 93 (0, 0))) (h3 : Own enc4 4 56 0 w vt s.t) (hl : RLeftD ⟨.pointer (some ⟨lb, 0, none⟩), vt, s.m⟩ fb rd d' w w') : LeftG B fb lb rt rd { s with d := d' } w w' := by
  obtain ⟨_, a, b, c, d, e, f, g, i⟩ := h
  obtain ⟨rd', ⟨⟨vd', h2', hc', h4'⟩, b', e'⟩, hk, hat⟩ := hl
  have htl : ∀ q, rt = some q → q < w.heap.size := fun q hq => (h3.lt q (by rw [h1]; exact hq)).2
  have hm : Mov rd rd' w.heap.size := Mov.of hat
  have hf := heap_lt hc
  refine ⟨rt, rd', ⟨⟨vt, vd', h1, h2', hc', h3.kp hk (fun q hq he => ?_), h4'⟩, a, b', fun q hq he => ?_, d, e', f, g, fun q hq => ?_⟩, hk.mono (fun q hq => hq.elim .inl (fun h => .inr (.inr h))), Mov.refl _ _, hm⟩
  · rw [h1] at hq
    rcases he with he | he
    · exact a (by rw [hq, he])
    · exact c q hq he.symm
  · rcases hm q he with h | h
    · exact c q hq h
    · have := htl q hq; omega
  · rcases hm q hq with h | h
    · exact i q h
    · omega
end
variable {B fb lb : Nat} {rt rd : Option Nat} {s : An}
theorem rfinAddT (w : World) (x : TX) (h : FinR B w fb lb rt rd s) (hlen : s.t.length ≤ 1000000) :
    Calls Tryd.prog 53 #[.pointer (some ⟨fb, 1, none⟩), aggT x] w fun e w' => e = .returned (.tuple #[]) ∧ LeftG B fb lb rt rd { s with t := setIn s.t x, m := max s.m x.1 } w w' := by
  obtain ⟨⟨vt, vd, h1, h2, hc, h3, h4⟩, a, b, c, d, e, f, g, i⟩ := id h
  exact (rAddT_any (R := ⟨.pointer (some ⟨lb, 0, none⟩), vd⟩) w fb rt s.t s.m x ⟨⟨vt, h1, hc, h3⟩, a, d⟩ hlen).mono fun e w' ⟨he, hl⟩ => ⟨he, h.ofT h2 hc h4 hl⟩
theorem rfinSeen (w : World) (p : Int) (h : FinR B w fb lb rt rd s) :
    Calls Tryd.prog 55 #[.pointer (some ⟨fb, 1, none⟩), .int .i64 p] w fun e w' => e = .returned (.tuple #[]) ∧ LeftG B fb lb rt rd { s with m := max s.m p } w w' := by
  obtain ⟨⟨vt, vd, h1, h2, hc, h3, h4⟩, a, b, c, d, e, f, g, i⟩ := id h
  exact (rSeenT_any (R := ⟨.pointer (some ⟨lb, 0, none⟩), vd⟩) w fb rt s.t s.m p ⟨⟨vt, h1, hc, h3⟩, a, d⟩).mono fun e w' ⟨he, hl⟩ => ⟨he, h.ofT h2 hc h4 hl⟩
theorem rfinDrop (w : World) (p : Int) (h : FinR B w fb lb rt rd s) (hlen : s.t.length ≤ 1000000) :
    Calls Tryd.prog 58 #[.pointer (some ⟨fb, 1, none⟩), .int .i64 p] w fun e w' => e = .returned (.bool (has s.t p)) ∧ LeftG B fb lb rt rd { s with t := drop' s.t p } w w' := by
  obtain ⟨⟨vt, vd, h1, h2, hc, h3, h4⟩, a, b, c, d, e, f, g, i⟩ := id h
  exact (rDropT_any (R := ⟨.pointer (some ⟨lb, 0, none⟩), vd⟩) w fb rt s.t s.m p ⟨⟨vt, h1, hc, h3⟩, a, d⟩ hlen).mono fun e w' ⟨he, hl⟩ => ⟨he, h.ofT h2 hc h4 hl⟩
theorem rfinState (w : World) (p z : Int) (h : FinR B w fb lb rt rd s) (hlen : s.t.length ≤ 1000000) :
    Calls Tryd.prog 57 #[.pointer (some ⟨fb, 1, none⟩), .int .i64 p, .int .i64 z] w fun e w' => e = .returned (.bool (has s.t p)) ∧ LeftG B fb lb rt rd { s with t := upd s.t p (fun y => (z, y.2.1, y.2.2)) } w w' := by
  obtain ⟨⟨vt, vd, h1, h2, hc, h3, h4⟩, a, b, c, d, e, f, g, i⟩ := id h
  exact (rStateT_any (R := ⟨.pointer (some ⟨lb, 0, none⟩), vd⟩) w fb rt s.t s.m p z ⟨⟨vt, h1, hc, h3⟩, a, d⟩ hlen).mono fun e w' ⟨he, hl⟩ => ⟨he, h.ofT h2 hc h4 hl⟩
theorem rfinNote (w : World) (p y z : Int) (h : FinR B w fb lb rt rd s) (hlen : s.t.length ≤ 1000000) :
    Calls Tryd.prog 59 #[.pointer (some ⟨fb, 1, none⟩), .int .i64 p, .int .i64 y, .int .i64 z] w fun e w' => e = .returned (.bool (has s.t p)) ∧ LeftG B fb lb rt rd { s with t := upd s.t p (fun x => (x.1, y, z)) } w w' := by
  obtain ⟨⟨vt, vd, h1, h2, hc, h3, h4⟩, a, b, c, d, e, f, g, i⟩ := id h
  exact (rNoteT_any (R := ⟨.pointer (some ⟨lb, 0, none⟩), vd⟩) w fb rt s.t s.m p y z ⟨⟨vt, h1, hc, h3⟩, a, d⟩ hlen).mono fun e w' ⟨he, hl⟩ => ⟨he, h.ofT h2 hc h4 hl⟩
theorem rfinGet (w : World) (p : Int) (h : FinR B w fb lb rt rd s) (hlen : s.t.length ≤ 1000000) :
    Calls Tryd.prog 56 #[.pointer (some ⟨fb, 1, none⟩), .int .i64 p] w fun e w' => e = .returned (.tuple #[aggT (got s.t p), .bool (has s.t p)]) ∧ Below w.heap.size w w' := by
  obtain ⟨R, hR⟩ := h.tabT
  exact rGetT_any (R := R) w fb rt s.t s.m p hR hlen
theorem rfinAddD (w : World) (p q : Int) (h : FinR B w fb lb rt rd s) (hlen : s.d.length ≤ 1000000) :
    Calls Tryd.prog 54 #[.pointer (some ⟨fb, 3, none⟩), .int .i64 p, .int .i64 q] w fun e w' => e = .returned (.tuple #[]) ∧ LeftG B fb lb rt rd { s with d := add s.d (p, q) } w w' := by
  obtain ⟨⟨vt, vd, h1, h2, hc, h3, h4⟩, a, b, c, d, e, f, g, i⟩ := id h
  exact (rAdd_any (Rd := ⟨.pointer (some ⟨lb, 0, none⟩), vt, s.m⟩) w fb rd s.d p q ⟨⟨vd, h2, hc, h4⟩, b, e⟩ hlen).mono fun e w' ⟨he, hl⟩ => ⟨he, h.ofD h1 hc h3 hl⟩
theorem FinR.new (w : World) (lb : Nat) (h : B ≤ w.heap.size) (i : Bool) : FinR B (w.alloc (.cells #[.pointer (some ⟨lb, 0, none⟩), .slice none 0 0, .int .i64 0, .slice none 0 0] 93)) w.heap.size lb none none (An.zero i) :=
  ⟨⟨.slice none 0 0, .slice none 0 0, rfl, rfl, heap_alloc_new w _, Own.nil, Own.nil⟩, fun h => by simp at h, fun h => by simp at h, fun _ h => by simp at h, List.Pairwise.nil, List.Pairwise.nil, h, fun _ h => by simp at h, fun _ h => by simp at h⟩
/-- A log that lies below what is turned. -/
theorem LogR.left {w w' : World} {row : Option Nat} {s' : An} {L : List RecD} {bs : Int} (h : LogR w lb row L bs) (hl : LeftG B fb lb rt rd s' w w') (hf : FinR B w fb lb rt rd s) (h1 : lb < B) (h2 : ∀ q, row = some q → q < B) : LogR w' lb row L bs := by
  have hb := hl.below hf
  refine h.kp (S := fun q => B ≤ q) ⟨hb.os, hb.tape, hb.output, hb.size, fun k hk hn => hb.block k (by omega)⟩ (by omega) (fun q hq => by have := h2 q hq; omega)
end
section
open Go.RowKit

variable {B fb lb : Nat} {rt rd : Option Nat} {s : An}
set_option maxRecDepth 4000 in
set_option maxHeartbeats 4000000 in
theorem rfinOne (w : World) (bs lsn : Int) (r : RecD) (h : FinR B w fb lb rt rd s) (hsn : Seen s) (hins : s.ins = false) (hk1 : 1 ≤ r.kind) (ht : s.t.length ≤ 1000000) (hd : s.d.length ≤ 1000000) :
    Calls Tryd.prog 37 #[.pointer (some ⟨fb, 0, none⟩), .int .i64 lsn, aggR r] w fun e w' => e = .returned (.bool (stepO bs lsn r s).1) ∧ LeftG B fb lb rt rd (stepO bs lsn r s).2 w w' := by
  obtain ⟨ok, hok⟩ : ∃ ok, (stepO bs lsn r s).1 = ok := ⟨_, rfl⟩
  obtain ⟨s', hs'⟩ : ∃ s', (stepO bs lsn r s).2 = s' := ⟨_, rfl⟩
  rw [hok, hs']
  have HOK : Sc (stepO bs lsn r s = (ok, s')) := ⟨by rw [← hok, ← hs']⟩
  have HB1 : Sc (Below w.heap.size w (w.alloc (.cells (cellsR r) 51))) := ⟨dn_alloc (Below.refl _ _) _⟩
  have HF0 := Sc.mk h
  have HF1 := Sc.mk (h.bel HB1.out)
  have HFR := Sc.mk h.fresh
  have HRI := Sc.mk h.rising
  have HSN := Sc.mk hsn
  have HZ1 := Sc.mk (heap_alloc_new w (.cells (cellsR r) 51))
  obtain ⟨w1, hw1⟩ : ∃ w1, w.alloc (.cells (cellsR r) 51) = w1 := ⟨_, rfl⟩
  obtain ⟨b1, hb1⟩ : ∃ b, w.heap.size = b := ⟨_, rfl⟩
  rw [hw1] at HB1 HF1 HZ1
  rw [hb1] at HZ1 HFR
  obtain ⟨c0, c1, c2, c3, c4, c5, c6, c7, c8, c9⟩ := cells_recs HZ1.out
  have lz := heap_lt HZ1.out
  obtain ⟨x, hx⟩ : ∃ x, got s.t r.txn = x := ⟨_, rfl⟩
  obtain ⟨hs, hhs⟩ : ∃ hs, has s.t r.txn = hs := ⟨_, rfl⟩
  have HX := Sc.mk (And.intro hx hhs)
  have HUL : Sc (∀ g : Int × Int × Int → Int × Int × Int, (upd s.t r.txn g).length ≤ 1000000) := ⟨fun g => by rw [upd_length]; exact ht⟩
  clear hok hs' h hx hhs hsn
  by_cases h7 : 7 ≤ r.kind
  · have d7 : decide (7 ≤ r.kind) = true := decide_eq_true h7
    have HE : Sc (ok = true ∧ s' = s) := ⟨by
      have := HOK.out
      unfold stepO at this
      rw [if_neg (by rw [hins]; exact Bool.false_ne_true), if_pos h7] at this
      injection this with h1 h2
      exact ⟨h1.symm, h2.symm⟩⟩
    clear hins
    go_enter Tryd.func37, Tryd.ntmps37
    go_wp2
    go_ret
    exact ⟨by rw [HE.out.1]; rfl, by rw [HE.out.2]; exact LeftG.same HF0.out HB1.out⟩
  have d7 : decide (7 ≤ r.kind) = false := decide_eq_false h7
  have HG : Sc (stepG lsn r s = (ok, s')) := ⟨by
    have := HOK.out
    unfold stepO at this
    rwa [if_neg (by rw [hins]; exact Bool.false_ne_true), if_neg h7] at this⟩
  clear hins
  go_enter Tryd.func37, Tryd.ntmps37
  go_upto_region 3 with fail
  clear hw1 hb1
  go_cut [7, 8] from 14 to 22 (fun s7 s8 wx => ∃ b7, s7 = .pointer (some ⟨b7, 0, none⟩) ∧ s8 = .bool hs ∧ w1.heap.size ≤ b7 ∧ Sc (wx.heap[b7]? = some (.cells (enc4 x).toArray 56 (0, 0))) ∧ Sc (Below w1.heap.size w1 wx))
  case first =>
    go_region_law (first | (go_simp; go_at_call 56; refine (rfinGet _ r.txn (by first | with_reducible exact HF1.out.drew | exact (HF1.out.bel (dn_alloc (Below.refl _ _) _)).drew | exact (HF1.out.drew.bel (dn_alloc (Below.refl _ _) _))) ht).mono ?_; rw [HX.out.1, HX.out.2]; rintro e w2 ⟨rfl, hb⟩; have HB2 : Sc (Below w1.heap.size w1 w2) := ⟨by first | exact (Below.refl w1.heap.size w1).drew.trans hb | exact ((Below.refl w1.heap.size w1).alloc (Nat.le_refl _) _).drew.trans (hb.mono (by simp)) | exact ((Below.refl w1.heap.size w1).drew.alloc (Nat.le_refl _) _).trans (hb.mono (by simp))⟩; (first | (have hz : w2.heap[w1.heap.size]? = some (.cells zeroT 56 (0, 0)) := (hb.block _ (by simp)).trans (heap_alloc_new w1 (.cells zeroT 56)); obtain ⟨q0, q1, q2, q3⟩ := cells_txn (x := (0, 0, 0, 0)) hz; have y0 := unfrozen_at hz 0; have y1 := unfrozen_at hz 1; have y2 := unfrozen_at hz 2; have y3 := unfrozen_at hz 3; have HZ2 := Sc.mk hz; clear hz) | skip); clear hb))
    all_goals
      go_wp2_with fail
      go_meet
      case rel => first
        | exact ⟨_, rfl, rfl, HB2.out.size, ⟨heap_alloc_new w2 _⟩, ⟨dn_alloc HB2.out _⟩⟩
        | exact ⟨_, rfl, rfl, Nat.le_refl _, ⟨set_txn HZ2.out⟩, ⟨below_st4 HB2.out (Nat.le_refl _)⟩⟩
  case rest =>
    obtain ⟨b7, rfl, rfl, hb7, HX7, HB7⟩ := hcut
    have HFC := Sc.mk (HF1.out.bel HB7.out)
    have HZC := Sc.mk (up HB7.out HZ1.out)
    have HBC : Sc (Below w.heap.size w wc) := ⟨below_down HB1.out HB7.out⟩
    have HR7 : Sc (b7 ≠ fb ∧ rt ≠ some b7 ∧ rd ≠ some b7) := ⟨by have := HF1.out.lt; omega, fun he => by have := HF1.out.rowlt.1 _ he; omega, fun he => by have := HF1.out.rowlt.2 _ he; omega⟩
    have hne : b1 ≠ b7 := by omega
    clear c0 c1 c2 c3 c4 c5 c6 c7 c8 c9 lz
    obtain ⟨c0, c1, c2, c3, c4, c5, c6, c7, c8, c9⟩ := cells_recs HZC.out
    obtain ⟨x0, x1, x2, x3⟩ := cells_txn HX7.out
    have lz := heap_lt HZC.out
    have l7 := heap_lt HX7.out
    by_cases h1 : r.kind = 1
    · have e1 : (r.kind == 1) = true := by simp [h1]
      have HC : Sc (ok = !hs ∧ s' = { s with t := setIn s.t (r.txn, 0, lsn, 0), m := max s.m r.txn }) := ⟨by
        have := HG.out
        rw [stepG_begin h1, HX.out.2] at this
        injection this with h1 h2
        exact ⟨h1.symm, h2.symm⟩⟩
      clear h1
      go_wp2_with fail
      have CA : Calls Tryd.prog 53 #[.pointer (some ⟨fb, 1, none⟩), .agg #[.int .i64 r.txn, .int .i64 0, .int .i64 lsn, .int .i64 0]] wc.drew fun e w2 => e = .returned (.tuple #[]) ∧ LeftG B fb lb rt rd { s with t := setIn s.t (r.txn, 0, lsn, 0), m := max s.m r.txn } wc w2 := (rfinAddT wc.drew (r.txn, 0, lsn, 0) HFC.out.drew ht).mono fun e w' ⟨he, hl⟩ => ⟨he, hl.from_ (Below.refl wc.heap.size wc).drew⟩
      go_region_law (first | (go_simp; go_at_call 53; refine CA.mono ?_; rintro e w2 ⟨rfl, hl⟩; have HLF := Sc.mk hl; clear hl))
      all_goals
        clear CA
        go_wp2
        go_ret
        exact ⟨by rw [HC.out.1]; rfl, by rw [HC.out.2]; exact HLF.out.from_ HBC.out⟩
    have e1 : (r.kind == 1) = false := beq_no h1
    cases hs with
    | false =>
      have HC : Sc (ok = false ∧ s' = s) := ⟨by
        have := HG.out
        rw [stepG_no h1 (.inl HX.out.2)] at this
        injection this with h1 h2
        exact ⟨h1.symm, h2.symm⟩⟩
      clear h1
      go_wp2
      go_ret
      exact ⟨by rw [HC.out.1]; rfl, by rw [HC.out.2]; exact LeftG.same HF0.out HBC.out⟩
    | true =>
      by_cases hpv : r.prev = x.2.2.1
      case neg =>
        have epv : (r.prev == x.2.2.1) = false := beq_no hpv
        have HC : Sc (ok = false ∧ s' = s) := ⟨by
          have := HG.out
          rw [stepG_no h1 (.inr (by rw [HX.out.1]; exact hpv))] at this
          injection this with h1 h2
          exact ⟨h1.symm, h2.symm⟩⟩
        clear h1 hpv
        go_wp2
        go_ret
        exact ⟨by rw [HC.out.1]; rfl, by rw [HC.out.2]; exact LeftG.same HF0.out HBC.out⟩
      have epv : (r.prev == x.2.2.1) = true := by simp [hpv]
      have hno : ¬ (has s.t r.txn = false ∨ r.prev ≠ (got s.t r.txn).2.2.1) := by rw [HX.out.1, HX.out.2]; simp [hpv]
      have HNO := Sc.mk hno
      clear hno
      have HZ4 := Sc.mk (up HB7.out HZ1.out)
      by_cases h2 : r.kind = 2
      · have e2 : (r.kind == 2) = true := by simp [h2]
        have HC : Sc (ok = (x.2.1 == 0) ∧ s' = { s with t := upd s.t r.txn (fun y => (y.1, lsn, lsn)), d := add s.d (r.page, lsn) }) := ⟨by
          have := HG.out
          rw [stepG_set HRI.out HSN.out h2 HNO.out, HX.out.1] at this
          injection this with h1 h2
          exact ⟨h1.symm, h2.symm⟩⟩
        clear h1 h2 hpv h7
        go_wp2_with fail
        have CA : Calls Tryd.prog 54 #[.pointer (some ⟨fb, 3, none⟩), .int .i64 r.page, .int .i64 lsn] wc.drew fun e w2 => e = .returned (.tuple #[]) ∧ LeftG B fb lb rt rd { s with d := add s.d (r.page, lsn) } wc w2 := (rfinAddD wc.drew r.page lsn HFC.out.drew hd).mono fun e w' ⟨he, hl⟩ => ⟨he, hl.from_ (Below.refl wc.heap.size wc).drew⟩
        go_region_law (first | (go_simp; go_at_call 54; refine CA.mono ?_; rintro e w2 ⟨rfl, hl⟩; have HLF := Sc.mk hl; clear hl))
        all_goals
          clear CA
          obtain ⟨rt2, rd2, hf2, hk2, ht2, hd2, hn2⟩ := HLF.out.keep (heap_lt HZC.out) HFR.out
          have HZ9 := Sc.mk (HLF.out.at_ HZC.out HFR.out)
          obtain ⟨c0, c1, c2, c3, c4, c5, c6, c7, c8, c9⟩ := cells_recs HZ9.out
          have HK2 := Sc.mk (And.intro hk2 (And.intro ht2 hd2))
          have CN : Calls Tryd.prog 59 #[.pointer (some ⟨fb, 1, none⟩), .int .i64 r.txn, .int .i64 lsn, .int .i64 lsn] w2.drew fun e w3 => e = .returned (.bool (has s.t r.txn)) ∧ LeftG B fb lb rt2 rd2 { s with t := upd s.t r.txn (fun y => (y.1, lsn, lsn)), d := add s.d (r.page, lsn) } w2 w3 := (rfinNote w2.drew r.txn lsn lsn hf2.drew ht).mono fun e w' ⟨he, hl⟩ => ⟨he, hl.from_ (Below.refl w2.heap.size w2).drew⟩
          clear hf2 hk2 ht2 hd2 hn2
          go_wp2_with fail
          go_region_law (first | (go_simp; go_at_call 59; refine CN.mono ?_; rintro e w3 ⟨rfl, hl⟩; have HLG := Sc.mk hl; clear hl))
          all_goals
            clear CN
            go_wp2
            go_ret
            exact ⟨by rw [HC.out.1]; rfl, by rw [HC.out.2]; exact (LeftG.trans HK2.out.1 HK2.out.2.1 HK2.out.2.2 HLG.out).from_ HBC.out⟩
      have e2 : (r.kind == 2) = false := beq_no h2
      by_cases h3 : r.kind = 3
      · have e3 : (r.kind == 3) = true := by simp [h3]
        have HC : Sc (ok = (decide (x.2.1 ≠ 1) && decide (r.next < lsn)) ∧ s' = { s with t := upd s.t r.txn (fun y => (y.1, lsn, r.next)), d := add s.d (r.page, lsn) }) := ⟨by
          have := HG.out
          rw [stepG_clr HRI.out HSN.out h3 HNO.out, HX.out.1] at this
          injection this with h1 h2
          exact ⟨h1.symm, h2.symm⟩⟩
        clear h1 h2 h3 hpv h7
        have CA : Calls Tryd.prog 54 #[.pointer (some ⟨fb, 3, none⟩), .int .i64 r.page, .int .i64 lsn] wc.drew fun e w2 => e = .returned (.tuple #[]) ∧ LeftG B fb lb rt rd { s with d := add s.d (r.page, lsn) } wc w2 := (rfinAddD wc.drew r.page lsn HFC.out.drew hd).mono fun e w' ⟨he, hl⟩ => ⟨he, hl.from_ (Below.refl wc.heap.size wc).drew⟩
        go_wp2_with fail
        all_goals
          go_region_law (first | (go_simp; go_at_call 54; refine CA.mono ?_; rintro e w2 ⟨rfl, hl⟩; have HLF := Sc.mk hl; clear hl))
        all_goals
          clear CA
          obtain ⟨rt2, rd2, hf2, hk2, ht2, hd2, hn2⟩ := HLF.out.keep (heap_lt HZC.out) HFR.out
          have HZ9 := Sc.mk (HLF.out.at_ HZC.out HFR.out)
          obtain ⟨c0, c1, c2, c3, c4, c5, c6, c7, c8, c9⟩ := cells_recs HZ9.out
          have HK2 := Sc.mk (And.intro hk2 (And.intro ht2 hd2))
          have CN : Calls Tryd.prog 59 #[.pointer (some ⟨fb, 1, none⟩), .int .i64 r.txn, .int .i64 lsn, .int .i64 r.next] w2.drew fun e w3 => e = .returned (.bool (has s.t r.txn)) ∧ LeftG B fb lb rt2 rd2 { s with t := upd s.t r.txn (fun y => (y.1, lsn, r.next)), d := add s.d (r.page, lsn) } w2 w3 := (rfinNote w2.drew r.txn lsn r.next hf2.drew ht).mono fun e w' ⟨he, hl⟩ => ⟨he, hl.from_ (Below.refl w2.heap.size w2).drew⟩
          clear hf2 hk2 ht2 hd2 hn2
          go_wp2_with fail
          go_region_law (first | (go_simp; go_at_call 59; refine CN.mono ?_; rintro e w3 ⟨rfl, hl⟩; have HLG := Sc.mk hl; clear hl))
          all_goals
            clear CN
            go_wp2
            go_ret
            refine ⟨?_, by rw [HC.out.2]; exact (LeftG.trans HK2.out.1 HK2.out.2.1 HK2.out.2.2 HLG.out).from_ HBC.out⟩
            first
              | (have HW : ok = (x.2.1 != 1 && decide (r.next < lsn)) := (by rw [HC.out.1]; by_cases hq : x.2.1 = 1 <;> simp [hq]); rw [HW]; rfl)
              | (have HW : ok = false := (by rw [HC.out.1]; simp [*]); rw [HW]; rfl)
              | (have HW : ok = decide (r.next < lsn) := (by rw [HC.out.1]; simp [*]); rw [HW]; rfl)
      have e3 : (r.kind == 3) = false := beq_no h3
      by_cases h4 : r.kind = 4
      · have e4 : (r.kind == 4) = true := by simp [h4]
        have HC : Sc (ok = (x.2.1 == 0) ∧ s' = { s with t := upd (upd s.t r.txn (fun y => (1, y.2.1, y.2.2))) r.txn (fun y => (y.1, lsn, x.2.2.2)) }) := ⟨by
          have := HG.out
          rw [stepG_state HRI.out HSN.out 1 (.inl ⟨h4, rfl⟩) HNO.out, HX.out.1] at this
          injection this with h1 h2
          exact ⟨h1.symm, h2.symm⟩⟩
        obtain ⟨t4, ht4⟩ : ∃ t4, upd s.t r.txn (fun y => ((1 : Int), y.2.1, y.2.2)) = t4 := ⟨_, rfl⟩
        have HTL : Sc (t4.length ≤ 1000000) := ⟨by rw [← ht4, upd_length]; exact ht⟩
        have CS := rfinState wc.drew r.txn 1 HFC.out.drew ht
        rw [ht4] at HC CS
        clear h1 h2 h3 h4 hpv h7 ht4
        go_wp2_with fail
        have CA : Calls Tryd.prog 57 #[.pointer (some ⟨fb, 1, none⟩), .int .i64 r.txn, .int .i64 1] wc.drew fun e w2 => e = .returned (.bool (has s.t r.txn)) ∧ LeftG B fb lb rt rd { s with t := t4 } wc w2 := CS.mono fun e w' ⟨he, hl⟩ => ⟨he, hl.from_ (Below.refl wc.heap.size wc).drew⟩
        go_region_law (first | (go_simp; go_at_call 57; refine CA.mono ?_; rintro e w2 ⟨rfl, hl⟩; have HLF := Sc.mk hl; clear hl))
        all_goals
          clear CA CS
          obtain ⟨rt2, rd2, hf2, hk2, ht2, hd2, hn2⟩ := HLF.out.keep (heap_lt HZC.out) HFR.out
          have HZ9 := Sc.mk (HLF.out.at_ HZC.out HFR.out)
          obtain ⟨c0, c1, c2, c3, c4, c5, c6, c7, c8, c9⟩ := cells_recs HZ9.out
          have HK2 := Sc.mk (And.intro hk2 (And.intro ht2 hd2))
          have CN : Calls Tryd.prog 59 #[.pointer (some ⟨fb, 1, none⟩), .int .i64 r.txn, .int .i64 lsn, .int .i64 x.2.2.2] w2.drew fun e w3 => e = .returned (.bool (has (t4) r.txn)) ∧ LeftG B fb lb rt2 rd2 { s with t := upd (t4) r.txn (fun y => (y.1, lsn, x.2.2.2)) } w2 w3 := (rfinNote w2.drew r.txn lsn x.2.2.2 hf2.drew HTL.out).mono fun e w' ⟨he, hl⟩ => ⟨he, hl.from_ (Below.refl w2.heap.size w2).drew⟩
          clear hf2 hk2 ht2 hd2 hn2
          go_wp2_with fail
          go_region_law (first | (go_simp; go_at_call 59; refine CN.mono ?_; rintro e w3 ⟨rfl, hl⟩; have HLG := Sc.mk hl; clear hl))
          all_goals
            clear CN
            go_wp2
            go_ret
            exact ⟨by rw [HC.out.1]; rfl, by rw [HC.out.2]; exact (LeftG.trans HK2.out.1 HK2.out.2.1 HK2.out.2.2 HLG.out).from_ HBC.out⟩
      have e4 : (r.kind == 4) = false := beq_no h4
      by_cases h5 : r.kind = 5
      · have e5 : (r.kind == 5) = true := by simp [h5]
        have HC : Sc (ok = (x.2.1 == 0) ∧ s' = { s with t := upd (upd s.t r.txn (fun y => (2, y.2.1, y.2.2))) r.txn (fun y => (y.1, lsn, x.2.2.2)) }) := ⟨by
          have := HG.out
          rw [stepG_state HRI.out HSN.out 2 (.inr ⟨h5, rfl⟩) HNO.out, HX.out.1] at this
          injection this with h1 h2
          exact ⟨h1.symm, h2.symm⟩⟩
        obtain ⟨t4, ht4⟩ : ∃ t4, upd s.t r.txn (fun y => ((2 : Int), y.2.1, y.2.2)) = t4 := ⟨_, rfl⟩
        have HTL : Sc (t4.length ≤ 1000000) := ⟨by rw [← ht4, upd_length]; exact ht⟩
        have CS := rfinState wc.drew r.txn 2 HFC.out.drew ht
        rw [ht4] at HC CS
        clear h1 h2 h3 h4 h5 hpv h7 ht4
        go_wp2_with fail
        have CA : Calls Tryd.prog 57 #[.pointer (some ⟨fb, 1, none⟩), .int .i64 r.txn, .int .i64 2] wc.drew fun e w2 => e = .returned (.bool (has s.t r.txn)) ∧ LeftG B fb lb rt rd { s with t := t4 } wc w2 := CS.mono fun e w' ⟨he, hl⟩ => ⟨he, hl.from_ (Below.refl wc.heap.size wc).drew⟩
        go_region_law (first | (go_simp; go_at_call 57; refine CA.mono ?_; rintro e w2 ⟨rfl, hl⟩; have HLF := Sc.mk hl; clear hl))
        all_goals
          clear CA CS
          obtain ⟨rt2, rd2, hf2, hk2, ht2, hd2, hn2⟩ := HLF.out.keep (heap_lt HZC.out) HFR.out
          have HZ9 := Sc.mk (HLF.out.at_ HZC.out HFR.out)
          obtain ⟨c0, c1, c2, c3, c4, c5, c6, c7, c8, c9⟩ := cells_recs HZ9.out
          have HK2 := Sc.mk (And.intro hk2 (And.intro ht2 hd2))
          have CN : Calls Tryd.prog 59 #[.pointer (some ⟨fb, 1, none⟩), .int .i64 r.txn, .int .i64 lsn, .int .i64 x.2.2.2] w2.drew fun e w3 => e = .returned (.bool (has (t4) r.txn)) ∧ LeftG B fb lb rt2 rd2 { s with t := upd (t4) r.txn (fun y => (y.1, lsn, x.2.2.2)) } w2 w3 := (rfinNote w2.drew r.txn lsn x.2.2.2 hf2.drew HTL.out).mono fun e w' ⟨he, hl⟩ => ⟨he, hl.from_ (Below.refl w2.heap.size w2).drew⟩
          clear hf2 hk2 ht2 hd2 hn2
          go_wp2_with fail
          go_region_law (first | (go_simp; go_at_call 59; refine CN.mono ?_; rintro e w3 ⟨rfl, hl⟩; have HLG := Sc.mk hl; clear hl))
          all_goals
            clear CN
            go_wp2
            go_ret
            exact ⟨by rw [HC.out.1]; rfl, by rw [HC.out.2]; exact (LeftG.trans HK2.out.1 HK2.out.2.1 HK2.out.2.2 HLG.out).from_ HBC.out⟩
      have e5 : (r.kind == 5) = false := beq_no h5
      have HC : Sc (ok = true ∧ s' = { s with t := drop' s.t r.txn }) := ⟨by
        have := HG.out
        rw [stepG_end (by omega) HNO.out] at this
        injection this with h1 h2
        exact ⟨h1.symm, h2.symm⟩⟩
      clear h1 h2 h3 h4 h5 hpv h7
      go_wp2_with fail
      have CA : Calls Tryd.prog 58 #[.pointer (some ⟨fb, 1, none⟩), .int .i64 r.txn] wc.drew fun e w2 => e = .returned (.bool (has s.t r.txn)) ∧ LeftG B fb lb rt rd { s with t := drop' s.t r.txn } wc w2 := (rfinDrop wc.drew r.txn HFC.out.drew ht).mono fun e w' ⟨he, hl⟩ => ⟨he, hl.from_ (Below.refl wc.heap.size wc).drew⟩
      go_region_law (first | (go_simp; go_at_call 58; refine CA.mono ?_; rintro e w2 ⟨rfl, hl⟩; have HLF := Sc.mk hl; clear hl))
      all_goals
        clear CA
        go_wp2
        go_ret
        exact ⟨by rw [HC.out.1]; rfl, by rw [HC.out.2]; exact HLF.out.from_ HBC.out⟩
end
end Go.Proofs.YtoapihepdallbaaDoor
