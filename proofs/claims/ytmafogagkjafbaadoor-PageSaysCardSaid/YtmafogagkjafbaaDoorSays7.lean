/- What PageSays compares: readings and puttings, told alike by the program and by the document. -/
import Derived.Test.YtmafogagkjafbaaDoorRef7R
import Derived.Test.YtmafogagkjafbaaDoorPageGet
import Derived.Test.YtmafogagkjafbaaDoorPageBR
import Derived.Test.YtmafogagkjafbaaDoorFirst7
import Derived.Test.YtmafogagkjafbaaDoorSee
import Derived.Test.YtmafogagkjafbaaDoorLawPageBounds
namespace Go.Proofs.YtmafogagkjafbaaDoor
open Go.RowKit

/-- What bytes are as a page: the error's number, the page. -/
def RdRes (b : List Int) (code n : Int) (l : List (Int × Int)) : Prop :=
  (b.length ≠ 256 ∧ code = 103 ∧ n = 0 ∧ l = []) ∨ (b.length = 256 ∧ ReadOk b ∧ code = 0 ∧ n = getS b 0 4 ∧ l = readP b) ∨ (b.length = 256 ∧ ¬ ReadOk b ∧ code = 107 ∧ n = 0 ∧ l = [])
theorem RdRes.same {b : List Int} {c c' n n' : Int} {l l' : List (Int × Int)} (h : RdRes b c n l) (h' : RdRes b c' n' l') : c' = c ∧ n' = n ∧ l' = l := by
  rcases h with ⟨h1, rfl, rfl, rfl⟩ | ⟨h1, h2, rfl, rfl, rfl⟩ | ⟨h1, h2, rfl, rfl, rfl⟩ <;> rcases h' with ⟨h3, rfl, rfl, rfl⟩ | ⟨h3, h4, rfl, rfl, rfl⟩ | ⟨h3, h4, rfl, rfl, rfl⟩ <;> first | exact ⟨rfl, rfl, rfl⟩ | exact absurd h3 h1 | exact absurd h1 h3 | exact absurd h4 h2 | exact absurd h2 h4
theorem RdRes.len {b : List Int} {c n : Int} {l : List (Int × Int)} (h : RdRes b c n l) : l.length ≤ 20 := by
  rcases h with ⟨_, _, _, rfl⟩ | ⟨_, h2, _, _, rfl⟩ | ⟨_, _, _, _, rfl⟩
  · simp
  · exact h2.1.2.2.1
  · simp
theorem ReadLeft.res {f : Nat → Addr} {b : List Int} {w w' : World} {e : Ending} (h : ReadLeft f b w e w') :
    ∃ (u : Value) (code n : Int) (A : Option Addr) (s c : Nat) (l : List (Int × Int)), e = .returned (.tuple #[aggP n (.slice A s c), u]) ∧ Own enc2 2 56 w.heap.size w' (.slice A s c) l ∧ Below w.heap.size w w' ∧ RdRes b code n l ∧ ∀ W, Sents W f → ErrIs W f u code := by
  obtain ⟨h1, h2⟩ := h
  rcases h1 with ⟨h3, rfl⟩ | ⟨h3, h4, A, k, c, rfl, ho⟩ | ⟨h3, h4, rfl⟩
  · exact ⟨_, 103, 0, none, 0, 0, [], rfl, Own.nil, h2, .inl ⟨h3, rfl, rfl, rfl⟩, fun W hS => ErrIs.bad 2 (by omega) hS⟩
  · exact ⟨_, 0, _, A, k, c, _, rfl, ho, h2, .inr (.inl ⟨h3, h4, rfl, rfl, rfl⟩), fun W _ => ErrIs.ok⟩
  · exact ⟨_, 107, 0, none, 0, 0, [], rfl, Own.nil, h2, .inr (.inr ⟨h3, h4, rfl, rfl, rfl⟩), fun W hS => ErrIs.bad 6 (by omega) hS⟩
theorem RefReadLeft.res {b : List Int} {w w' : World} {e : Ending} (h : RefReadLeft b w e w') :
    ∃ (code n : Int) (A : Option Addr) (s c : Nat) (l : List (Int × Int)), e = .returned (.tuple #[aggP n (.slice A s c), .int .i64 code]) ∧ Own enc2 2 56 w.heap.size w' (.slice A s c) l ∧ Below w.heap.size w w' ∧ RdRes b code n l := by
  obtain ⟨h1, h2⟩ := h
  rcases h1 with ⟨h3, rfl⟩ | ⟨h3, h4, A, k, c, rfl, ho⟩ | ⟨h3, h4, rfl⟩
  · exact ⟨103, 0, none, 0, 0, [], rfl, Own.nil, h2, .inl ⟨h3, rfl, rfl, rfl⟩⟩
  · exact ⟨0, _, A, k, c, _, rfl, ho, h2, .inr (.inl ⟨h3, h4, rfl, rfl, rfl⟩)⟩
  · exact ⟨107, 0, none, 0, 0, [], rfl, Own.nil, h2, .inr (.inr ⟨h3, h4, rfl, rfl, rfl⟩)⟩
/-- What a put comes to. -/
def putN (n : Int) (l : List (Int × Int)) (p : Int) : Int := if has l p = true ∨ l.length < 20 then n else 0
def putL (l : List (Int × Int)) (p f : Int) : List (Int × Int) := if has l p = true ∨ l.length < 20 then setIn l (p, f) else []
theorem PutLeft.res {n : Int} {l : List (Int × Int)} {p f : Int} {w w' : World} {e : Ending} (h : PutLeft n l p f w e w') :
    PageLeft (putN n l p) (putL l p f) (decide (has l p = true ∨ l.length < 20)) w e w' := by
  unfold PutLeft at h
  unfold putN putL
  by_cases hc : has l p = true ∨ l.length < 20
  · rw [if_pos hc] at h ⊢; rw [if_pos hc, decide_eq_true hc]; exact h
  · rw [if_neg hc] at h ⊢; rw [if_neg hc, decide_eq_false hc]; exact h
theorem putL_length (l : List (Int × Int)) (p f : Int) (h : l.length ≤ 20) : (putL l p f).length ≤ 21 := by
  unfold putL
  split
  · have := setIn_length l (p, f); omega
  · simp
/-- A page that came in, in a variable of its own. -/
structure PRaw (w W : World) (b : Nat) (n : Int) (v : Value) (l : List (Int × Int)) : Prop where
  below : Below w.heap.size w W
  cells : W.heap[b]? = some (.cells #[.int .i64 n, v] 29 (0, 0))
  rd : RdE W v l
theorem PRaw.bel {w W W' : World} {b : Nat} {n : Int} {v : Value} {l : List (Int × Int)} (h : PRaw w W b n v l) (hb : Below W.heap.size W W') : PRaw w W' b n v l :=
  ⟨below_down h.below hb, up hb h.cells, h.rd.below hb⟩
theorem PRaw.alloc {w W : World} {b : Nat} {n : Int} {v : Value} {l : List (Int × Int)} (h : PRaw w W b n v l) (o : Obj) : PRaw w (W.alloc o) b n v l := h.bel ((Below.refl _ _).alloc (Nat.le_refl _) o)
theorem PRaw.made {w : World} {n : Int} {A : Option Addr} {s c : Nat} {l : List (Int × Int)} (h : RdE w (.slice A s c) l) : PRaw w (w.alloc (.cells #[.int .i64 n, .slice A s c] 29)) w.heap.size n (.slice A s c) l :=
  ⟨(Below.refl _ _).alloc (Nat.le_refl _) _, heap_alloc_new w _, h.alloc _⟩
theorem u8_rng (x y : Int) : 0 ≤ bits BinOp.xor IntKind.u8 x y ∧ bits BinOp.xor IntKind.u8 x y < 256 := by
  unfold bits
  simp only
  rw [IntKind.wrap_u8]
  omega
theorem BytesLeft.res {f : Nat → Addr} {n : Int} {l : List (Int × Int)} {w w' : World} {e : Ending} {g : Bool} (hg : g = true ↔ OkP n l) (h : BytesLeft f n l w e w') :
    ∃ (vx ve : Value) (A : Option Addr) (k c : Nat), vx = .slice A k c ∧ e = .returned (.tuple #[vx, ve]) ∧ Below w.heap.size w w' ∧ ((g = true ∧ ve = .nilIface ∧ RdB w' vx (pageB n l)) ∨ (g = false ∧ ve = errV (f 1) ∧ vx = .slice none 0 0)) := by
  obtain ⟨h1, h2⟩ := h
  rcases h1 with ⟨hok, A, k, c, rfl, ho⟩ | ⟨hno, rfl⟩
  · exact ⟨_, _, A, k, c, rfl, rfl, h2, .inl ⟨hg.2 hok, rfl, ho.rd⟩⟩
  · refine ⟨_, _, none, 0, 0, rfl, rfl, h2, .inr ⟨?_, rfl, rfl⟩⟩
    cases g with
    | false => rfl
    | true => exact absurd (hg.1 rfl) hno
end Go.Proofs.YtmafogagkjafbaaDoor
