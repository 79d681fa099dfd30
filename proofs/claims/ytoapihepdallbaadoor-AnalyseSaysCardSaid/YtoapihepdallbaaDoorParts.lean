/- A part of a row that a call owns: its head as a row, its tail as a source; nothing appended. -/
import Derived.Test.YtoapihepdallbaaDoorLib
import Derived.Deep.Upon
namespace Go.Proofs.YtoapihepdallbaaDoor
open Go.RowKit

section
variable {α : Type} {enc : α → List Value} {sz : Nat} {e : TypeId} {base : Nat} {w w' : World}
theorem Own.take {g n cap : Nat} {l : List α} (K : Kind enc sz) (h : Own enc sz e base w (.slice (some ⟨g, 0, none⟩) n cap) l) {k : Nat} (hk : k ≤ n) :
    Own enc sz e base w (.slice (some ⟨g, 0, none⟩) k cap) (l.take k) := by
  obtain ⟨cur, hh, hb, hl, hn, hc, hs, ht⟩ := h.block
  refine Own.of_block hh hb K (by rw [List.length_take]; omega) (by omega) hc hs ?_
  rw [← K.flat_take, ← ht, List.take_take, Nat.min_eq_left (Nat.mul_le_mul_right _ hk)]
theorem Own.tail {g n cap : Nat} {l : List α} (K : Kind enc sz) (h : Own enc sz e base w (.slice (some ⟨g, 0, none⟩) n cap) l) (k : Nat) :
    ∀ j u, (flat enc (l.drop k))[j]? = some u → w.cell? ((⟨g, k * sz, none⟩ : Addr).add j) = some u := by
  intro j u hu
  rw [← K.flat_drop, List.getElem?_drop] at hu
  have := h.cells (g := g) rfl (k * sz + j) u hu
  have ha : (⟨g, 0, none⟩ : Addr).add (k * sz + j) = (⟨g, k * sz, none⟩ : Addr).add j := by
    cases j <;> unfold Addr.add <;> split <;> simp_all
  rwa [ha] at this
theorem Own.len {A : Option Addr} {n c : Nat} {l : List α} (h : Own enc sz e base w (.slice A n c) l) : n = l.length := by
  obtain ⟨A', c', he, _, _⟩ := h.slice
  injection he
theorem Own.rows {v : Value} {l : List α} {n : Nat} (h : Own enc sz e base w v l) (hn : l.length = n) : w.ownsRow base e sz v n (flat enc l) := by
  subst hn; exact h
theorem Own.of_rows {v : Value} {l : List α} {n : Nat} {cs : List Value} (h : w.ownsRow base e sz v n cs) (hn : l.length = n) (hc : cs = flat enc l) : Own enc sz e base w v l := by
  subst hn hc; exact h
end
theorem cells_below {w w' : World} {g o : Nat} {cs : List Value} (hb : Below w.heap.size w w') (h : ∀ j u, cs[j]? = some u → w.cell? ((⟨g, o, none⟩ : Addr).add j) = some u) : ∀ j u, cs[j]? = some u → w'.cell? ((⟨g, o, none⟩ : Addr).add j) = some u := fun j u hj => by
  have h1 := h j u hj
  have hlt := World.block_lt_of_cell? w _ h1
  have h2 := hb.block _ hlt
  unfold World.cell? at h1 ⊢
  rw [h2]; exact h1
theorem run_append_none {P : Program} (w : World) (t ty e : TypeId) (i : TypeInfo) (ht : P.underlying t = some (.slice e)) (hi : P.info? e = some i) (base : Option Addr) (n c : Nat) (h : n ≤ c) :
    (Builtin.append_ #[t, t] ty #[.slice base n c, .slice none 0 0]).run P w = .ok (.slice base n c) w := by
  cases base <;> simp [Builtin.append_, run_underlying ht, sizeOf, typeInfo, hi, Builtin.lenOf, Builtin.firstCells, h, storeCells]
end Go.Proofs.YtoapihepdallbaaDoor
