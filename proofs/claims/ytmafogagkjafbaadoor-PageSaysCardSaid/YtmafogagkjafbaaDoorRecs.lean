/- A slice of records of integers that came in: its cells. -/
import Derived.Test.YtmafogagkjafbaaDoorBase
import Derived.Deep.Slices
import Derived.OpenShut
namespace Go.Proofs.YtmafogagkjafbaaDoor
open Go.RowKit

/-- Elements of sz whole numbers each. -/
def IsRecs (sz : Nat) (w : World) (a : Option Addr) (len : Nat) : Prop :=
  len = 0 ∨ ∃ b off, a = some ⟨b, off, none⟩ ∧ b < w.heap.size ∧ ∃ z : Nat → Nat → Int, ∀ i, i < len → ∀ j, j < sz → w.cell? ⟨b, off + i * sz + j, none⟩ = some (.int .i64 (z i j))
theorem IsRecs.at {sz : Nat} {w : World} {a : Option Addr} {len : Nat} (h : IsRecs sz w a len) (hl : 0 < len) :
    ∃ b off, a = some ⟨b, off, none⟩ ∧ b < w.heap.size ∧ ∃ z : Nat → Nat → Int, ∀ i, i < len → ∀ j, j < sz → w.cell? ⟨b, off + i * sz + j, none⟩ = some (.int .i64 (z i j)) := by
  rcases h with h | h
  · omega
  · exact h
theorem IsRecs.plain {sz : Nat} {w : World} {x : Addr} {len : Nat} (hs : 0 < sz) (hl : 0 < len) (h : ∀ i, i < len → ∃ cs : List Int, cs.length = sz ∧ ∀ j, j < sz → w.cell? ((x.add (i * sz)).add j) = (cs.map (Value.int .i64))[j]?) : IsRecs sz w (some x) len := by
  have hcell : ∀ i, i < len → ∀ j, j < sz → ∃ z, w.cell? ((x.add (i * sz)).add j) = some (.int .i64 z) := by
    intro i hi j hj
    obtain ⟨cs, hc, he⟩ := h i hi
    refine ⟨cs.getD j 0, ?_⟩
    rw [he j hj, List.getElem?_map, List.getElem?_eq_getElem (by omega)]
    simp [List.getD, List.getElem?_eq_getElem (show j < cs.length by omega)]
  obtain ⟨z0, h0⟩ := hcell 0 hl 0 hs
  obtain ⟨b, off, s⟩ := x
  have hn : s = none := by
    cases s with
    | none => rfl
    | some s =>
      simp only [World.cell?, Addr.add, Nat.zero_mul] at h0
      split at h0
      · simp at h0
      · cases h0
  subst hn
  have hadd : ∀ i j, ((⟨b, off, none⟩ : Addr).add i).add j = ⟨b, off + i + j, none⟩ := fun i j => by
    unfold Addr.add
    by_cases h1 : i = 0
    · subst h1
      by_cases h2 : j = 0
      · subst h2; simp
      · simp [h2]
    · by_cases h2 : j = 0
      · subst h2; simp [h1]
      · simp [h1, h2]
  refine .inr ⟨b, off, rfl, World.block_lt_of_cell? w ⟨b, off, none⟩ (by simpa [Addr.add] using h0), fun i j => if h : i < len ∧ j < sz then Classical.choose (hcell i h.1 j h.2) else 0, fun i hi j hj => ?_⟩
  have hh := Classical.choose_spec (hcell i hi j hj)
  rw [← hadd, hh]
  simp only [hi, hj, and_self, dite_true]

section
variable {H : Type} {enc : TypeId × Value → H} {P : Program} {w : World} {base : Nat} {spare : Nat → Bool} {held : Bool}
theorem open_recs {t e : TypeId} {sz fuel : Nat} {a : Option Addr} {len cap : Nat} {x : DataW H × List MemPlace} (hs : 0 < sz) (ht : P.underlying t = some (.slice e)) (hc : P.cellsOf e = sz)
    (hel : ∀ n cs x, DataW.trod enc P w base spare held n e cs = some x → ∃ zs : List Int, zs.length = sz ∧ cs = zs.map (Value.int .i64))
    (h : DataW.trod enc P w base spare held fuel t [.slice a len cap] = some x) : IsRecs sz w a len := by
  rcases Go.Deep.open_slice ht h with ⟨h0, _⟩ | ⟨a', l', c', m, n, D, Pl, hcs, _, hl, _, hm, _, hx⟩
  · simp only [List.cons.injEq, Value.slice.injEq, and_true] at h0
    exact .inl h0.2.1
  · simp only [List.cons.injEq, Value.slice.injEq, and_true] at hcs
    obtain ⟨rfl, rfl, rfl⟩ := hcs
    rcases Nat.eq_zero_or_pos len with h0 | h0
    · exact .inl h0
    · refine IsRecs.plain hs h0 fun i hi => ?_
      obtain ⟨cs', h1, h2⟩ := hx i (by rw [hm]; split <;> omega)
      obtain ⟨zs, hz, rfl⟩ := hel _ _ _ h2
      rw [hc] at h1
      obtain ⟨_, _, h3⟩ := World.cells?_some h1
      exact ⟨zs, hz, fun j hj => h3 j hj⟩
end
end Go.Proofs.YtmafogagkjafbaaDoor
