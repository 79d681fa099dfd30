/- What came in, opened: a page, bytes. -/
import Derived.OpenShut
import Derived.ChangeSame
import Derived.WideShapes
import Derived.Test.YtmafogagkjafbaaDoorRecs
import Derived.Test.YtmafogagkjafbaaDoorCheckR
namespace Go.Proofs.YtmafogagkjafbaaDoor
open Go.RowKit Go.ChangeShapes Go.WideShapes

theorem rdE_of_recs {w : World} {a : Option Addr} {len cap : Nat} (h : IsRecs 2 w a len) (hc : len ≤ cap) : ∃ l, RdE w (.slice a len cap) l := by
  rcases Nat.eq_zero_or_pos len with rfl | h0
  · exact ⟨[], .inl ⟨rfl, _, _, rfl⟩⟩
  · obtain ⟨b, off, rfl, _, z, hz⟩ := h.at h0
    refine ⟨(List.range len).map fun i => (z i 0, z i 1), .inr ⟨b, off, cap, by simp, by simpa using h0, by simpa using hc, fun k x hx => ?_⟩⟩
    rw [List.getElem?_map] at hx
    have hk : k < len := by
      rcases Nat.lt_or_ge k len with h | h
      · exact h
      · rw [List.getElem?_eq_none (by simpa using h)] at hx; cases hx
    rw [List.getElem?_range hk] at hx
    injection hx with hx
    subst hx
    exact ⟨hz k hk 0 (by omega), hz k hk 1 (by omega)⟩
section
variable {H : Type} {enc : TypeId × Value → H} {w : World} {base : Nat} {spare : Nat → Bool} {held : Bool}
set_option maxRecDepth 100000 in
theorem open_entries {fuel : Nat} {a : Option Addr} {len cap : Nat} {x : DataW H × List MemPlace} (h : DataW.trod enc Tryd.prog w base spare held fuel 27 [.slice a len cap] = some x) : ∃ l, RdE w (.slice a len cap) l := by
  have hr : IsRecs 2 w a len := by
    refine open_recs (by omega) Tryd.underlying27 (show Tryd.prog.cellsOf 56 = 2 by kernel_rfl) (fun n cs x h => ?_) h
    obtain ⟨xs, m, _, _, hl, hx, hi⟩ := DataW.trod_struct Tryd.underlying56 h
    have hc2 : Tryd.prog.cellsOf 56 = 2 := by kernel_rfl
    rw [hc2] at hl
    simp at hx
    match cs, hl with
    | [u0, u1], _ =>
      have e0 := hi 0 _ rfl
      have e1 := hi 1 _ rfl
      simp only [List.getElem?_eq_getElem (show 0 < xs.length by omega), List.getElem?_eq_getElem (show 1 < xs.length by omega)] at e0 e1
      obtain ⟨a, ha, _, _⟩ := DataW.trod_int Tryd.underlying3 e0
      obtain ⟨b, hb, _, _⟩ := DataW.trod_int Tryd.underlying2 e1
      injection ha with ha
      injection hb with hb
      subst ha hb
      exact ⟨[a, b], rfl, rfl⟩
  rcases Go.Deep.open_slice Tryd.underlying27 h with ⟨h0, _⟩ | ⟨a', l', c', m, n, D, Pl, hcs, _, hl, _, hm, _, hx⟩
  · simp only [List.cons.injEq, Value.slice.injEq, and_true] at h0
    obtain ⟨rfl, rfl, rfl⟩ := h0
    exact rdE_of_recs hr (Nat.le_refl _)
  · simp only [List.cons.injEq, Value.slice.injEq, and_true] at hcs
    obtain ⟨rfl, rfl, rfl⟩ := hcs
    exact rdE_of_recs hr hl
set_option maxRecDepth 100000 in
theorem open_page {b0 : Nat} {v : Value} {d : DataW H} {ps : List MemPlace} (hval : Value.okWide Tryd.prog w .any b0 29 v) (h : DataW.Trod enc Tryd.prog w base spare held 29 v d ps) :
    ∃ (n : Int) (A : Option Addr) (s c : Nat) (l : List (Int × Int)), v = aggP n (.slice A s c) ∧ RdE w (.slice A s c) l := by
  obtain ⟨cs, rfl, hs⟩ := okWide_struct Tryd.underlying29 hval
  have hc2 : Tryd.prog.cellsOf 29 = 2 := by kernel_rfl
  rw [hc2] at hs
  obtain ⟨fuel, hf⟩ := h
  obtain ⟨y0, y1, n, _, hl, e0, e1⟩ := Go.ChangeShapes.trod_struct2 Tryd.underlying29 hf
  obtain ⟨l⟩ := cs
  match l, hs with
  | [u0, u1], _ =>
    have hc3 : Tryd.prog.cellsOf 3 = 1 := by kernel_rfl
    have hc4 : Tryd.prog.cellsOf 27 = 1 := by kernel_rfl
    simp [Value.cells, hc3, hc4] at e0 e1
    obtain ⟨a, ha, _, _⟩ := DataW.trod_int Tryd.underlying3 e0
    injection ha with ha
    subst ha
    rcases Go.Deep.open_slice Tryd.underlying27 e1 with ⟨h0, _⟩ | ⟨a', l', c', m, n, D, Pl, hcs, _, hl, _, hm, _, hx⟩
    · injection h0 with h0
      subst h0
      obtain ⟨l, hl⟩ := open_entries e1
      exact ⟨a, _, _, _, l, rfl, hl⟩
    · injection hcs with hcs
      subst hcs
      obtain ⟨l, hl⟩ := open_entries e1
      exact ⟨a, _, _, _, l, rfl, hl⟩
set_option maxRecDepth 100000 in
theorem open_rdB {b0 : Nat} {v : Value} {d : DataW H} {ps : List MemPlace} (hval : Value.okWide Tryd.prog w .any b0 61 v) (h : DataW.Trod enc Tryd.prog w 0 (fun _ => true) true 61 v d ps) :
    ∃ l : List Int, RdB w v l ∧ Byt l := by
  obtain ⟨a, len, cap, rfl⟩ := okWide_slice Tryd.underlying61 hval
  obtain ⟨zs, hrow⟩ : ∃ zs, IsRow .u8 w a len cap zs := by
    obtain ⟨fuel, hf⟩ := h
    rcases open_ints Tryd.underlying61 Tryd.underlying5 (by kernel_rfl) hf with ⟨hcs, _⟩ | ⟨x, l, c, zs, hcs, _, hl, hm, hz, _, hcell, hwz⟩
    · simp [Value.cells] at hcs
      obtain ⟨rfl, rfl, rfl⟩ := hcs
      exact ⟨[], .inl ⟨rfl, rfl, rfl, rfl⟩⟩
    · simp [Value.cells] at hcs
      obtain ⟨rfl, rfl, rfl⟩ := hcs
      exact ⟨zs, .inr ⟨_, rfl, hl, hm, by simpa using hz, hcell, hwz⟩⟩
  rcases Nat.eq_zero_or_pos len with rfl | h0
  · exact ⟨[], .inl ⟨rfl, _, _, rfl⟩, fun z hz => (List.not_mem_nil hz).elim⟩
  · obtain ⟨b, off, rfl, _, hc⟩ := hrow.at h0
    rcases hrow with ⟨h1, _⟩ | ⟨x, hx, hlc, _, hz, _, hw⟩
    · cases h1
    · have hlen : (zs.take len).length = len := by rw [List.length_take]; omega
      refine ⟨zs.take len, .inr ⟨b, off, cap, by rw [hlen], by rw [hlen]; exact h0, by rw [hlen]; exact hlc, fun k y hy => ?_⟩, fun z hz => ?_⟩
      · have hk : k < len := by
          have := (List.getElem?_eq_some_iff.1 hy).1
          omega
        rw [hc k hk]
        rw [List.getElem?_take_of_lt hk] at hy
        rw [List.getD_eq_getElem?_getD, hy]; rfl
      · have := hw z (List.mem_of_mem_take hz)
        have := bounds_u8 this
        omega
end
end Go.Proofs.YtmafogagkjafbaaDoor
