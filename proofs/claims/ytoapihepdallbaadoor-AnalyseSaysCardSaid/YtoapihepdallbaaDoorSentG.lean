/- The errors of package api: what the condition on them gives; phoenixsee's words. -/
import Derived.Test.YtoapihepdallbaaDoorRows
import Derived.Test.YtoapihepdallbaaDoorUp
import Derived.Stop.LaidErr
import Derived.MakeChecks
namespace Go.Proofs.YtoapihepdallbaaDoor
open Go.RowKit Go.ChangeShapes

/-- The variables, in the order of their numbers. -/
def gsL : List Nat := [3, 2, 4, 5, 6, 7, 8, 1, 0, 9, 10, 11, 12, 13, 14, 15, 16, 17]
def gsT : List (List UInt8) := [[116, 104, 101, 114, 101, 32, 105, 115, 32, 110, 111, 32, 112, 111, 119, 101, 114], [97, 32, 110, 117, 109, 98, 101, 114, 32, 111, 117, 116, 32, 111, 102, 32, 105, 116, 115, 32, 114, 97, 110, 103, 101], [98, 121, 116, 101, 115, 32, 111, 102, 32, 97, 110, 111, 116, 104, 101, 114, 32, 108, 101, 110, 103, 116, 104], [110, 111, 116, 32, 97, 32, 114, 101, 99, 111, 114, 100], [110, 111, 116, 32, 97, 32, 98, 108, 111, 99, 107], [110, 111, 116, 32, 97, 32, 109, 97, 115, 116, 101, 114], [110, 111, 116, 32, 97, 32, 112, 97, 103, 101], [97, 32, 108, 111, 103, 32, 116, 104, 97, 116, 32, 99, 97, 110, 39, 116, 32, 98, 101], [116, 104, 101, 32, 108, 111, 103, 32, 105, 115, 32, 102, 117, 108, 108], [116, 104, 101, 32, 112, 97, 103, 101, 32, 105, 115, 32, 102, 117, 108, 108], [97, 110, 111, 116, 104, 101, 114, 32, 111, 110, 101, 32, 104, 111, 108, 100, 115, 32, 105, 116], [101, 97, 99, 104, 32, 119, 97, 105, 116, 115, 32, 102, 111, 114, 32, 97, 110, 111, 116, 104, 101, 114, 32, 111, 110, 101], [110, 111, 32, 116, 114, 97, 110, 115, 97, 99, 116, 105, 111, 110], [97, 32, 116, 114, 97, 110, 115, 97, 99, 116, 105, 111, 110, 32, 97, 108, 114, 101, 97, 100, 121], [110, 111, 32, 115, 117, 99, 104, 32, 115, 97, 118, 101, 112, 111, 105, 110, 116], [116, 114, 97, 110, 115, 97, 99, 116, 105, 111, 110, 115, 32, 97, 114, 101, 32, 111, 112, 101, 110], [109, 111, 114, 101, 32, 116, 104, 97, 110, 32, 109, 97, 121, 32, 98, 101], [99, 108, 111, 115, 101, 100]]
/-- The errors' addresses. -/
structure Sents (W : World) (f : Nat → Addr) : Prop where
  cell : ∀ i, i < 18 → W.cell? ⟨gsL.getD i 0, 0, none⟩ = some (.iface 155 (.pointer (some (f i))))
  inj : ∀ i, i < 18 → ∀ j, j < 18 → f i = f j → i = j
  blk : ∀ i, i < 18 → ∃ c t, W.heap[(f i).block]? = some (.cells c t (0, 0))
theorem Sents.bel {W W' : World} {f : Nat → Addr} (h : Sents W f) (hb : Below W.heap.size W W') : Sents W' f :=
  ⟨fun i hi => (hb.cell (World.block_lt_of_cell? _ _ (h.cell i hi))).trans (h.cell i hi), h.inj, fun i hi => by
    obtain ⟨c, t, hc⟩ := h.blk i hi
    exact ⟨c, t, (hb.block _ (Array.getElem?_eq_some_iff.1 hc).1).trans hc⟩⟩
theorem laid_sentinel' {P : Program} {n nm : String} {text : List UInt8} {r : List (String × DataW Unit)} {W : World} {g : Nat} {ti tp te ts : TypeId} {ms : Array (String × TypeId)} {f : Field}
    (h : laidMet P ((n, .iface nm (.ptr (.agg [.lit (.string text)]))) :: r) W)
    (hg : P.globalNamed n = some g) (ht : (P.globals[g]?).map (·.type) = some ti) (hi : P.underlying ti = some (.interface ms)) (hrow : ∀ u, P.typeName? 3 u = some nm → u = tp)
    (hp : P.underlying tp = some (.pointer te)) (he : P.underlying te = some (.struct #[f])) (hft : f.type = ts) (hfo : f.offset = 0) (hs : P.underlying ts = some .string) (hc : P.cellsOf te = 1) (hcs : P.cellsOf ts = 1) :
    ∃ (a : Addr) (s : ByteArray), W.cell? ⟨g, 0, none⟩ = some (.iface tp (.pointer (some a))) ∧ W.cell? a = some (.string s) ∧ s.data.toList = text ∧ ∃ c t, W.heap[a.block]? = some (.cells c t (0, 0)) := by
  obtain ⟨ps, ⟨g0, t0, cs0, f0, p0, q0, hg0, ht0, hv0, hd0, _, e0⟩, _, hrows⟩ := h
  obtain rfl := Option.some.inj (hg.symm.trans hg0)
  obtain rfl := Option.some.inj (ht.symm.trans ht0)
  subst e0
  obtain ⟨l0⟩ := cs0
  have ok0 : ∀ u v, l0 = [.iface u v] → Value.okWide P W .any 0 u v := fun u v e => by
    subst e
    exact (hrows g 0 (by simp [MemPlace.row])).2 u v (by simpa using World.var?_cell hg0 hv0 0)
  obtain ⟨a0, s0, rfl, hc0, hs0, _, rfl⟩ := errorString_of_trod hi hrow hp he hft hfo hs hc hcs hd0 ok0
  exact ⟨a0, s0, World.var?_cell hg0 hv0 0, hc0, hs0, (hrows a0.block a0.off (by simp [MemPlace.row])).1⟩
theorem errStar : "*" ++ "errors.errorString" = "*errors.errorString" := by decide
theorem errRow (u : TypeId) (h : Tryd.prog.typeName? 3 u = some "*errors.errorString") : u = 155 :=
  typeName_ptr_named (nm := "errors.errorString") (by rw [errStar]; kernel_rfl) (by kernel_rfl) (by decide) u (by rw [errStar]; exact h)
theorem errCells : Tryd.prog.cellsOf 172 = 1 := by kernel_rfl
theorem errCellsS : Tryd.prog.cellsOf 9 = 1 := by kernel_rfl
theorem errTexts : ∀ i, i < 18 → ∀ j, j < 18 → gsT.getD i [] = gsT.getD j [] → i = j := by decide +kernel

theorem gErrOff : Tryd.prog.globalNamed "phoenix/api.ErrOff" = some 3 := by kernel_rfl
theorem tErrOff : (Tryd.prog.globals[3]?).map (·.type) = some 39 := by kernel_rfl
theorem gErrRange : Tryd.prog.globalNamed "phoenix/api.ErrRange" = some 2 := by kernel_rfl
theorem tErrRange : (Tryd.prog.globals[2]?).map (·.type) = some 39 := by kernel_rfl
theorem gErrShort : Tryd.prog.globalNamed "phoenix/api.ErrShort" = some 4 := by kernel_rfl
theorem tErrShort : (Tryd.prog.globals[4]?).map (·.type) = some 39 := by kernel_rfl
theorem gErrRec : Tryd.prog.globalNamed "phoenix/api.ErrRec" = some 5 := by kernel_rfl
theorem tErrRec : (Tryd.prog.globals[5]?).map (·.type) = some 39 := by kernel_rfl
theorem gErrBlock : Tryd.prog.globalNamed "phoenix/api.ErrBlock" = some 6 := by kernel_rfl
theorem tErrBlock : (Tryd.prog.globals[6]?).map (·.type) = some 39 := by kernel_rfl
theorem gErrMaster : Tryd.prog.globalNamed "phoenix/api.ErrMaster" = some 7 := by kernel_rfl
theorem tErrMaster : (Tryd.prog.globals[7]?).map (·.type) = some 39 := by kernel_rfl
theorem gErrPage : Tryd.prog.globalNamed "phoenix/api.ErrPage" = some 8 := by kernel_rfl
theorem tErrPage : (Tryd.prog.globals[8]?).map (·.type) = some 39 := by kernel_rfl
theorem gErrLog : Tryd.prog.globalNamed "phoenix/api.ErrLog" = some 1 := by kernel_rfl
theorem tErrLog : (Tryd.prog.globals[1]?).map (·.type) = some 39 := by kernel_rfl
theorem gErrLogFull : Tryd.prog.globalNamed "phoenix/api.ErrLogFull" = some 0 := by kernel_rfl
theorem tErrLogFull : (Tryd.prog.globals[0]?).map (·.type) = some 39 := by kernel_rfl
theorem gErrFull : Tryd.prog.globalNamed "phoenix/api.ErrFull" = some 9 := by kernel_rfl
theorem tErrFull : (Tryd.prog.globals[9]?).map (·.type) = some 39 := by kernel_rfl
theorem gErrLocked : Tryd.prog.globalNamed "phoenix/api.ErrLocked" = some 10 := by kernel_rfl
theorem tErrLocked : (Tryd.prog.globals[10]?).map (·.type) = some 39 := by kernel_rfl
theorem gErrDeadlock : Tryd.prog.globalNamed "phoenix/api.ErrDeadlock" = some 11 := by kernel_rfl
theorem tErrDeadlock : (Tryd.prog.globals[11]?).map (·.type) = some 39 := by kernel_rfl
theorem gErrNoTxn : Tryd.prog.globalNamed "phoenix/api.ErrNoTxn" = some 12 := by kernel_rfl
theorem tErrNoTxn : (Tryd.prog.globals[12]?).map (·.type) = some 39 := by kernel_rfl
theorem gErrOpen : Tryd.prog.globalNamed "phoenix/api.ErrOpen" = some 13 := by kernel_rfl
theorem tErrOpen : (Tryd.prog.globals[13]?).map (·.type) = some 39 := by kernel_rfl
theorem gErrSave : Tryd.prog.globalNamed "phoenix/api.ErrSave" = some 14 := by kernel_rfl
theorem tErrSave : (Tryd.prog.globals[14]?).map (·.type) = some 39 := by kernel_rfl
theorem gErrBusy : Tryd.prog.globalNamed "phoenix/api.ErrBusy" = some 15 := by kernel_rfl
theorem tErrBusy : (Tryd.prog.globals[15]?).map (·.type) = some 39 := by kernel_rfl
theorem gErrLimit : Tryd.prog.globalNamed "phoenix/api.ErrLimit" = some 16 := by kernel_rfl
theorem tErrLimit : (Tryd.prog.globals[16]?).map (·.type) = some 39 := by kernel_rfl
theorem gErrClosed : Tryd.prog.globalNamed "phoenix/api.ErrClosed" = some 17 := by kernel_rfl
theorem tErrClosed : (Tryd.prog.globals[17]?).map (·.type) = some 39 := by kernel_rfl

theorem Sents.of_list {W : World} (al : List Addr) (h : ∀ i, i < 18 → ∃ s : ByteArray, W.cell? ⟨gsL.getD i 0, 0, none⟩ = some (.iface 155 (.pointer (some (al.getD i ⟨0, 0, none⟩)))) ∧ W.cell? (al.getD i ⟨0, 0, none⟩) = some (.string s) ∧ s.data.toList = gsT.getD i [] ∧ ∃ c t, W.heap[(al.getD i ⟨0, 0, none⟩).block]? = some (.cells c t (0, 0))) :
    Sents W (fun i => al.getD i ⟨0, 0, none⟩) := by
  refine ⟨fun i hi => (h i hi).choose_spec.1, fun i hi j hj he => ?_, fun i hi => (h i hi).choose_spec.2.2.2⟩
  obtain ⟨s, _, h2, h3, _⟩ := h i hi
  obtain ⟨t, _, k2, k3, _⟩ := h j hj
  refine errTexts i hi j hj ?_
  replace he : al.getD i ⟨0, 0, none⟩ = al.getD j ⟨0, 0, none⟩ := he
  rw [← h3, ← k3]
  rw [he, k2] at h2
  injection h2 with h2
  injection h2 with h2
  rw [h2]
theorem sents_of_laid {W : World} (hL : laidMetH Tryd.prog [("phoenix/api.ErrOff", Rows.laid_phoenix_api_ErrOff), ("phoenix/api.ErrRange", Rows.laid_phoenix_api_ErrRange), ("phoenix/api.ErrShort", Rows.laid_phoenix_api_ErrShort), ("phoenix/api.ErrRec", Rows.laid_phoenix_api_ErrRec), ("phoenix/api.ErrBlock", Rows.laid_phoenix_api_ErrBlock), ("phoenix/api.ErrMaster", Rows.laid_phoenix_api_ErrMaster), ("phoenix/api.ErrPage", Rows.laid_phoenix_api_ErrPage), ("phoenix/api.ErrLog", Rows.laid_phoenix_api_ErrLog), ("phoenix/api.ErrLogFull", Rows.laid_phoenix_api_ErrLogFull), ("phoenix/api.ErrFull", Rows.laid_phoenix_api_ErrFull), ("phoenix/api.ErrLocked", Rows.laid_phoenix_api_ErrLocked), ("phoenix/api.ErrDeadlock", Rows.laid_phoenix_api_ErrDeadlock), ("phoenix/api.ErrNoTxn", Rows.laid_phoenix_api_ErrNoTxn), ("phoenix/api.ErrOpen", Rows.laid_phoenix_api_ErrOpen), ("phoenix/api.ErrSave", Rows.laid_phoenix_api_ErrSave), ("phoenix/api.ErrBusy", Rows.laid_phoenix_api_ErrBusy), ("phoenix/api.ErrLimit", Rows.laid_phoenix_api_ErrLimit), ("phoenix/api.ErrClosed", Rows.laid_phoenix_api_ErrClosed)] W) : ∃ f, Sents W f := by
  rw [MakeChecks.laidMetH_plain _ _ _ (by kernel_rfl)] at hL
  obtain ⟨a0, s0, v0, c0, e0, k0⟩ := laid_sentinel' hL gErrOff tErrOff Tryd.underlying39 errRow Tryd.underlying155 Tryd.underlying172 rfl rfl Tryd.underlying9 errCells errCellsS
  have h1 := hL.tail
  obtain ⟨a1, s1, v1, c1, e1, k1⟩ := laid_sentinel' h1 gErrRange tErrRange Tryd.underlying39 errRow Tryd.underlying155 Tryd.underlying172 rfl rfl Tryd.underlying9 errCells errCellsS
  have h2 := h1.tail
  obtain ⟨a2, s2, v2, c2, e2, k2⟩ := laid_sentinel' h2 gErrShort tErrShort Tryd.underlying39 errRow Tryd.underlying155 Tryd.underlying172 rfl rfl Tryd.underlying9 errCells errCellsS
  have h3 := h2.tail
  obtain ⟨a3, s3, v3, c3, e3, k3⟩ := laid_sentinel' h3 gErrRec tErrRec Tryd.underlying39 errRow Tryd.underlying155 Tryd.underlying172 rfl rfl Tryd.underlying9 errCells errCellsS
  have h4 := h3.tail
  obtain ⟨a4, s4, v4, c4, e4, k4⟩ := laid_sentinel' h4 gErrBlock tErrBlock Tryd.underlying39 errRow Tryd.underlying155 Tryd.underlying172 rfl rfl Tryd.underlying9 errCells errCellsS
  have h5 := h4.tail
  obtain ⟨a5, s5, v5, c5, e5, k5⟩ := laid_sentinel' h5 gErrMaster tErrMaster Tryd.underlying39 errRow Tryd.underlying155 Tryd.underlying172 rfl rfl Tryd.underlying9 errCells errCellsS
  have h6 := h5.tail
  obtain ⟨a6, s6, v6, c6, e6, k6⟩ := laid_sentinel' h6 gErrPage tErrPage Tryd.underlying39 errRow Tryd.underlying155 Tryd.underlying172 rfl rfl Tryd.underlying9 errCells errCellsS
  have h7 := h6.tail
  obtain ⟨a7, s7, v7, c7, e7, k7⟩ := laid_sentinel' h7 gErrLog tErrLog Tryd.underlying39 errRow Tryd.underlying155 Tryd.underlying172 rfl rfl Tryd.underlying9 errCells errCellsS
  have h8 := h7.tail
  obtain ⟨a8, s8, v8, c8, e8, k8⟩ := laid_sentinel' h8 gErrLogFull tErrLogFull Tryd.underlying39 errRow Tryd.underlying155 Tryd.underlying172 rfl rfl Tryd.underlying9 errCells errCellsS
  have h9 := h8.tail
  obtain ⟨a9, s9, v9, c9, e9, k9⟩ := laid_sentinel' h9 gErrFull tErrFull Tryd.underlying39 errRow Tryd.underlying155 Tryd.underlying172 rfl rfl Tryd.underlying9 errCells errCellsS
  have h10 := h9.tail
  obtain ⟨a10, s10, v10, c10, e10, k10⟩ := laid_sentinel' h10 gErrLocked tErrLocked Tryd.underlying39 errRow Tryd.underlying155 Tryd.underlying172 rfl rfl Tryd.underlying9 errCells errCellsS
  have h11 := h10.tail
  obtain ⟨a11, s11, v11, c11, e11, k11⟩ := laid_sentinel' h11 gErrDeadlock tErrDeadlock Tryd.underlying39 errRow Tryd.underlying155 Tryd.underlying172 rfl rfl Tryd.underlying9 errCells errCellsS
  have h12 := h11.tail
  obtain ⟨a12, s12, v12, c12, e12, k12⟩ := laid_sentinel' h12 gErrNoTxn tErrNoTxn Tryd.underlying39 errRow Tryd.underlying155 Tryd.underlying172 rfl rfl Tryd.underlying9 errCells errCellsS
  have h13 := h12.tail
  obtain ⟨a13, s13, v13, c13, e13, k13⟩ := laid_sentinel' h13 gErrOpen tErrOpen Tryd.underlying39 errRow Tryd.underlying155 Tryd.underlying172 rfl rfl Tryd.underlying9 errCells errCellsS
  have h14 := h13.tail
  obtain ⟨a14, s14, v14, c14, e14, k14⟩ := laid_sentinel' h14 gErrSave tErrSave Tryd.underlying39 errRow Tryd.underlying155 Tryd.underlying172 rfl rfl Tryd.underlying9 errCells errCellsS
  have h15 := h14.tail
  obtain ⟨a15, s15, v15, c15, e15, k15⟩ := laid_sentinel' h15 gErrBusy tErrBusy Tryd.underlying39 errRow Tryd.underlying155 Tryd.underlying172 rfl rfl Tryd.underlying9 errCells errCellsS
  have h16 := h15.tail
  obtain ⟨a16, s16, v16, c16, e16, k16⟩ := laid_sentinel' h16 gErrLimit tErrLimit Tryd.underlying39 errRow Tryd.underlying155 Tryd.underlying172 rfl rfl Tryd.underlying9 errCells errCellsS
  have h17 := h16.tail
  obtain ⟨a17, s17, v17, c17, e17, k17⟩ := laid_sentinel' h17 gErrClosed tErrClosed Tryd.underlying39 errRow Tryd.underlying155 Tryd.underlying172 rfl rfl Tryd.underlying9 errCells errCellsS
  refine ⟨_, Sents.of_list [a0, a1, a2, a3, a4, a5, a6, a7, a8, a9, a10, a11, a12, a13, a14, a15, a16, a17] fun i hi => ?_⟩
  match i, hi with
  | 0, _ => exact ⟨s0, v0, c0, e0, k0⟩
  | 1, _ => exact ⟨s1, v1, c1, e1, k1⟩
  | 2, _ => exact ⟨s2, v2, c2, e2, k2⟩
  | 3, _ => exact ⟨s3, v3, c3, e3, k3⟩
  | 4, _ => exact ⟨s4, v4, c4, e4, k4⟩
  | 5, _ => exact ⟨s5, v5, c5, e5, k5⟩
  | 6, _ => exact ⟨s6, v6, c6, e6, k6⟩
  | 7, _ => exact ⟨s7, v7, c7, e7, k7⟩
  | 8, _ => exact ⟨s8, v8, c8, e8, k8⟩
  | 9, _ => exact ⟨s9, v9, c9, e9, k9⟩
  | 10, _ => exact ⟨s10, v10, c10, e10, k10⟩
  | 11, _ => exact ⟨s11, v11, c11, e11, k11⟩
  | 12, _ => exact ⟨s12, v12, c12, e12, k12⟩
  | 13, _ => exact ⟨s13, v13, c13, e13, k13⟩
  | 14, _ => exact ⟨s14, v14, c14, e14, k14⟩
  | 15, _ => exact ⟨s15, v15, c15, e15, k15⟩
  | 16, _ => exact ⟨s16, v16, c16, e16, k16⟩
  | 17, _ => exact ⟨s17, v17, c17, e17, k17⟩
  | i + 18, hi => exact absurd hi (by omega)
end Go.Proofs.YtoapihepdallbaaDoor
