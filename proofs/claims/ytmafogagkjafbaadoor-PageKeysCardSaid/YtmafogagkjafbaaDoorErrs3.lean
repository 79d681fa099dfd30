/- Three of the errors of package api, out of the condition on them. -/
import Derived.Test.YtmafogagkjafbaaDoorCheck
namespace Go.Proofs.YtmafogagkjafbaaDoor
open Go.RowKit Go.ChangeShapes

theorem errs_of_laid {W : World} (hL : laidMetH Tryd.prog [("phoenix/api.ErrRange", Rows.laid_phoenix_api_ErrRange), ("phoenix/api.ErrShort", Rows.laid_phoenix_api_ErrShort), ("phoenix/api.ErrPage", Rows.laid_phoenix_api_ErrPage)] W) : ∃ f, Errs W f := by
  rw [MakeChecks.laidMetH_plain _ _ _ (by kernel_rfl)] at hL
  obtain ⟨a1, s1, v1, c1, e1, k1⟩ := laid_sentinel' hL gErrRange tErrRange Tryd.underlying36 errRow Tryd.underlying117 Tryd.underlying135 rfl rfl Tryd.underlying9 errCells errCellsS
  have h2 := hL.tail
  obtain ⟨a2, s2, v2, c2, e2, k2⟩ := laid_sentinel' h2 gErrShort tErrShort Tryd.underlying36 errRow Tryd.underlying117 Tryd.underlying135 rfl rfl Tryd.underlying9 errCells errCellsS
  have h3 := h2.tail
  obtain ⟨a3, s3, v3, c3, e3, k3⟩ := laid_sentinel' h3 gErrPage tErrPage Tryd.underlying36 errRow Tryd.underlying117 Tryd.underlying135 rfl rfl Tryd.underlying9 errCells errCellsS
  exact ⟨fun i => if i = 1 then a1 else if i = 2 then a2 else a3, v1, v2, v3⟩
end Go.Proofs.YtmafogagkjafbaaDoor
