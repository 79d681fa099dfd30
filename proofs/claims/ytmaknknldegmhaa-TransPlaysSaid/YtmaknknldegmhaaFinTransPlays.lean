/- For every list of phoenixlaw14.Do TransPlays returns true and leaves its argument as it was; no condition. -/
import Derived.Test.YtmaknknldegmhaaRows
import Derived.WalkKit
import Derived.ProofKit
import Derived.OpenShut
import Derived.ShutString
import Derived.ChangeOld
import Derived.Below
import Derived.Test.YtmaknknldegmhaaLawTransPlays
namespace Go.Proofs.Ytmaknknldegmhaa.transPlays
open Go.ChangeShapes Go.WideShapes Go.ChangeAt Go.RowKit
open Go.ChangeMaps (open_string shut_string)
set_option linter.unusedVariables false

theorem own : ownKnob Try.prog.godebug = none := by kernel_rfl
theorem laidOut : laidOutB Try.prog = true := by kernel_rfl

theorem walk (a0 : Option Addr) (len0 cap0 : Nat) (w : World) (w0 : IsRecs 4 w a0 len0) :
    Calls Try.prog 11 #[.slice a0 len0 cap0] w fun e w' => e = .returned (.bool true) ∧ Below w.heap.size w w' := by
  exact transPlays_walk a0 len0 cap0 w w0

set_option maxRecDepth 100000 in
theorem lifted (os : Os) (started : os.Started) (H : Type) (enc : TypeId × Value → H) :
    ReturnsInHanded {} Try.checked os 11 .any (Rows.transPlaysSpec.pre6 enc Try.prog Try.f11 Rows.transPlaysRow.domain false) (Rows.transPlaysSpec.post enc Try.prog Try.f11 false true false false) := by
  refine returnsInHanded_of_change (C := Try.checked) own started (by kernel_rfl) Try.func11
    (ChangeSpec.witness6 (enc := enc) (C := Try.checked) false ⟨#[], #[.slice none 0 0], []⟩ 8 (by kernel_rfl) (by kernel_rfl) (by kernel_rfl) (by kernel_rfl)) ?_
  intro W base args ds gs before hval0 hW hcnd _
  have hval : ∀ (j : Nat) t v, Try.f11.params[j]? = some t → args[j]? = some v → Value.okWide Try.prog W .any base t v := hval0
  have hW' := hW
  obtain ⟨p, q, hA0, hV, rfl, hfz, hnd⟩ := hW
  have hA : DataW.TrodAll enc Try.prog W 0 (fun _ => true) true Try.f11.params.toList args.toList ds p := hA0
  rw [Try.params11] at hA hval
  obtain ⟨v0, vs0, d0, ds0, p0, q0, hargs, rfl, rfl, h0, r0⟩ := trodAll_cons hA
  obtain ⟨rfl, rfl, rfl⟩ := trodAll_nil r0
  obtain rfl : args = #[v0] := by cases args; simp_all
  obtain ⟨rfl, rfl⟩ := trodVars_none hV
  obtain ⟨a0, len0, cap0, rfl⟩ := okWide_slice Try.underlying60 (hval 0 60 v0 rfl rfl)
  have k0 := h0
  have lt0 : ∀ x ∈ p0, x.block < W.heap.size := by obtain ⟨m, hm⟩ := k0; exact DataW.trod_lt m _ _ _ hm
  have w0 : IsRecs 4 W a0 len0 := by
    obtain ⟨fuel, hf⟩ := h0
    refine open_recs (by omega) Try.underlying60 (show Try.prog.cellsOf 64 = 4 by kernel_rfl) (fun n cs x h => ?_) (by simpa [Value.cells] using hf)
    obtain ⟨xs, m, _, _, hl, hx, hi⟩ := DataW.trod_struct Try.underlying64 h
    have hc2 : Try.prog.cellsOf 64 = 4 := by kernel_rfl
    rw [hc2] at hl
    simp at hx
    match cs, hl with
    | [u0, u1, u2, u3], _ =>
      have e0 := hi 0 _ rfl
      have e1 := hi 1 _ rfl
      have e2 := hi 2 _ rfl
      have e3 := hi 3 _ rfl
      simp only [List.getElem?_eq_getElem (show 0 < xs.length by omega), List.getElem?_eq_getElem (show 1 < xs.length by omega), List.getElem?_eq_getElem (show 2 < xs.length by omega), List.getElem?_eq_getElem (show 3 < xs.length by omega)] at e0 e1 e2 e3
      obtain ⟨a, ha, _, _⟩ := DataW.trod_int Try.underlying3 e0
      obtain ⟨b, hb, _, _⟩ := DataW.trod_int Try.underlying3 e1
      obtain ⟨c, hc, _, _⟩ := DataW.trod_int Try.underlying3 e2
      obtain ⟨d, hd, _, _⟩ := DataW.trod_int Try.underlying3 e3
      injection ha with ha
      injection hb with hb
      injection hc with hc
      injection hd with hd
      exact ⟨[a, b, c, d], rfl, by rw [ha, hb, hc, hd]; rfl⟩
  clear hA0 hval0
  refine (walk a0 len0 cap0 W w0).mono fun e W' ⟨he, bel⟩ => ?_
  subst he
  exact ⟨_, rfl, _, _, _, [], _, [], hW', trodAll_mk1 (shut_bool Try.underlying4 _), (trodAll_cons_mk (Below.trod laidOut (by kernel_rfl) (of_decide_eq_true (by kernel_rfl)) k0 bel lt0) trodAll_mk0), rfl, bel.frame _, fun h => by cases h⟩

theorem over : Rows.transPlaysRow.holds Try.pinned (OpenSpec.ofChange Rows.transPlaysSpec) :=
  OpenClaim.holds_of_wide 11 Try.f11 rfl rfl rfl rfl rfl rfl rfl ⟨rfl, rfl, rfl, rfl, rfl⟩ rfl rfl rfl rfl rfl (by kernel_rfl) Try.func11 (by kernel_rfl)
    (of_decide_eq_true (by kernel_rfl)) (by unfold Func.isWrapper; first | (rw [if_pos (by decide +kernel)]; kernel_rfl) | (rw [if_neg (by decide +kernel)]; exact ⟨rfl, rfl⟩))
    (fun os started H enc _ => lifted os started H enc)

theorem proved : Rows.TransPlaysSaid := over
#print axioms proved
end Go.Proofs.Ytmaknknldegmhaa.transPlays
