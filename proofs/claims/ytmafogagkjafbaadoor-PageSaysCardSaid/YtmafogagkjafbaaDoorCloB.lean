/- slices.Clone, at rows of bytes. -/
import Derived.Test.YtmafogagkjafbaaDoorBytes0
import Derived.Test.YtmafogagkjafbaaDoorProg
namespace Go.Proofs.YtmafogagkjafbaaDoor
open Go.RowKit

theorem infoCloB : (Tryd.prog.info? 5).map (fun i => (i.zero, i.size, i.bytes)) = some (some (.int .u8 0), 1, 1) := by kernel_rfl

/-- A row in new memory, all else as it was. -/
def FreshB (l : List (Int)) (w : World) (e : Ending) (w' : World) : Prop :=
  ∃ v', e = .returned v' ∧ Own encB 1 5 w.heap.size w' v' l ∧ Below w.heap.size w w'

set_option maxRecDepth 4000 in
set_option maxHeartbeats 1000000 in
theorem byteClone_any (w : World) (base : Nat) (v : Value) (l : List (Int)) (hown : Own encB 1 5 base w v l) (hlen : l.length ≤ 1000000) :
    Calls Tryd.prog 59 #[v] w (FreshB l w) := by
  obtain ⟨i0, hi, hz0, hz1, hz2⟩ := info_parts infoCloB
  rcases hown.2 with ⟨rfl, h0⟩ | ⟨g, cap, cur, rfl, hb, hg, hn, hc, hs, ht⟩
  · obtain rfl : l = [] := List.eq_nil_of_length_eq_zero h0
    clear hown
    have he := fun (W : World) => Lib.run_eql_slice_nil (P := Tryd.prog) W 61 5 none 0 0 0 0 Tryd.underlying61
    go_enter Tryd.func59, Tryd.ntmps59
    go_wp2
    go_ret
    exact ⟨_, rfl, Own.nil, Below.refl _ _⟩
  · have hn0 : l.length ≤ maxLen := by unfold maxLen; omega
    have he := fun (W : World) => Lib.run_eql_slice_nil (P := Tryd.prog) W 61 5 (some ⟨g, 0, none⟩) l.length cap 0 0 Tryd.underlying61
    have HE : Sc ((w.alloc (.cells #[] 5)).ownsRow w.heap.size 5 1 (.slice (some ⟨w.heap.size, 0, none⟩) 0 0) 0 []) := ⟨World.ownsRow_made w #[] 0 (Nat.le_refl _) (by unfold maxLen; omega) rfl⟩
    have HN : Sc (∀ j u, (flat encB l)[j]? = some u → (w.alloc (.cells #[] 5)).cell? ((⟨g, 0, none⟩ : Addr).add j) = some u) := ⟨by
      have h := (World.ownsRow.alloc hown (.cells #[] 5)).cells (g := g) rfl
      exact h⟩
    clear hown hg ht hs
    go_enter Tryd.func59, Tryd.ntmps59
    go_wp2_with (at_builtin; go_loud (refine wpList_append_own_at _ rfl (.tmp 5) (.tmp 6) 61 rfl w.heap.size 5 i0 (.int .u8 0) 1 1 Tryd.underlying61 hi hz0 hz1 hz2 rfl (by decide) _ 0 [] rfl HE.out ⟨g, 0, none⟩ l.length cap (flat encB l) rfl (kindB.flat_length l) HN.out (kindB.flat_one l) ?c3 ?c4 ?c5 ?_))
    case c3 => rw [Nat.zero_add]; exact hn0
    case c4 => omega
    case c5 => simp
    intro v' w' h1 h2 h3 h4
    have H1 : Sc (Own encB 1 5 w.heap.size w' v' l) := ⟨h1⟩
    have H2 : Sc (Below w.heap.size w w') := ⟨((Below.refl _ _).alloc (Nat.le_refl _) _).grown h2 (by simp) (fun k hk => by simp [Value.ownBlock] at hk; omega)⟩
    clear h1 h2 h3 h4
    go_wp2
    go_ret
    exact ⟨_, rfl, H1.out, H2.out⟩
end Go.Proofs.YtmafogagkjafbaaDoor
