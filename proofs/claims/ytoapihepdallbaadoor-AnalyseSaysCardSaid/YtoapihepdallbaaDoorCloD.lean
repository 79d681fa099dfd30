/- slices.Clone, at rows of pairs (page, from). -/
import Derived.Test.YtoapihepdallbaaDoorLib
import Derived.Test.YtoapihepdallbaaDoorProg
namespace Go.Proofs.YtoapihepdallbaaDoor
open Go.RowKit

theorem infoCloD : (Tryd.prog.info? 58).map (fun i => (i.zero, i.size, i.bytes)) = some (some (.agg #[.int .i64 0, .int .i64 0]), 2, 16) := by kernel_rfl

/-- A row in new memory, all else as it was. -/
def FreshD (l : List (Int × Int)) (w : World) (e : Ending) (w' : World) : Prop :=
  ∃ v', e = .returned v' ∧ Own enc2 2 58 w.heap.size w' v' l ∧ Below w.heap.size w w'

set_option maxHeartbeats 1000000 in
theorem dirtyClone_any (w : World) (base : Nat) (v : Value) (l : List (Int × Int)) (hown : Own enc2 2 58 base w v l) (hlen : l.length ≤ 1000000) :
    Calls Tryd.prog 52 #[v] w (FreshD l w) := by
  obtain ⟨i0, hi, hz0, hz1, hz2⟩ := info_parts infoCloD
  rcases hown.2 with ⟨rfl, h0⟩ | ⟨g, cap, cur, rfl, hb, hg, hn, hc, hs, ht⟩
  · obtain rfl : l = [] := List.eq_nil_of_length_eq_zero h0
    clear hown
    have he := fun (W : World) => Lib.run_eql_slice_nil (P := Tryd.prog) W 35 58 none 0 0 0 0 Tryd.underlying35
    go_enter Tryd.func52, Tryd.ntmps52
    go_wp2
    go_ret
    exact ⟨_, rfl, Own.nil, Below.refl _ _⟩
  · have hn0 : l.length ≤ maxLen := by unfold maxLen; omega
    have he := fun (W : World) => Lib.run_eql_slice_nil (P := Tryd.prog) W 35 58 (some ⟨g, 0, none⟩) l.length cap 0 0 Tryd.underlying35
    have HE : Sc ((w.alloc (.cells #[] 58)).ownsRow w.heap.size 58 2 (.slice (some ⟨w.heap.size, 0, none⟩) 0 0) 0 []) := ⟨World.ownsRow_made w #[] 0 (Nat.le_refl _) (by unfold maxLen; omega) rfl⟩
    have HN : Sc (∀ j u, (flat enc2 l)[j]? = some u → (w.alloc (.cells #[] 58)).cell? ((⟨g, 0, none⟩ : Addr).add j) = some u) := ⟨by
      have h := (World.ownsRow.alloc hown (.cells #[] 58)).cells (g := g) rfl
      exact h⟩
    clear hown hg ht hs
    go_enter Tryd.func52, Tryd.ntmps52
    go_wp2_with (at_builtin; go_loud (refine wpList_append_own_at _ rfl (.tmp 5) (.tmp 6) 35 rfl w.heap.size 58 i0 (.agg #[.int .i64 0, .int .i64 0]) 2 16 Tryd.underlying35 hi hz0 hz1 hz2 rfl (by decide) _ 0 [] rfl HE.out ⟨g, 0, none⟩ l.length cap (flat enc2 l) rfl (kind2.flat_length l) HN.out (kind2.flat_one l) ?c3 ?c4 ?c5 ?_))
    case c3 => rw [Nat.zero_add]; exact hn0
    case c4 => omega
    case c5 => simp
    intro v' w' h1 h2 h3 h4
    have H1 : Sc (Own enc2 2 58 w.heap.size w' v' l) := ⟨h1⟩
    have H2 : Sc (Below w.heap.size w w') := ⟨((Below.refl _ _).alloc (Nat.le_refl _) _).grown h2 (by simp) (fun k hk => by simp [Value.ownBlock] at hk; omega)⟩
    clear h1 h2 h3 h4
    go_wp2
    go_ret
    exact ⟨_, rfl, H1.out, H2.out⟩
end Go.Proofs.YtoapihepdallbaaDoor
