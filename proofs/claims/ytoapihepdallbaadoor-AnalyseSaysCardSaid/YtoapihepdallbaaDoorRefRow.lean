/- The document's copy of a row of records. -/
import Derived.Test.YtoapihepdallbaaDoorWal1
import Derived.Test.YtoapihepdallbaaDoorRefT
namespace Go.Proofs.YtoapihepdallbaaDoor
open Go.RowKit

/-- A row of records in new memory, all else as it was. -/
def FreshR (l : List RecD) (w : World) (e : Ending) (w' : World) : Prop :=
  ∃ v', e = .returned v' ∧ Own encR 10 51 w.heap.size w' v' l ∧ Below w.heap.size w w'

set_option maxHeartbeats 1000000 in
theorem recCopy_any (w : World) (base : Nat) (v : Value) (l : List RecD) (hown : Own encR 10 51 base w v l) (hlen : l.length ≤ 1000000) :
    Calls Tryd.prog 47 #[v] w (FreshR l w) := by
  obtain ⟨i0, hi, hz0, hz1, hz2⟩ := info_parts infoCloR
  obtain ⟨A, cap, rfl, hnc, hcm⟩ := hown.slice
  obtain ⟨n, hn⟩ : ∃ n, l.length = n := ⟨_, rfl⟩
  rw [hn] at hown hlen hnc ⊢
  have HN := Sc.mk hn
  have HO := Sc.mk hown
  clear hown hn
  go_enter Tryd.func47, Tryd.ntmps47
  go_wp2_with (at_make; refine wpList_make_own _ rfl _ _ 25 rfl w.heap.size 51 i0 (.agg #[.int .i64 0, .int .i64 0, .int .i64 0, .int .i64 0, .int .i64 0, .int .i64 0, .bool false, .bool false, .int .i64 0, .int .i64 0]) 10 Tryd.underlying25 hi hz0 hz1 .i64 .i64 _ n rfl rfl rfl ?b1 ?b2 (Nat.le_refl _) ?_)
  case b1 => rw [hz2]; omega
  case b2 => unfold maxLen; omega
  intro w1 hown1 hg1
  have HO1 : Sc (Own encR 10 51 w.heap.size w1 (.slice (some ⟨w.heap.size, 0, none⟩) 0 n) ([] : List RecD)) := ⟨hown1⟩
  have HB1 : Sc (Below w.heap.size w w1) := ⟨grown_below hg1⟩
  clear hown1 hg1
  go_wp2
  go_loopg [3, 4] n (fun kx s3 s4 wr => ∃ i : Nat, s4 = .int .i64 i ∧ i ≤ n ∧ n - i ≤ kx ∧ Sc (Below w.heap.size w wr) ∧ Sc (Own encR 10 51 w.heap.size wr s3 (l.take i)))
  case atStart => exact ⟨0, rfl, by omega, by omega, HB1, ⟨by rw [List.take_zero]; exact HO1.out⟩⟩
  case round =>
    obtain ⟨i, rfl, hin, hg, HB, HR⟩ := hrel
    by_cases hlt : i < n
    · obtain ⟨x, hx⟩ : ∃ x, l[i]? = some x := ⟨_, List.getElem?_eq_getElem (by rw [HN.out]; exact hlt)⟩
      obtain ⟨g, c2, he, _, _, _, _⟩ := HO.out.form (by rw [HN.out]; omega)
      injection he with hA hn2 hC
      subst hA
      have HO2 := HO.out.below HB.out
      obtain ⟨c0, c1, c2, c3, c4, c5, c6, c7, c8, c9⟩ := HO2.cellsR hx
      have hnext : l.take (i + 1) = l.take i ++ [x] := by rw [List.take_add_one, hx]; rfl
      have HX := Sc.mk hnext
      have HT : Sc ((l.take i).length = i) := ⟨by rw [List.length_take, HN.out]; omega⟩
      have hil : (i : Int) < n := by omega
      clear hx HO2 hnext hn2 hC
      go_wp2_with (at_builtin; go_loud (refine wpList_append_own_at _ rfl (.tmp 14) (.tmp 19) 25 rfl w.heap.size 51 i0 (.agg #[.int .i64 0, .int .i64 0, .int .i64 0, .int .i64 0, .int .i64 0, .int .i64 0, .bool false, .bool false, .int .i64 0, .int .i64 0]) 10 72 Tryd.underlying25 hi hz0 hz1 hz2 rfl (by decide) _ (l.take i).length (flat encR (l.take i)) rfl (HR.out.alloc _) _ 1 1 (encR x) rfl rfl ?c1 ?c2 ?c3 ?c4 ?c5 ?_))
      case c1 => exact World.news_of_block (heap_alloc_new _ _)
      case c2 => exact kindR.one x
      case c3 => rw [HT.out]; unfold maxLen; omega
      case c4 => rw [HT.out]; omega
      case c5 => have := HB.out.size; simp; omega
      intro v1 w2 h1 h2 h3 h4
      have H1 : Sc (Own encR 10 51 w.heap.size w2 v1 (l.take (i + 1))) := ⟨by
        rw [HX.out]
        unfold Own
        rw [flat_append, flat_single, List.length_append, List.length_take]
        exact h1⟩
      have H2 : Sc (Below w.heap.size w w2) := ⟨(HB.out.alloc HB.out.size _).grown h2 (by have := HB.out.size; simp; omega) (fun k hk => (HR.out.lt k hk).1)⟩
      clear h1 h2 h3 h4 HR HB c0 c1 c2 c3 c4 c5 c6 c7 c8 c9
      go_wp2
      go_roundg (n - (i + 1))
      case measure => omega
      case rel => exact ⟨i + 1, by go_num, by omega, Nat.le_refl _, H2, H1⟩
    · obtain rfl : i = n := by omega
      have HE : Sc (l.take i = l) := ⟨by rw [← HN.out, List.take_length]⟩
      go_wp2
      go_ret
      exact ⟨_, rfl, by have := HR.out; rwa [HE.out] at this, HB.out⟩

end Go.Proofs.YtoapihepdallbaaDoor
