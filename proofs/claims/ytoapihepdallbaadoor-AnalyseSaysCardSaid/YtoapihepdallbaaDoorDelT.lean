/- slices.Delete of one element, at rows of four ints (transactions). -/
import Derived.Test.YtoapihepdallbaaDoorLib
import Derived.Test.YtoapihepdallbaaDoorProg
namespace Go.Proofs.YtoapihepdallbaaDoor
open Go.RowKit

theorem infoDelT : (Tryd.prog.info? 56).map (fun i => (i.zero, i.size, i.bytes)) = some (some (.agg #[.int .i64 0, .int .i64 0, .int .i64 0, .int .i64 0]), 4, 32) := by kernel_rfl

/-- The list pulled one place down. -/
theorem lay_pullT {cur : Array Value} {l : List (Int × Int × Int × Int)} {cap k m : Nat} (zs : List Value) (hs : cur.size = cap * 4) (ht : cur.toList.take ((m + 1) * 4) = flat enc4 l) (hl : l.length = m + 1) (hk : k ≤ m) (hn : m + 1 ≤ cap) (hz : zs.length = 4) :
    (lay (lay cur.toList (k * 4) (flat enc4 (l.drop (k + 1)))) (m * 4) zs).take (m * 4) = flat enc4 (l.take k ++ l.drop (k + 1)) := by
  have h1 : (flat enc4 (l.drop (k + 1))).length = (m - k) * 4 := by rw [kind4.flat_length, List.length_drop, hl]; congr 1; omega
  have hcl : cur.toList.length = cap * 4 := by rw [Array.length_toList, hs]
  have hl1 : (lay cur.toList (k * 4) (flat enc4 (l.drop (k + 1)))).length = cap * 4 := by rw [lay_length (by omega), hcl]
  have h3 : (flat enc4 (l.take k)).length = k * 4 := by rw [kind4.flat_length, List.length_take]; congr 1; omega
  rw [flat_append]
  apply List.ext_getElem?
  intro j
  rw [List.getElem?_take]
  by_cases hj : j < m * 4
  · rw [if_pos hj, lay_get _ _ _ (by omega), if_pos (by omega), lay_get _ _ _ (by omega)]
    by_cases c1 : j < k * 4
    · rw [if_pos c1, List.getElem?_append_left (by omega), ← kind4.flat_take l k, List.getElem?_take, if_pos c1, ← ht, List.getElem?_take, if_pos (by omega)]
    · rw [if_neg c1, if_pos (by omega), List.getElem?_append_right (by omega), h3]
  · rw [if_neg hj, List.getElem?_eq_none (by simp only [List.length_append]; omega)]

set_option maxRecDepth 4000 in
set_option maxHeartbeats 2000000 in
theorem txnDelete_any (w : World) (base g cap m : Nat) (l : List (Int × Int × Int × Int)) (k : Nat) (hown : Own enc4 4 56 base w (.slice (some ⟨g, 0, none⟩) (m + 1) cap) l) (hlen : m ≤ 1000000) (hk : k ≤ m) :
    Calls Tryd.prog 83 #[.slice (some ⟨g, 0, none⟩) (m + 1) cap, .int .i64 k, .int .i64 ((k : Int) + 1)] w fun e w' =>
      e = .returned (.slice (some ⟨g, 0, none⟩) m cap) ∧ Own enc4 4 56 base w' (.slice (some ⟨g, 0, none⟩) m cap) (l.take k ++ l.drop (k + 1)) ∧ w.grownBy w' (some g) := by
  obtain ⟨i0, hi, hz0, hz1, hz2⟩ := info_parts infoDelT
  obtain ⟨cur, hg, hbg, hl, hn, hcm, hs, ht⟩ := hown.block
  have hcl0 : cur.toList.length = cap * 4 := by rw [Array.length_toList, hs]
  have hcl : (flat enc4 (l.drop (k + 1))).length = (m - k) * 4 := by rw [kind4.flat_length, List.length_drop, hl]; congr 1; omega
  obtain ⟨A, hA, hAc⟩ : ∃ A, (if cap = k + 1 then some (⟨g, 0, none⟩ : Addr) else some ⟨g, (k + 1) * 4, none⟩) = some A ∧ ∀ j u, (flat enc4 (l.drop (k + 1)))[j]? = some u → w.drew.cell? (A.add j) = some u := by
    by_cases hc : cap = k + 1
    · refine ⟨⟨g, 0, none⟩, by rw [if_pos hc], fun j u hj => ?_⟩
      rw [List.getElem?_eq_none (by rw [hcl, show m - k = 0 by omega]; omega)] at hj
      cases hj
    · refine ⟨⟨g, (k + 1) * 4, none⟩, by rw [if_neg hc], fun j u hj => ?_⟩
      have ha : (⟨g, (k + 1) * 4, none⟩ : Addr).add j = ⟨g, (k + 1) * 4 + j, none⟩ := by unfold Addr.add; split <;> simp_all
      rw [ha]
      have hd := kind4.flat_drop l (k + 1)
      rw [← hd, List.getElem?_drop, ← ht, List.getElem?_take] at hj
      split at hj
      · simp only [World.cell?, World.drew, hg]
        simpa using hj
      · cases hj
  have hap : ∀ ty, (Builtin.append_ #[34, 34] ty #[.slice (some ⟨g, 0, none⟩) k cap, .slice (some A) (m - k) (cap - (k + 1))]).run Tryd.prog w.drew = .ok (.slice (some ⟨g, 0, none⟩) m cap) (w.drew.setRow g (lay cur.toList (k * 4) (flat enc4 (l.drop (k + 1)))).toArray) := fun ty => by
    have h := run_append_room (P := Tryd.prog) w.drew 34 ty 56 i0 Tryd.underlying34 hi g k cap cur hg A (m - k) (cap - (k + 1)) (flat enc4 (l.drop (k + 1))) (by rw [hcl, hz1]) hAc (kind4.flat_one _) (by omega) (by rw [hcl, hz1, hs]; omega)
    rw [hz1, show k + (m - k) = m by omega] at h
    exact h
  obtain ⟨W1, hW1⟩ : ∃ W1, W1 = w.drew.setRow g (lay cur.toList (k * 4) (flat enc4 (l.drop (k + 1)))).toArray := ⟨_, rfl⟩
  rw [← hW1] at hap
  have hg1 : W1.heap[g]? = some (.cells (lay cur.toList (k * 4) (flat enc4 (l.drop (k + 1)))).toArray 56 (0, 0)) := by rw [hW1]; exact setRow_heap w.drew g cur _ _ _ hg
  have hl1 : (lay cur.toList (k * 4) (flat enc4 (l.drop (k + 1)))).length = cap * 4 := by rw [lay_length (by rw [hcl, hcl0]; omega), hcl0]
  have hzl : (Builtin.zeroCells (.agg #[.int .i64 0, .int .i64 0, .int .i64 0, .int .i64 0] : Value).cells 1).toList.length = 4 := by rw [Array.length_toList, size_zeroCells]; rfl
  have hclr : ∀ ty c, (Builtin.clear_ #[34] ty #[.slice (some ⟨g, m * 4, none⟩) 1 c]).run Tryd.prog W1 = .ok (.tuple #[]) (W1.setRow g (lay (lay cur.toList (k * 4) (flat enc4 (l.drop (k + 1)))) (m * 4) (Builtin.zeroCells (.agg #[.int .i64 0, .int .i64 0, .int .i64 0, .int .i64 0] : Value).cells 1).toList).toArray) := fun ty c =>
    run_clear_own W1 _ ty 56 56 i0 (.agg #[.int .i64 0, .int .i64 0, .int .i64 0, .int .i64 0]) Tryd.underlying34 hi hz0 g (m * 4) _ hg1 1 c (by omega) (zeroCells_one (by decide) (by decide) 1) (by rw [hzl, List.size_toArray, hl1]; omega)
  obtain ⟨W2, hW2⟩ : ∃ W2, W2 = W1.setRow g (lay (lay cur.toList (k * 4) (flat enc4 (l.drop (k + 1)))) (m * 4) (Builtin.zeroCells (.agg #[.int .i64 0, .int .i64 0, .int .i64 0, .int .i64 0] : Value).cells 1).toList).toArray := ⟨_, rfl⟩
  rw [← hW2] at hclr
  have HG2 : Sc (Own enc4 4 56 base W2 (.slice (some ⟨g, 0, none⟩) m cap) (l.take k ++ l.drop (k + 1))) := ⟨by
    refine Own.of_block (cur := (lay (lay cur.toList (k * 4) (flat enc4 (l.drop (k + 1)))) (m * 4) (Builtin.zeroCells (.agg #[.int .i64 0, .int .i64 0, .int .i64 0, .int .i64 0] : Value).cells 1).toList).toArray) ?_ hbg kind4 ?_ (by omega) hcm ?_ ?_
    · rw [hW2]; exact setRow_heap W1 g _ _ _ _ hg1
    · simp only [List.length_append, List.length_take, List.length_drop]; omega
    · rw [List.size_toArray, lay_length (by rw [hzl, hl1]; omega), hl1]
    · exact lay_pullT _ hs ht hl hk hn hzl⟩
  have HF : Sc (w.grownBy W2 (some g)) := ⟨by
    rw [hW2, hW1]
    have hd : w.grownBy w.drew (some g) := ⟨rfl, rfl, rfl, Nat.le_refl _, fun _ _ _ => rfl⟩
    exact (hd.trans (setRow_grownBy w.drew g _)).trans (setRow_grownBy _ g _)⟩
  have CA := Sc.mk hap
  have CC := Sc.mk hclr
  have n1 : ((k : Int) == (k : Int) + 1) = false := by simp; omega
  have n2 : ¬ cap = m := by omega
  have n3 : (k : Int) + 1 ≤ (m : Int) + 1 := by omega
  have n4 : k ≤ cap := by omega
  have n5 : (k : Int) ≤ (cap : Int) := by omega
  have n6 : ((k : Int) + 1).toNat = k + 1 := by omega
  have n8 : (0 : Int) ≤ (k : Int) + 1 := by omega
  have n7 : (m : Int) + 1 ≤ (cap : Int) := by omega
  clear hap hclr hW1 hW2 hg hg1 hs ht hown hcl hcl0 hl1 hAc hzl hl
  go_enter Tryd.func83, Tryd.ntmps83
  go_wp2
  go_region_law (go_loud (refine step_append_eq rfl (.tmp 22) (.tmp 25) 34 34 rfl (.slice (some ⟨g, 0, none⟩) k cap) (.slice (some A) (m - k) (cap - (k + 1))) (by simp [Act.eval, Act.put]) (by simp [Act.eval, Act.put]) (CA.out 34) ?_))
  go_wp2_with (with_reducible refine wpList_clear_eq W1 rfl (.tmp 31) 34 rfl (.slice (some ⟨g, m * 4, none⟩) 1 (cap - m)) rfl (CC.out 0 _) ?_)
  go_outline
  go_ret
  exact ⟨rfl, HG2.out, HF.out⟩
end Go.Proofs.YtoapihepdallbaaDoor
