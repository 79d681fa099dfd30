/- slices.Insert of one element, at rows of four ints (transactions). -/
import Derived.Test.YtoapihepdallbaaDoorLib
import Derived.Deep.AppendLies
import Derived.Test.YtoapihepdallbaaDoorProg
namespace Go.Proofs.YtoapihepdallbaaDoor
open Go.RowKit

theorem infoT : (Tryd.prog.info? 56).map (fun i => (i.zero, i.size, i.bytes)) = some (some (.agg #[.int .i64 0, .int .i64 0, .int .i64 0, .int .i64 0]), 4, 32) := by kernel_rfl

theorem own_snocT {w : World} {base : Nat} {e : TypeId} {v : Value} {l : List (Int × Int × Int × Int)} {x : Int × Int × Int × Int} (h : w.ownsRow base e 4 v (l.length + 1) (flat enc4 l ++ enc4 x)) : Own enc4 4 e base w v (l ++ [x]) := by
  unfold Own
  rw [flat_append, flat_single, List.length_append]
  exact h
/-- What stands behind an insertion. -/
def InsertedT (base : Nat) (row : Option Nat) (l : List (Int × Int × Int × Int)) (w : World) (e : Ending) (w' : World) : Prop :=
  ∃ v', e = .returned v' ∧ Own enc4 4 56 base w' v' l ∧ w.grownBy w' row ∧ (v'.ownBlock = row ∨ v'.ownBlock = some w.heap.size)

set_option maxRecDepth 4000 in
set_option maxHeartbeats 1000000 in
theorem txnInsert_end (w : World) (base : Nat) (v : Value) (l : List (Int × Int × Int × Int)) (x : Int × Int × Int × Int) (hown : Own enc4 4 56 base w v l) (hlen : l.length ≤ 1000000)
    (b : Nat) (hb : w.heap[b]? = some (.cells (enc4 x).toArray 56 (0, 0))) (hbase : base ≤ w.heap.size) :
    Calls Tryd.prog 80 #[v, .int .i64 l.length, .slice (some ⟨b, 0, none⟩) 1 1] w (InsertedT base v.ownBlock (l ++ [x]) w) := by
  obtain ⟨i0, hi, hz0, hz1, hz2⟩ := info_parts infoT
  obtain ⟨A, cap, rfl, hnc, hcm⟩ := hown.slice
  have HO : Sc (Own enc4 4 56 base w (.slice A l.length cap) l) := ⟨hown⟩
  have HB : Sc (w.heap[b]? = some (.cells (enc4 x).toArray 56 (0, 0))) := ⟨hb⟩
  clear hown hb
  rw [ownBlock_slice]
  go_enter Tryd.func80, Tryd.ntmps80
  go_wp2_with (at_builtin; refine wpList_append_own_at _ rfl _ _ 34 rfl base 56 i0 (.agg #[.int .i64 0, .int .i64 0, .int .i64 0, .int .i64 0]) 4 32 Tryd.underlying34 hi hz0 hz1 hz2 rfl (by decide) _ l.length (flat enc4 l) rfl HO.out ⟨b, 0, none⟩ 1 1 (enc4 x) rfl rfl ?c1 ?c2 ?c3 ?c4 hbase ?_)
  case c1 => exact World.news_of_block HB.out
  case c2 => exact kind4.one x
  case c3 => unfold maxLen; omega
  case c4 => omega
  all_goals
    intro v' w' h1 h2 h3 h4
    rw [ownBlock_slice] at h2 h4
    have H1 : Sc (w'.ownsRow base 56 4 v' (l.length + 1) (flat enc4 l ++ enc4 x)) := ⟨h1⟩
    have H2 := Sc.mk h2
    have H4 := Sc.mk h4
    clear h1 h2 h3 h4
    go_wp2
    go_ret
    exact ⟨v', rfl, own_snocT H1.out, H2.out, H4.out⟩

/-- The list laid one place on. -/
theorem lay_shiftT {cur : Array Value} {l : List (Int × Int × Int × Int)} {cap k : Nat} (x : Int × Int × Int × Int) (hs : cur.size = cap * 4) (ht : cur.toList.take (l.length * 4) = flat enc4 l) (hk : k ≤ l.length) (hn : l.length + 1 ≤ cap) :
    (lay (lay cur.toList ((k + 1) * 4) (flat enc4 (l.drop k))) (k * 4) (enc4 x)).take ((l.length + 1) * 4) = flat enc4 (l.take k ++ x :: l.drop k) := by
  have h1 : (flat enc4 (l.drop k)).length = (l.length - k) * 4 := by rw [kind4.flat_length, List.length_drop]
  have hcl : cur.toList.length = cap * 4 := by rw [Array.length_toList, hs]
  have h2 : (enc4 x).length = 4 := rfl
  have hl1 : (lay cur.toList ((k + 1) * 4) (flat enc4 (l.drop k))).length = cap * 4 := by rw [lay_length (by omega), hcl]
  have hT : flat enc4 (l.take k ++ x :: l.drop k) = flat enc4 (l.take k) ++ (enc4 x ++ flat enc4 (l.drop k)) := by rw [flat_append, flat_cons]
  have h3 : (flat enc4 (l.take k)).length = k * 4 := by rw [kind4.flat_length, List.length_take]; congr 1; omega
  rw [hT]
  apply List.ext_getElem?
  intro j
  rw [List.getElem?_take]
  by_cases hj : j < (l.length + 1) * 4
  · rw [if_pos hj, lay_get _ _ _ (by omega), lay_get _ _ _ (by omega)]
    by_cases c1 : j < k * 4
    · rw [if_pos c1, if_pos (by omega), List.getElem?_append_left (by omega), ← kind4.flat_take l k, List.getElem?_take, if_pos c1, ← ht, List.getElem?_take, if_pos (by omega)]
    · rw [if_neg c1, List.getElem?_append_right (by omega), h3]
      by_cases c2 : j < k * 4 + 4
      · rw [if_pos (by omega), List.getElem?_append_left (by omega)]
      · rw [if_neg (by omega), if_neg (by omega), if_pos (by omega), List.getElem?_append_right (by omega), h2]
        congr 1
        omega
  · rw [if_neg hj, List.getElem?_eq_none (by simp only [List.length_append]; omega)]

set_option maxRecDepth 4000 in
set_option maxHeartbeats 2000000 in
theorem txnInsert_shift (w : World) (base g cap : Nat) (l : List (Int × Int × Int × Int)) (k : Nat) (x : Int × Int × Int × Int) (hown : Own enc4 4 56 base w (.slice (some ⟨g, 0, none⟩) l.length cap) l) (hlen : l.length ≤ 1000000) (hk : k < l.length) (hroom : l.length + 1 ≤ cap)
    (b : Nat) (hb : w.heap[b]? = some (.cells (enc4 x).toArray 56 (0, 0))) (hne : b ≠ g) :
    Calls Tryd.prog 80 #[.slice (some ⟨g, 0, none⟩) l.length cap, .int .i64 k, .slice (some ⟨b, 0, none⟩) 1 1] w (InsertedT base (some g) (l.take k ++ x :: l.drop k) w) := by
  obtain ⟨i0, hi, hz0, hz1, hz2⟩ := info_parts infoT
  obtain ⟨cur, hg, hbg, _, hn, hcm, hs, ht⟩ := hown.block
  have hov : ∀ lb cb, (callFunc 87 #[.slice (some ⟨b, 0, none⟩) 1 1, .slice (some ⟨g, (k + 1) * 4, none⟩) lb cb]).run Tryd.prog w = .ok (.value (.bool false)) w := fun lb cb => by
    rw [run_callFunc_extern Tryd.func87 (by kernel_rfl) (by kernel_rfl) (by kernel_rfl) (e := Extern.SlicesOverlaps.overlaps #[34, 34] #[56]) (by kernel_rfl),
      Lib.run_overlaps_apart w 34 56 56 Tryd.underlying34 4 (fun w => by simp [sizeOf, typeInfo, hi, hz1]) ⟨b, 0, none⟩ ⟨g, (k + 1) * 4, none⟩ 1 1 lb cb hne 56 56 4 cur.size (by simp [World.shape?, hb]) (by simp [World.shape?, hg]) (by omega) (by simp [World.frozen?, hb]) (by simp [World.frozen?, hb])]
    rfl
  have hcl : (flat enc4 (l.drop k)).length = (l.length - k) * 4 := by rw [kind4.flat_length, List.length_drop]
  have hcp1 : ∀ ty dc sc, (Builtin.copy_ #[34, 34] ty #[.slice (some ⟨g, (k + 1) * 4, none⟩) (l.length - k) dc, .slice (some ⟨g, k * 4, none⟩) (l.length + 1 - k) sc]).run Tryd.prog w.drew = .ok (goInt (Nat.min (l.length + 1 - k) (l.length - k))) (w.drew.setRow g (lay cur.toList ((k + 1) * 4) (flat enc4 (l.drop k))).toArray) := fun ty dc sc =>
    run_copy_own w.drew _ _ ty 56 56 i0 Tryd.underlying34 hi g ((k + 1) * 4) cur hg (l.length - k) dc ⟨g, k * 4, none⟩ (l.length + 1 - k) sc (flat enc4 (l.drop k)) (by rw [hcl, hz1]; congr 1; simp only [Nat.min_def]; split <;> omega)
      (fun j u hj => by
        have ha : (⟨g, k * 4, none⟩ : Addr).add j = ⟨g, k * 4 + j, none⟩ := by unfold Addr.add; split <;> simp_all
        rw [ha]
        have hd := kind4.flat_drop l k
        rw [← hd, List.getElem?_drop, ← ht, List.getElem?_take] at hj
        split at hj
        · simp only [World.cell?, World.drew, hg]
          simpa using hj
        · cases hj) (kind4.flat_one _) (by rw [hcl]; omega)
  obtain ⟨W1, hW1⟩ : ∃ W1, W1 = w.drew.setRow g (lay cur.toList ((k + 1) * 4) (flat enc4 (l.drop k))).toArray := ⟨_, rfl⟩
  rw [← hW1] at hcp1
  have hg1 : W1.heap[g]? = some (.cells (lay cur.toList ((k + 1) * 4) (flat enc4 (l.drop k))).toArray 56 (0, 0)) := by rw [hW1]; exact setRow_heap w.drew g cur _ _ _ hg
  have hb1 : W1.heap[b]? = some (.cells (enc4 x).toArray 56 (0, 0)) := by rw [hW1, setRow_other w.drew g b _ hne]; exact hb
  have hcl0 : cur.toList.length = cap * 4 := by rw [Array.length_toList, hs]
  have hl1 : (lay cur.toList ((k + 1) * 4) (flat enc4 (l.drop k))).length = cap * 4 := by rw [lay_length (by rw [hcl, hcl0]; omega), hcl0]
  have hcp2 : ∀ ty dc, (Builtin.copy_ #[34, 34] ty #[.slice (some ⟨g, k * 4, none⟩) (l.length + 1 - k) dc, .slice (some ⟨b, 0, none⟩) 1 1]).run Tryd.prog W1 = .ok (goInt (Nat.min 1 (l.length + 1 - k))) (W1.setRow g (lay (lay cur.toList ((k + 1) * 4) (flat enc4 (l.drop k))) (k * 4) (enc4 x)).toArray) := fun ty dc =>
    run_copy_own W1 _ _ ty 56 56 i0 Tryd.underlying34 hi g (k * 4) _ hg1 (l.length + 1 - k) dc ⟨b, 0, none⟩ 1 1 (enc4 x) (by rw [hz1, kind4.len]; simp only [Nat.min_def]; split <;> omega)
      (World.news_of_block hb1) (kind4.one x) (by rw [kind4.len, List.size_toArray, hl1]; omega)
  obtain ⟨W2, hW2⟩ : ∃ W2, W2 = W1.setRow g (lay (lay cur.toList ((k + 1) * 4) (flat enc4 (l.drop k))) (k * 4) (enc4 x)).toArray := ⟨_, rfl⟩
  rw [← hW2] at hcp2
  have HG2 : Sc (Own enc4 4 56 base W2 (.slice (some ⟨g, 0, none⟩) (l.length + 1) cap) (l.take k ++ x :: l.drop k)) := ⟨by
    refine Own.of_block (cur := (lay (lay cur.toList ((k + 1) * 4) (flat enc4 (l.drop k))) (k * 4) (enc4 x)).toArray) ?_ hbg kind4 ?_ hroom hcm ?_ ?_
    · rw [hW2]; exact setRow_heap W1 g _ _ _ _ hg1
    · simp only [List.length_append, List.length_cons, List.length_take, List.length_drop]; omega
    · rw [List.size_toArray, lay_length (by rw [kind4.len, hl1]; omega), hl1]
    · exact lay_shiftT x hs ht (by omega) hroom⟩
  have HF : Sc (w.grownBy W2 (some g)) := ⟨by
    rw [hW2, hW1]
    have hd : w.grownBy w.drew (some g) := ⟨rfl, rfl, rfl, Nat.le_refl _, fun _ _ _ => rfl⟩
    exact (hd.trans (setRow_grownBy w.drew g _)).trans (setRow_grownBy _ g _)⟩
  have C1 := Sc.mk hcp1
  have C2 := Sc.mk hcp2
  have n1 : ((k : Int) == (l.length : Int)) = false := by simp; omega
  have n2 : ¬ cap = k := by omega
  have n3 : ¬ cap = k + 1 := by omega
  have n4 : ¬ (cap : Int) < (l.length : Int) + 1 := by omega
  clear hcp1 hcp2 hW1 hW2 hg hb hg1 hb1 hs ht hown hcl hl1 hcl0
  go_enter Tryd.func80, Tryd.ntmps80
  go_wp2
  have hw1 : IntKind.i64.wrap ((k : Int) + 1) = (k : Int) + 1 := by rw [IntKind.wrap_i64]; omega
  have hw2 : (0 : Int) ≤ (k : Int) + 1 := by omega
  have hw3 : ((k : Int) + 1).toNat = k + 1 := by omega
  have hw4 : (k : Int) ≤ (l.length : Int) + 1 := by omega
  have hw5 : k ≤ l.length := by omega
  go_region_law (go_loud (refine step_copy_eq rfl (.tmp 73) (.tmp 76) 34 34 rfl (.slice (some ⟨g, (k + 1) * 4, none⟩) (l.length - k) (cap - (k + 1))) (.slice (some ⟨g, k * 4, none⟩) (l.length + 1 - k) (cap - k)) (by simp [Act.eval, Act.put]) (by simp [Act.eval, Act.put]) (C1.out 3 _ _) ?_))
  clear hw1 hw2 hw3 hw4 hw5
  go_wp2_with (with_reducible refine wpList_copy_eq W1 rfl (.tmp 80) (.tmp 81) 34 34 rfl (.slice (some ⟨g, k * 4, none⟩) (l.length + 1 - k) (cap - k)) (.slice (some ⟨b, 0, none⟩) 1 1) rfl rfl (C2.out 3 _) ?_)
  go_ret
  exact ⟨_, rfl, HG2.out, HF.out, .inl rfl⟩

/-- The new list laid into a new row. -/
theorem lay_growT {cur cur1 : Array Value} {l : List (Int × Int × Int × Int)} {C k : Nat} (x : Int × Int × Int × Int) (hs : cur1.size = C * 4) (ht : cur.toList.take (l.length * 4) = flat enc4 l) (hp : cur1.toList.take (k * 4) = cur.toList.take (k * 4)) (hk : k ≤ l.length) (hn : l.length + 1 ≤ C) :
    (lay (lay cur1.toList (k * 4) (enc4 x)) ((k + 1) * 4) (flat enc4 (l.drop k))).take ((l.length + 1) * 4) = flat enc4 (l.take k ++ x :: l.drop k) := by
  have h1 : (flat enc4 (l.drop k)).length = (l.length - k) * 4 := by rw [kind4.flat_length, List.length_drop]
  have hcl : cur1.toList.length = C * 4 := by rw [Array.length_toList, hs]
  have h2 : (enc4 x).length = 4 := rfl
  have hl1 : (lay cur1.toList (k * 4) (enc4 x)).length = C * 4 := by rw [lay_length (by omega), hcl]
  have hT : flat enc4 (l.take k ++ x :: l.drop k) = flat enc4 (l.take k) ++ (enc4 x ++ flat enc4 (l.drop k)) := by rw [flat_append, flat_cons]
  have h3 : (flat enc4 (l.take k)).length = k * 4 := by rw [kind4.flat_length, List.length_take]; congr 1; omega
  have hq : cur1.toList.take (k * 4) = flat enc4 (l.take k) := by
    rw [hp, ← kind4.flat_take l k, ← ht, List.take_take]
    congr 1
    omega
  rw [hT]
  apply List.ext_getElem?
  intro j
  rw [List.getElem?_take]
  by_cases hj : j < (l.length + 1) * 4
  · rw [if_pos hj, lay_get _ _ _ (by omega), lay_get _ _ _ (by omega)]
    by_cases c1 : j < k * 4
    · rw [if_pos (by omega), if_pos c1, List.getElem?_append_left (by omega), ← hq, List.getElem?_take, if_pos c1]
    · rw [List.getElem?_append_right (by omega), h3]
      by_cases c2 : j < k * 4 + 4
      · rw [if_pos (by omega), if_neg c1, if_pos (by omega), List.getElem?_append_left (by omega)]
      · rw [if_neg (by omega), if_pos (by omega), List.getElem?_append_right (by omega), h2]
        congr 1
        omega
  · rw [if_neg hj, List.getElem?_eq_none (by simp only [List.length_append]; omega)]

set_option maxRecDepth 4000 in
set_option maxHeartbeats 2000000 in
theorem txnInsert_grow (w : World) (base g : Nat) (l : List (Int × Int × Int × Int)) (k : Nat) (x : Int × Int × Int × Int) (hown : Own enc4 4 56 base w (.slice (some ⟨g, 0, none⟩) l.length l.length) l) (hlen : l.length ≤ 1000000) (hk : k < l.length)
    (b : Nat) (hb : w.heap[b]? = some (.cells (enc4 x).toArray 56 (0, 0))) (hbase : base ≤ w.heap.size) :
    Calls Tryd.prog 80 #[.slice (some ⟨g, 0, none⟩) l.length l.length, .int .i64 k, .slice (some ⟨b, 0, none⟩) 1 1] w (InsertedT base (some g) (l.take k ++ x :: l.drop k) w) := by
  obtain ⟨i0, hi, hz0, hz1, hz2⟩ := info_parts infoT
  obtain ⟨cur, hg, hbg, _, hn, hcm, hs, ht⟩ := hown.block
  obtain ⟨C, cur1, hap, hs1, hp1, hC, hC2⟩ := run_append_zeros_row (P := Tryd.prog) w 34 3 34 56 i0 (.agg #[.int .i64 0, .int .i64 0, .int .i64 0, .int .i64 0]) .i64 .i64 Tryd.underlying34 Tryd.underlying3 hi hz0 (by rw [hz1]; rfl) g k l.length (l.length + 1 - k) cur hg (by rw [hz1, hs]; omega) (by omega) (by omega) (by omega) (by rw [hz2]; omega) (by omega)
  rw [hz1] at hs1 hp1
  rw [show k + (l.length + 1 - k) = l.length + 1 by omega] at hap hC
  rw [show ((l.length + 1 - k : Nat) : Int) = (l.length : Int) + 1 - k by omega] at hap
  obtain ⟨W1, hW1⟩ : ∃ W1, W1 = w.drew.alloc (.cells cur1 56) := ⟨_, rfl⟩
  rw [← hW1] at hap
  obtain ⟨G, hG⟩ : ∃ G, G = w.heap.size := ⟨_, rfl⟩
  have hbw : b < w.heap.size := (Array.getElem?_eq_some_iff.1 hb).1
  have hgw : g < w.heap.size := (Array.getElem?_eq_some_iff.1 hg).1
  have hG1 : W1.heap[G]? = some (.cells cur1 56 (0, 0)) := by rw [hW1, hG]; exact heap_alloc_new w.drew _
  have hold : ∀ q, q < w.heap.size → W1.heap[q]? = w.heap[q]? := fun q hq => by rw [hW1]; exact heap_alloc_old w.drew _ hq
  rw [← hG] at hap
  have hcl0 : cur1.toList.length = C * 4 := by rw [Array.length_toList, hs1]
  have hcp1 : ∀ ty dc, (Builtin.copy_ #[34, 34] ty #[.slice (some ⟨G, k * 4, none⟩) (l.length + 1 - k) dc, .slice (some ⟨b, 0, none⟩) 1 1]).run Tryd.prog W1 = .ok (goInt (Nat.min 1 (l.length + 1 - k))) (W1.setRow G (lay cur1.toList (k * 4) (enc4 x)).toArray) := fun ty dc =>
    run_copy_own W1 _ _ ty 56 56 i0 Tryd.underlying34 hi G (k * 4) _ hG1 (l.length + 1 - k) dc ⟨b, 0, none⟩ 1 1 (enc4 x) (by rw [hz1, kind4.len]; simp only [Nat.min_def]; split <;> omega)
      (World.news_of_block (by rw [hold b hbw]; exact hb)) (kind4.one x) (by rw [kind4.len, hs1]; omega)
  obtain ⟨W2, hW2⟩ : ∃ W2, W2 = W1.setRow G (lay cur1.toList (k * 4) (enc4 x)).toArray := ⟨_, rfl⟩
  rw [← hW2] at hcp1
  have hG2 : W2.heap[G]? = some (.cells (lay cur1.toList (k * 4) (enc4 x)).toArray 56 (0, 0)) := by rw [hW2]; exact setRow_heap W1 G _ _ _ _ hG1
  have hg2 : W2.heap[g]? = some (.cells cur 56 (0, 0)) := by rw [hW2, setRow_other W1 G g _ (by omega), hold g hgw]; exact hg
  have hcl : (flat enc4 (l.drop k)).length = (l.length - k) * 4 := by rw [kind4.flat_length, List.length_drop]
  have hl1 : (lay cur1.toList (k * 4) (enc4 x)).length = C * 4 := by rw [lay_length (by rw [kind4.len, hcl0]; omega), hcl0]
  have hcp2 : ∀ ty dc sc, (Builtin.copy_ #[34, 34] ty #[.slice (some ⟨G, (k + 1) * 4, none⟩) (l.length - k) dc, .slice (some ⟨g, k * 4, none⟩) (l.length - k) sc]).run Tryd.prog W2.drew = .ok (goInt (Nat.min (l.length - k) (l.length - k))) (W2.drew.setRow G (lay (lay cur1.toList (k * 4) (enc4 x)) ((k + 1) * 4) (flat enc4 (l.drop k))).toArray) := fun ty dc sc =>
    run_copy_own W2.drew _ _ ty 56 56 i0 Tryd.underlying34 hi G ((k + 1) * 4) _ hG2 (l.length - k) dc ⟨g, k * 4, none⟩ (l.length - k) sc (flat enc4 (l.drop k)) (by rw [hcl, hz1]; congr 1; simp only [Nat.min_def]; split <;> omega)
      (fun j u hj => by
        have ha : (⟨g, k * 4, none⟩ : Addr).add j = ⟨g, k * 4 + j, none⟩ := by unfold Addr.add; split <;> simp_all
        rw [ha]
        have hd := kind4.flat_drop l k
        rw [← hd, List.getElem?_drop, ← ht, List.getElem?_take] at hj
        split at hj
        · simp only [World.cell?, World.drew, hg2]
          simpa using hj
        · cases hj) (kind4.flat_one _) (by rw [hcl, List.size_toArray, hl1]; omega)
  obtain ⟨W3, hW3⟩ : ∃ W3, W3 = W2.drew.setRow G (lay (lay cur1.toList (k * 4) (enc4 x)) ((k + 1) * 4) (flat enc4 (l.drop k))).toArray := ⟨_, rfl⟩
  rw [← hW3] at hcp2
  have HG3 : Sc (Own enc4 4 56 base W3 (.slice (some ⟨G, 0, none⟩) (l.length + 1) C) (l.take k ++ x :: l.drop k)) := ⟨by
    refine Own.of_block (cur := (lay (lay cur1.toList (k * 4) (enc4 x)) ((k + 1) * 4) (flat enc4 (l.drop k))).toArray) ?_ (by omega) kind4 ?_ hC hC2 ?_ ?_
    · rw [hW3]; exact setRow_heap W2.drew G _ _ _ _ hG2
    · simp only [List.length_append, List.length_cons, List.length_take, List.length_drop]; omega
    · rw [List.size_toArray, lay_length (by rw [hcl, hl1]; omega), hl1]
    · exact lay_growT x hs1 ht hp1 (by omega) hC⟩
  have HF : Sc (w.grownBy W3 (some g)) := ⟨by
    refine ⟨by rw [hW3, hW2, hW1]; rfl, by rw [hW3, hW2, hW1]; rfl, by rw [hW3, hW2, hW1]; rfl, ?_, fun q hq hne => ?_⟩
    · have hz : (w.drew.alloc (.cells cur1 56)).heap.size = w.heap.size + 1 := by simp
      rw [hW3, hW2, hW1]
      simp [World.setRow]
    · rw [hW3, setRow_other W2.drew G q _ (by omega)]
      show W2.heap[q]? = _
      rw [hW2, setRow_other W1 G q _ (by omega), hold q hq]⟩
  have HZ : Sc (G = w.heap.size) := ⟨hG⟩
  have CA := Sc.mk hap
  have C1 := Sc.mk hcp1
  have C2 := Sc.mk hcp2
  have n1 : ((k : Int) == (l.length : Int)) = false := by simp; omega
  have n2 : ¬ l.length = k := by omega
  have n4 : (l.length : Int) < (l.length : Int) + 1 := by omega
  have n5 : ¬ C = k := by omega
  have n6 : ¬ C = k + 1 := by omega
  clear hcp1 hcp2 hap hW1 hW2 hW3 hg hb hg2 hG1 hG2 hs hs1 hp1 ht hown hcl hl1 hcl0 hold hG
  go_enter Tryd.func80, Tryd.ntmps80
  go_wp2_with (first | (at_builtin; refine Lib.wpList_append_run _ rfl (.tmp 34) (.tmp 39) 34 3 rfl (.slice (some ⟨g, 0, none⟩) k l.length) (.int .i64 ((l.length : Int) + 1 - k)) rfl rfl _ _ CA.out ?_) | (with_reducible refine wpList_copy_eq W1 rfl (.tmp 43) (.tmp 44) 34 34 rfl (.slice (some ⟨G, k * 4, none⟩) (l.length + 1 - k) (C - k)) (.slice (some ⟨b, 0, none⟩) 1 1) rfl rfl (C1.out 3 _) ?_))
  have hw1 : IntKind.i64.wrap ((k : Int) + 1) = (k : Int) + 1 := by rw [IntKind.wrap_i64]; omega
  have hw2 : (0 : Int) ≤ (k : Int) + 1 := by omega
  have hw3 : ((k : Int) + 1).toNat = k + 1 := by omega
  have hw4 : (k : Int) ≤ (l.length : Int) := by omega
  have hw5 : k ≤ l.length := by omega
  go_region_law (go_loud (refine step_copy_eq rfl (.tmp 50) (.tmp 53) 34 34 rfl (.slice (some ⟨G, (k + 1) * 4, none⟩) (l.length - k) (C - (k + 1))) (.slice (some ⟨g, k * 4, none⟩) (l.length - k) (l.length - k)) (by simp [Act.eval, Act.put]) (by simp [Act.eval, Act.put]) (C2.out 3 _ _) ?_))
  clear hw1 hw2 hw3 hw4 hw5
  go_wp2
  go_ret
  exact ⟨_, rfl, HG3.out, HF.out, .inr (by rw [← HZ.out]; rfl)⟩

/-- One element put in at a place. -/
theorem txnInsert_any (w : World) (base : Nat) (v : Value) (l : List (Int × Int × Int × Int)) (k : Nat) (x : Int × Int × Int × Int) (hown : Own enc4 4 56 base w v l) (hlen : l.length ≤ 1000000) (hk : k ≤ l.length)
    (b : Nat) (hb : w.heap[b]? = some (.cells (enc4 x).toArray 56 (0, 0))) (hne : v.ownBlock ≠ some b) (hbase : base ≤ w.heap.size) :
    Calls Tryd.prog 80 #[v, .int .i64 k, .slice (some ⟨b, 0, none⟩) 1 1] w (InsertedT base v.ownBlock (l.take k ++ x :: l.drop k) w) := by
  rcases Nat.lt_or_eq_of_le hk with h | rfl
  · obtain ⟨g, cap, rfl, _, _, hn, _⟩ := hown.form (by omega)
    by_cases hc : l.length + 1 ≤ cap
    · exact txnInsert_shift w base g cap l k x hown hlen h hc b hb (fun h => hne (by rw [h]; rfl))
    · obtain rfl : cap = l.length := by omega
      exact txnInsert_grow w base g l k x hown hlen h b hb hbase
  · have := txnInsert_end w base v l x hown hlen b hb hbase
    rwa [List.take_length, List.drop_length]
end Go.Proofs.YtoapihepdallbaaDoor
