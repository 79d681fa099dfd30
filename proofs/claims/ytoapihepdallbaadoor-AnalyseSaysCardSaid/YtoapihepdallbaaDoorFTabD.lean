/- The table of dirty pages: what each of its calls comes to. -/
import Derived.Test.YtoapihepdallbaaDoorSearchD
import Derived.Test.YtoapihepdallbaaDoorInsD
import Derived.Test.YtoapihepdallbaaDoorCloD
import Derived.Test.YtoapihepdallbaaDoorPlainD
namespace Go.Proofs.YtoapihepdallbaaDoor
open Go.RowKit

/-- The other fields of a finder. -/
structure RestD where
  lp : Value
  vt : Value
  m : Int
  ins : Bool
variable {Rd : RestD}
theorem cell_four {w : World} {b : Nat} {a v u x y : Value} {t : TypeId} (h : w.heap[b]? = some (.cells #[a, v, u, x, y] t (0, 0))) : w.cell? ⟨b, 3, none⟩ = some x := by simp [World.cell?, h]
/-- A table lies in block tb, its row in block row; it holds l. -/
structure TabD (Rd : RestD) (w : World) (tb : Nat) (row : Option Nat) (l : List (Int × Int)) : Prop where
  val : ∃ v : Value, v.ownBlock = row ∧ w.heap[tb]? = some (.cells #[Rd.lp, Rd.vt, .int .i64 Rd.m, v, .bool Rd.ins] 83 (0, 0)) ∧ Own enc2 2 58 0 w v l
  apart : row ≠ some tb
  rising : Rising l

set_option maxRecDepth 4000 in
set_option maxHeartbeats 1000000 in
theorem dirtyFind_any (w : World) (tb : Nat) (row : Option Nat) (l : List (Int × Int)) (p : Int) (h : TabD Rd w tb row l) (hlen : l.length ≤ 1000000) :
    Calls Tryd.prog 81 #[.pointer (some ⟨tb, 3, none⟩), .int .i64 p] w fun e w' => e = .returned (.tuple #[.int .i64 (pos l p), .bool (has l p)]) ∧ Below w.heap.size w w' := by
  obtain ⟨⟨v, hv, hb, hown⟩, hap, hr⟩ := h
  have hc : w.cell? ⟨tb, 3, none⟩ = some v := by simp [World.cell?, hb]
  have HO := Sc.mk hown
  have HR := Sc.mk hr
  clear hown hr hb hv hap
  go_enter Tryd.func81, Tryd.ntmps81
  go_wp2_with (go_at_call 89; refine (dirtySearch_any _ 0 _ l _ HO.out HR.out hlen).mono ?_; rintro e w' ⟨rfl, hb⟩)
  go_ret2
  exact ⟨rfl, hb⟩

/-- What a call that may turn the table leaves: the table holds l, all else is as it was; a new row is new. -/
def LeftD (Rd : RestD) (tb : Nat) (row : Option Nat) (l : List (Int × Int)) (w w' : World) : Prop :=
  ∃ row', TabD Rd w' tb row' l ∧ Kp (fun q => q = tb ∨ some q = row) w w' ∧ (row' = row ∨ ∃ q, row' = some q ∧ w.heap.size ≤ q)
theorem LeftD.same {tb : Nat} {row : Option Nat} {l : List (Int × Int)} {w w' : World} (h : TabD Rd w tb row l) (hb : Below w.heap.size w w') : LeftD Rd tb row l w w' := by
  obtain ⟨⟨v, hv, hc, hown⟩, hap, hr⟩ := h
  refine ⟨row, ⟨⟨v, hv, ?_, hown.below hb⟩, hap, hr⟩, Kp.of_below hb _, .inl rfl⟩
  rw [hb.block tb (heap_lt hc)]; exact hc
/-- The end of a call that stores a new row. -/
theorem LeftD.stored {tb : Nat} {row : Option Nat} {l : List (Int × Int)} {w w2 : World} {v u : Value} (hc : w2.heap[tb]? = some (.cells #[Rd.lp, Rd.vt, .int .i64 Rd.m, u, .bool Rd.ins] 83 (0, 0))) (hown : Own enc2 2 58 0 w2 v l) (hr : Rising l)
    (hlt : tb < w.heap.size) (hap : row ≠ some tb) (hk : Kp (fun q => q = tb ∨ some q = row) w w2) (hat : v.ownBlock = row ∨ ∃ q, v.ownBlock = some q ∧ w.heap.size ≤ q) : LeftD Rd tb row l w (w2.setCell ⟨tb, 3, none⟩ v) := by
  have hne : v.ownBlock ≠ some tb := by
    rcases hat with h | ⟨q, h, hq⟩
    · rw [h]; exact hap
    · rw [h]; intro he; injection he with he; omega
  refine ⟨v.ownBlock, ⟨⟨v, rfl, ?_, hown.kp (Kp.setCell w2 _ v) (fun q hq he => hne (by rw [hq, he]))⟩, hne, hr⟩, ?_, hat⟩
  · rw [set_one hc 3 v]; rfl
  · exact hk.trans (Kp.setCell w2 ⟨tb, 3, none⟩ v) (fun q hq => .inl (.inl hq))

set_option maxRecDepth 4000 in
set_option maxHeartbeats 1000000 in
theorem dirtyAdd_any (w : World) (tb : Nat) (row : Option Nat) (l : List (Int × Int)) (p f : Int) (h : TabD Rd w tb row l) (hlen : l.length ≤ 1000000) :
    Calls Tryd.prog 69 #[.pointer (some ⟨tb, 3, none⟩), .int .i64 p, .int .i64 f] w fun e w' => e = .returned (.tuple #[]) ∧ LeftD Rd tb row (add l (p, f)) w w' := by
  by_cases hh : has l p = true
  · have HT := Sc.mk h
    have HA : Sc (add l (p, f) = l) := ⟨by unfold add; rw [if_pos hh]⟩
    clear h
    go_enter Tryd.func69, Tryd.ntmps69
    go_wp2_with (go_at_call 81; refine (dirtyFind_any _ tb row l _ HT.out hlen).mono ?_; rintro e w' ⟨rfl, hb⟩)
    go_end0
    exact ⟨rfl, by rw [HA.out]; exact LeftD.same HT.out hb⟩
  · have hh : has l p = false := by simpa using hh
    have HT := Sc.mk h
    obtain ⟨⟨v, hv, hc, hown⟩, hap, hr⟩ := h
    have HO := Sc.mk hown
    have HV := Sc.mk hv
    have HC := Sc.mk hc
    have HR := Sc.mk hr
    have HP := Sc.mk hap
    have HL : Sc (add l (p, f) = l.take (pos l p) ++ (p, f) :: l.drop (pos l p)) := ⟨by unfold add put; rw [if_neg (by simpa using hh)]⟩
    clear hown hv hc hr hap
    go_enter Tryd.func69, Tryd.ntmps69
    go_wp2_with (first | (go_at_call 81; refine (dirtyFind_any _ tb row l _ HT.out hlen).mono ?_; rintro e w1 ⟨rfl, hb⟩; have hc1 := cell_four ((hb.block tb (heap_lt HC.out)).trans HC.out); have HB1 := Sc.mk hb; clear hb) | (go_at_call 82; go_loud (refine (dirtyInsert_any _ 0 _ l (pos l p) (p, f) ((HO.out.below HB1.out).alloc _) hlen (pos_le l p) _ (heap_alloc_new _ _) ?c1 (Nat.zero_le _)).mono ?_)))
    case c1 => exact fun he => by have := (HO.out.lt _ he).2; have := HB1.out.size; omega
    rintro e w2 ⟨v', rfl, ho, hg, hat⟩
    obtain ⟨A', n', c', rfl⟩ := ho.slice3
    have hk2 : Kp (fun q => some q = row) w w2 := (Kp.of_below HB1.out _).trans ((Kp.alloc _ _ (fun q => some q = row)).trans (Kp.of_grown hg) (fun q hq => .inl (by rw [← HV.out]; exact hq))) (fun q hq => .inl hq)
    have hc2 : w2.heap[tb]? = some (.cells #[Rd.lp, Rd.vt, .int .i64 Rd.m, v, .bool Rd.ins] 83 (0, 0)) := hk2.at HC.out (fun he => HP.out he.symm)
    have hcell2 := cell_four hc2
    have hfz2 := unfrozen_at hc2 3
    have hfin : Sc (LeftD Rd tb row (add l (p, f)) w (w2.setCell ⟨tb, 3, none⟩ (.slice A' n' c'))) := ⟨by
      rw [HL.out]
      refine LeftD.stored hc2 ho (by rw [← HL.out]; exact add_rising HR.out _) (heap_lt HC.out) HP.out (hk2.mono (fun q hq => .inr hq)) ?_
      rcases hat with hat | hat
      · exact .inl (hat.trans HV.out)
      · exact .inr ⟨_, hat, by have := HB1.out.size; simp; omega⟩⟩
    clear hk2 hc2 hg hat ho
    go_wp2
    go_end0
    exact ⟨rfl, hfin.out⟩

set_option maxRecDepth 4000 in
set_option maxHeartbeats 1000000 in
theorem dirtyAll_any (w : World) (tb : Nat) (row : Option Nat) (l : List (Int × Int)) (h : TabD Rd w tb row l) (hlen : l.length ≤ 1000000) :
    Calls Tryd.prog 31 #[.pointer (some ⟨tb, 3, none⟩)] w (FreshD l w) := by
  obtain ⟨⟨v, hv, hc, hown⟩, hap, hr⟩ := h
  have hc1 := cell_four hc
  have HO := Sc.mk hown
  clear hown hr hc hv hap
  go_enter Tryd.func31, Tryd.ntmps31
  go_wp2_with (go_at_call 52; refine (dirtyClone_any _ 0 _ l HO.out hlen).mono ?_; rintro e w' ⟨v', rfl, ho, hb⟩)
  go_ret
  exact ⟨_, rfl, ho, hb⟩
end Go.Proofs.YtoapihepdallbaaDoor
