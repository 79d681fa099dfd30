/- The table of open transactions, inside a finder: what each of its calls comes to. -/
import Derived.Test.YtoapihepdallbaaDoorSearchT
import Derived.Test.YtoapihepdallbaaDoorInsT
import Derived.Test.YtoapihepdallbaaDoorDelT
import Derived.Test.YtoapihepdallbaaDoorCloT
import Derived.Test.YtoapihepdallbaaDoorPlainD
import Derived.Deep.RegionWith
namespace Go.Proofs.YtoapihepdallbaaDoor
open Go.RowKit

abbrev TX := Int × Int × Int × Int

/-- The other fields of a finder. -/
structure RestT where
  lp : Value
  u : Value
  ins : Bool
variable {R : RestT}
/-- A table lies in block tb, its row in block row; it holds l; the greatest number seen is m. -/
structure TabT (R : RestT) (w : World) (tb : Nat) (row : Option Nat) (l : List TX) (m : Int) : Prop where
  val : ∃ v : Value, v.ownBlock = row ∧ w.heap[tb]? = some (.cells #[R.lp, v, .int .i64 m, R.u, .bool R.ins] 83 (0, 0)) ∧ Own enc4 4 56 0 w v l
  apart : row ≠ some tb
  rising : Rising l

theorem cells_mid {w : World} {b : Nat} {a v u x y : Value} {t : TypeId} (h : w.heap[b]? = some (.cells #[a, v, u, x, y] t (0, 0))) : w.cell? ⟨b, 1, none⟩ = some v ∧ w.cell? ⟨b, 2, none⟩ = some u := by simp [World.cell?, h]

theorem TabT.kp {w w' : World} {tb : Nat} {row : Option Nat} {l : List TX} {m : Int} {S : Nat → Prop} (h : TabT R w tb row l m) (k : Kp S w w') (h1 : ¬ S tb) (h2 : ∀ q, row = some q → ¬ S q) : TabT R w' tb row l m := by
  obtain ⟨⟨v, hv, hc, hown⟩, hap, hr⟩ := h
  exact ⟨⟨v, hv, k.at hc h1, hown.kp k (fun q hq => h2 q (by rw [← hv]; exact hq))⟩, hap, hr⟩
theorem TabT.bel {w w' : World} {tb : Nat} {row : Option Nat} {l : List TX} {m : Int} (h : TabT R w tb row l m) (hb : Below w.heap.size w w') : TabT R w' tb row l m := h.kp (Kp.of_below hb (fun _ => False)) id (fun _ _ => id)

set_option maxRecDepth 4000 in
set_option maxHeartbeats 1000000 in
theorem txnFind_any (w : World) (tb : Nat) (row : Option Nat) (l : List TX) (m : Int) (p : Int) (h : TabT R w tb row l m) (hlen : l.length ≤ 1000000) :
    Calls Tryd.prog 79 #[.pointer (some ⟨tb, 1, none⟩), .int .i64 p] w fun e w' => e = .returned (.tuple #[.int .i64 (pos l p), .bool (has l p)]) ∧ Below w.heap.size w w' := by
  obtain ⟨⟨v, hv, hb, hown⟩, hap, hr⟩ := h
  obtain ⟨hc, _⟩ := cells_mid hb
  have HO := Sc.mk hown
  have HR := Sc.mk hr
  clear hown hr hb hv hap
  go_enter Tryd.func79, Tryd.ntmps79
  go_wp2_with (go_at_call 84; refine (txnSearch_any _ 0 _ l _ HO.out HR.out hlen).mono ?_; rintro e w' ⟨rfl, hb⟩)
  go_ret2
  exact ⟨rfl, hb⟩

/-- What a call that may turn the table leaves. -/
def LeftT (R : RestT) (tb : Nat) (row : Option Nat) (l : List TX) (m : Int) (w w' : World) : Prop :=
  ∃ row', TabT R w' tb row' l m ∧ Kp (fun q => q = tb ∨ some q = row) w w' ∧ (row' = row ∨ ∃ q, row' = some q ∧ w.heap.size ≤ q)
theorem LeftT.same {tb : Nat} {row : Option Nat} {l : List TX} {m : Int} {w w' : World} (h : TabT R w tb row l m) (hb : Below w.heap.size w w') : LeftT R tb row l m w w' := ⟨row, h.bel hb, Kp.of_below hb _, .inl rfl⟩
theorem LeftT.trans {tb : Nat} {row row' : Option Nat} {l' : List TX} {m' : Int} {w w1 w2 : World} (hk : Kp (fun q => q = tb ∨ some q = row) w w1) (hat : row' = row ∨ ∃ q, row' = some q ∧ w.heap.size ≤ q) (h : LeftT R tb row' l' m' w1 w2) : LeftT R tb row l' m' w w2 := by
  obtain ⟨row2, ht2, hk2, hat2⟩ := h
  refine ⟨row2, ht2, hk.trans hk2 (fun q hq => ?_), ?_⟩
  · rcases hq with hq | hq
    · exact .inl (.inl hq)
    · rcases hat with hat | ⟨q', hq', hle⟩
      · exact .inl (.inr (by rw [← hat]; exact hq))
      · rw [hq'] at hq; injection hq with hq; exact .inr (by omega)
  · rcases hat2 with h2 | ⟨q, h2, hle⟩
    · rcases hat with hat | ⟨q', hq', hle⟩
      · exact .inl (h2.trans hat)
      · exact .inr ⟨q', h2.trans hq', hle⟩
    · exact .inr ⟨q, h2, Nat.le_trans hk.size hle⟩
/-- The end of a call that stores a new row. -/
theorem LeftT.stored {tb : Nat} {row : Option Nat} {l : List TX} {m : Int} {w w2 : World} {v u : Value} (hc : w2.heap[tb]? = some (.cells #[R.lp, u, .int .i64 m, R.u, .bool R.ins] 83 (0, 0))) (hown : Own enc4 4 56 0 w2 v l) (hr : Rising l)
    (hlt : tb < w.heap.size) (hap : row ≠ some tb) (hk : Kp (fun q => q = tb ∨ some q = row) w w2) (hat : v.ownBlock = row ∨ ∃ q, v.ownBlock = some q ∧ w.heap.size ≤ q) : LeftT R tb row l m w (w2.setCell ⟨tb, 1, none⟩ v) := by
  have hne : v.ownBlock ≠ some tb := by
    rcases hat with h | ⟨q, h, hq⟩
    · rw [h]; exact hap
    · rw [h]; intro he; injection he with he; omega
  refine ⟨v.ownBlock, ⟨⟨v, rfl, ?_, hown.kp (Kp.setCell w2 _ v) (fun q hq he => hne (by rw [hq, he]))⟩, hne, hr⟩, ?_, hat⟩
  · rw [set_one hc 1 v]; rfl
  · exact hk.trans (Kp.setCell w2 ⟨tb, 1, none⟩ v) (fun q hq => .inl (.inl hq))
/-- The end of a call that stores a number seen. -/
theorem LeftT.counted {tb : Nat} {row : Option Nat} {l : List TX} {m m' : Int} {w : World} (h : TabT R w tb row l m) : LeftT R tb row l m' w (w.setCell ⟨tb, 2, none⟩ (.int .i64 m')) := by
  obtain ⟨⟨v, hv, hc, hown⟩, hap, hr⟩ := h
  refine ⟨row, ⟨⟨v, hv, ?_, hown.kp (Kp.setCell w _ _) (fun q hq he => hap (by rw [← hv, hq, he]))⟩, hap, hr⟩, (Kp.setCell w ⟨tb, 2, none⟩ _).mono (fun q hq => .inl hq), .inl rfl⟩
  rw [set_one hc 2 _]; rfl

set_option maxRecDepth 4000 in
set_option maxHeartbeats 1000000 in
theorem txnSeen_any (w : World) (tb : Nat) (row : Option Nat) (l : List TX) (m : Int) (p : Int) (h : TabT R w tb row l m) :
    Calls Tryd.prog 70 #[.pointer (some ⟨tb, 1, none⟩), .int .i64 p] w fun e w' => e = .returned (.tuple #[]) ∧ LeftT R tb row l (max m p) w w' := by
  have HT := Sc.mk h
  obtain ⟨⟨v, hv, hc, hown⟩, hap, hr⟩ := h
  obtain ⟨c0, c1⟩ := cells_mid hc
  have z1 := unfrozen_at hc 2
  clear hown hr hc hv hap
  by_cases hmp : m < p
  · have HM : Sc (max m p = p) := ⟨by omega⟩
    go_enter Tryd.func70, Tryd.ntmps70
    go_wp2
    go_end0
    exact ⟨rfl, by rw [HM.out]; exact LeftT.counted HT.out⟩
  · have HM : Sc (max m p = m) := ⟨by omega⟩
    go_enter Tryd.func70, Tryd.ntmps70
    go_wp2
    go_end0
    exact ⟨rfl, by rw [HM.out]; exact LeftT.counted HT.out⟩

set_option maxRecDepth 4000 in
set_option maxHeartbeats 1000000 in
theorem txnMost_any (w : World) (tb : Nat) (row : Option Nat) (l : List TX) (m : Int) (h : TabT R w tb row l m) :
    Calls Tryd.prog 32 #[.pointer (some ⟨tb, 1, none⟩)] w fun e w' => e = .returned (.int .i64 m) ∧ w = w' := by
  obtain ⟨⟨v, hv, hc, hown⟩, hap, hr⟩ := h
  obtain ⟨c0, c1⟩ := cells_mid hc
  clear hown hr hc hv hap
  go_enter Tryd.func32, Tryd.ntmps32
  go_wp2
  go_ret
  exact ⟨rfl, rfl⟩

set_option maxRecDepth 4000 in
set_option maxHeartbeats 1000000 in
theorem txnAll_any (w : World) (tb : Nat) (row : Option Nat) (l : List TX) (m : Int) (h : TabT R w tb row l m) (hlen : l.length ≤ 1000000) :
    Calls Tryd.prog 30 #[.pointer (some ⟨tb, 1, none⟩)] w (FreshT l w) := by
  obtain ⟨⟨v, hv, hc, hown⟩, hap, hr⟩ := h
  obtain ⟨c0, c1⟩ := cells_mid hc
  have HO := Sc.mk hown
  clear hown hr hc hv hap
  go_enter Tryd.func30, Tryd.ntmps30
  go_wp2_with (go_at_call 51; refine (txnClone_any _ 0 _ l HO.out hlen).mono ?_; rintro e w' ⟨v', rfl, ho, hb⟩)
  go_ret
  exact ⟨_, rfl, ho, hb⟩

set_option maxRecDepth 4000 in
set_option maxHeartbeats 1000000 in
theorem txnDrop_any (w : World) (tb : Nat) (row : Option Nat) (l : List TX) (m : Int) (p : Int) (h : TabT R w tb row l m) (hlen : l.length ≤ 1000000) :
    Calls Tryd.prog 72 #[.pointer (some ⟨tb, 1, none⟩), .int .i64 p] w fun e w' => e = .returned (.bool (has l p)) ∧ LeftT R tb row (drop' l p) m w w' := by
  by_cases hh : has l p = true
  · have HT := Sc.mk h
    obtain ⟨⟨v, hv, hc, hown⟩, hap, hr⟩ := h
    have hlt := has_lt hr hh
    obtain ⟨n, hn⟩ : ∃ n, l.length = n + 1 := ⟨l.length - 1, by omega⟩
    obtain ⟨g, cap, rfl, _, _, _, _⟩ := hown.form (by omega)
    rw [hn] at hown hc
    have HO := Sc.mk hown
    have HV : Sc (some g = row) := ⟨by rw [← hv]; rfl⟩
    have HC := Sc.mk hc
    have HR := Sc.mk hr
    have HP := Sc.mk hap
    have HH := Sc.mk hh
    have HM : Sc (pos l p ≤ n ∧ n ≤ 1000000) := ⟨by omega, by omega⟩
    clear hown hv hc hr hap hn hlt
    go_enter Tryd.func72, Tryd.ntmps72
    go_wp2_with (first | (go_at_call 79; refine (txnFind_any _ tb row l m _ HT.out hlen).mono ?_; rintro e w1 ⟨rfl, hb⟩; obtain ⟨hc1, _⟩ := cells_mid ((hb.block tb (heap_lt HC.out)).trans HC.out); have HB1 := Sc.mk hb; have hi := HM.out; clear hb) | (go_at_call 83; go_loud (refine (txnDelete_any _ 0 g cap n l (pos l p) (HO.out.below HB1.out) HM.out.2 HM.out.1).mono ?_)))
    rintro e w2 ⟨rfl, ho, hg⟩
    have hk2 : Kp (fun q => some q = row) w w2 := (Kp.of_below HB1.out _).trans (Kp.of_grown hg) (fun q hq => .inl (by rw [← HV.out]; exact hq))
    have hc2 := hk2.at HC.out (fun he => HP.out he.symm)
    obtain ⟨hcell2, _⟩ := cells_mid hc2
    have hfz2 := unfrozen_at hc2 1
    have hfin : Sc (LeftT R tb row (drop' l p) m w (w2.setCell ⟨tb, 1, none⟩ (.slice (some ⟨g, 0, none⟩) n cap))) := ⟨by
      rw [drop'_yes HH.out]
      refine LeftT.stored hc2 ho (HR.out.take_drop _ _ (by omega)) (heap_lt HC.out) HP.out (hk2.mono (fun q hq => .inr hq)) (.inl HV.out)⟩
    clear hk2 hc2 hg ho
    go_wp2
    go_ret
    exact ⟨by rw [HH.out]; rfl, hfin.out⟩
  · have hh : has l p = false := by simpa using hh
    have HT := Sc.mk h
    have HA : Sc (drop' l p = l) := ⟨drop'_no hh⟩
    clear h
    go_enter Tryd.func72, Tryd.ntmps72
    go_wp2_with (go_at_call 79; refine (txnFind_any _ tb row l m _ HT.out hlen).mono ?_; rintro e w' ⟨rfl, hb⟩)
    go_ret
    exact ⟨by simp [hh], by rw [HA.out]; exact LeftT.same HT.out hb⟩
end Go.Proofs.YtoapihepdallbaaDoor
