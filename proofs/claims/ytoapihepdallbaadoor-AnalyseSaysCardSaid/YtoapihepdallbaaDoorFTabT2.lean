/- The table of open transactions: Get, Note, State, Add, Begin. -/
import Derived.Test.YtoapihepdallbaaDoorFTabT
import Derived.Test.YtoapihepdallbaaDoorPlainT
namespace Go.Proofs.YtoapihepdallbaaDoor
open Go.RowKit

variable {R : RestT}
abbrev aggT (x : TX) : Value := .agg #[.int .i64 x.1, .int .i64 x.2.1, .int .i64 x.2.2.1, .int .i64 x.2.2.2]
/-- What Get finds. -/
def got (l : List TX) (p : Int) : TX := if has l p = true then (l[pos l p]?).getD (0, 0, 0, 0) else (0, 0, 0, 0)

set_option maxRecDepth 4000 in
set_option maxHeartbeats 1000000 in
theorem txnGet_any (w : World) (tb : Nat) (row : Option Nat) (l : List TX) (m : Int) (p : Int) (h : TabT R w tb row l m) (hlen : l.length ≤ 1000000) :
    Calls Tryd.prog 71 #[.pointer (some ⟨tb, 1, none⟩), .int .i64 p] w fun e w' => e = .returned (.tuple #[aggT (got l p), .bool (has l p)]) ∧ Below w.heap.size w w' := by
  have HZ : Sc ((w.alloc (.cells #[.int .i64 0, .int .i64 0, .int .i64 0, .int .i64 0] 56)).heap[w.heap.size]? = some (.cells #[.int .i64 0, .int .i64 0, .int .i64 0, .int .i64 0] 56 (0, 0))) := ⟨heap_alloc_new _ _⟩
  have HT : Sc (TabT R (w.alloc (.cells #[.int .i64 0, .int .i64 0, .int .i64 0, .int .i64 0] 56)) tb row l m) := ⟨h.bel ((Below.refl _ _).alloc (Nat.le_refl _) _)⟩
  by_cases hh : has l p = true
  · obtain ⟨⟨v, hv, hc, hown⟩, hap, hr⟩ := HT.out
    have hlt := has_lt hr hh
    obtain ⟨g, cap, rfl, _, _, _, _⟩ := hown.form (by omega)
    obtain ⟨x, hx, hxp⟩ := (has_at hr p).1 hh
    have HL : Sc (got l p = x) := ⟨by unfold got; rw [if_pos hh, hx]; rfl⟩
    have HO := Sc.mk hown
    have HC := Sc.mk hc
    have HX := Sc.mk hx
    clear hown hv hc hr hap hx hxp
    go_enter Tryd.func71, Tryd.ntmps71
    go_wp2_with fail
    refine (txnFind_any _ tb row l m _ HT.out hlen).mono ?_
    rintro e w1 ⟨rfl, hb⟩
    obtain ⟨hc1, _⟩ := cells_mid ((hb.block tb (heap_lt HC.out)).trans HC.out)
    obtain ⟨d0, d1, d2, d3⟩ := (HO.out.below hb).cells4 HX.out
    have hz := (hb.block _ (heap_lt HZ.out)).trans HZ.out
    have q0 : w1.cell? ⟨w.heap.size, 0, none⟩ = some (.int .i64 0) := by simp [World.cell?, hz]
    have q1 : w1.cell? ⟨w.heap.size, 1, none⟩ = some (.int .i64 0) := by simp [World.cell?, hz]
    have q2 : w1.cell? ⟨w.heap.size, 2, none⟩ = some (.int .i64 0) := by simp [World.cell?, hz]
    have q3 : w1.cell? ⟨w.heap.size, 3, none⟩ = some (.int .i64 0) := by simp [World.cell?, hz]
    have z0 := unfrozen_at hz 0
    have z1 := unfrozen_at hz 1
    have z2 := unfrozen_at hz 2
    have z3 := unfrozen_at hz 3
    have HB1 := Sc.mk hb
    clear hb hz
    go_wp2
    refine bodyPost_ret (v := .tuple #[aggT x, .bool true]) (by simp [results, Tryd.results71, go_sem, q0, q1, q2, q3]) rfl ⟨by rw [HL.out]; simp [hh], ?_⟩
    have hB : Below w.heap.size w w1 := ((Below.refl _ _).alloc (Nat.le_refl _) (.cells #[.int .i64 0, .int .i64 0, .int .i64 0, .int .i64 0] 56)).trans (HB1.out.mono (by simp))
    exact (((hB.setCell (by simp) _).setCell (by simp) _).setCell (by simp) _).setCell (by simp) _
  · have hh : has l p = false := by simpa using hh
    have HL : Sc (got l p = (0, 0, 0, 0)) := ⟨by unfold got; rw [if_neg (by rw [hh]; exact Bool.false_ne_true)]⟩
    clear h
    go_enter Tryd.func71, Tryd.ntmps71
    go_wp2_with fail
    refine (txnFind_any _ tb row l m _ HT.out hlen).mono ?_
    rintro e w1 ⟨rfl, hb⟩
    have hz := (hb.block _ (heap_lt HZ.out)).trans HZ.out
    have q0 : w1.cell? ⟨w.heap.size, 0, none⟩ = some (.int .i64 0) := by simp [World.cell?, hz]
    have q1 : w1.cell? ⟨w.heap.size, 1, none⟩ = some (.int .i64 0) := by simp [World.cell?, hz]
    have q2 : w1.cell? ⟨w.heap.size, 2, none⟩ = some (.int .i64 0) := by simp [World.cell?, hz]
    have q3 : w1.cell? ⟨w.heap.size, 3, none⟩ = some (.int .i64 0) := by simp [World.cell?, hz]
    have z0 := unfrozen_at hz 0
    have z1 := unfrozen_at hz 1
    have z2 := unfrozen_at hz 2
    have z3 := unfrozen_at hz 3
    have HB1 := Sc.mk hb
    clear hb hz
    go_wp2
    refine bodyPost_ret (v := .tuple #[aggT (0, 0, 0, 0), .bool false]) (by simp [results, Tryd.results71, go_sem, q0, q1, q2, q3]) rfl ⟨by rw [HL.out]; simp [hh], ?_⟩
    have hB : Below w.heap.size w w1 := ((Below.refl _ _).alloc (Nat.le_refl _) (.cells #[.int .i64 0, .int .i64 0, .int .i64 0, .int .i64 0] 56)).trans (HB1.out.mono (by simp))
    exact (((hB.setCell (by simp) _).setCell (by simp) _).setCell (by simp) _).setCell (by simp) _

/-- The end of a call that turns one element. -/
theorem LeftT.turned {tb g n cap : Nat} {l l' : List TX} {m : Int} {w w' : World} (h : TabT R w tb (some g) l m) (hv : w'.heap[tb]? = w.heap[tb]?) (hc : w.heap[tb]? = some (.cells #[R.lp, .slice (some ⟨g, 0, none⟩) n cap, .int .i64 m, R.u, .bool R.ins] 83 (0, 0)))
    (hown : Own enc4 4 56 0 w' (.slice (some ⟨g, 0, none⟩) n cap) l') (hr : Rising l') (hk : Kp (fun q => q = g) w w') : LeftT R tb (some g) l' m w w' :=
  ⟨some g, ⟨⟨_, rfl, hv.trans hc, hown⟩, h.apart, hr⟩, hk.mono (fun q hq => .inr (by rw [hq])), .inl rfl⟩

set_option maxRecDepth 4000 in
set_option maxHeartbeats 4000000 in
theorem txnAdd_any (w : World) (tb : Nat) (row : Option Nat) (l : List TX) (m : Int) (x : TX) (h : TabT R w tb row l m) (hlen : l.length ≤ 1000000) :
    Calls Tryd.prog 68 #[.pointer (some ⟨tb, 1, none⟩), aggT x] w fun e w' => e = .returned (.tuple #[]) ∧ LeftT R tb row (setIn l x) (max m x.1) w w' := by
  have HT : Sc (TabT R (w.alloc (.cells (enc4 x).toArray 56)) tb row l m) := ⟨h.bel ((Below.refl _ _).alloc (Nat.le_refl _) _)⟩
  have HX0 : Sc ((w.alloc (.cells (enc4 x).toArray 56)).heap[w.heap.size]? = some (.cells (enc4 x).toArray 56 (0, 0))) := ⟨heap_alloc_new _ _⟩
  have HB0 : Sc (Kp (fun q => q = tb ∨ some q = row) w (w.alloc (.cells (enc4 x).toArray 56))) := ⟨Kp.alloc _ _ _⟩
  by_cases hh : has l x.1 = true
  · obtain ⟨⟨v, hv, hc, hown⟩, hap, hr⟩ := HT.out
    have hlt := has_lt hr hh
    obtain ⟨g, cap, rfl, _, _, _, _⟩ := hown.form (by omega)
    have hv : some g = row := hv
    subst hv
    obtain ⟨y, hy, hyp⟩ := (has_at hr x.1).1 hh
    have HU : Sc (setIn l x = l.set (pos l x.1) x) := ⟨setIn_yes hh⟩
    have HR : Sc (Rising (setIn l x)) := ⟨setIn_rising hr x⟩
    have HO := Sc.mk hown
    have HC := Sc.mk hc
    have HY := Sc.mk hy
    have HP := Sc.mk hap
    have HG : Sc (g < w.heap.size) := ⟨by obtain ⟨⟨v0, hv0, _, ho0⟩, _, _⟩ := h; exact (ho0.lt g hv0).2⟩
    have hltI : (pos l x.1 : Int) < l.length := by omega
    clear hown hc hr hap hy hyp h
    go_enter Tryd.func68, Tryd.ntmps68
    go_wp2_with fail
    refine (txnFind_any _ tb _ l m _ HT.out hlen).mono ?_
    rintro e w1 ⟨rfl, hb⟩
    obtain ⟨hc1, _⟩ := cells_mid ((hb.block tb (heap_lt HC.out)).trans HC.out)
    obtain ⟨d0, d1, d2, d3⟩ := (HO.out.below hb).cells4 HY.out
    have z0 := (HO.out.below hb).unfrozen (pos l x.1 * 4)
    have z1 := (HO.out.below hb).unfrozen (pos l x.1 * 4 + 1)
    have z2 := (HO.out.below hb).unfrozen (pos l x.1 * 4 + 2)
    have z3 := (HO.out.below hb).unfrozen (pos l x.1 * 4 + 3)
    have hz := (hb.block _ (heap_lt HX0.out)).trans HX0.out
    have q0 : w1.cell? ⟨w.heap.size, 0, none⟩ = some (.int .i64 x.1) := by simp [World.cell?, hz]
    have q1 : w1.cell? ⟨w.heap.size, 1, none⟩ = some (.int .i64 x.2.1) := by simp [World.cell?, hz]
    have q2 : w1.cell? ⟨w.heap.size, 2, none⟩ = some (.int .i64 x.2.2.1) := by simp [World.cell?, hz]
    have q3 : w1.cell? ⟨w.heap.size, 3, none⟩ = some (.int .i64 x.2.2.2) := by simp [World.cell?, hz]
    have HB1 := Sc.mk hb
    clear hb hz
    go_wp2_with fail
    have hgne : ¬ w.heap.size = g := by have := HG.out; omega
    go_region
    go_wp2_with fail
    have hk := (((((Kp.of_below HB1.out (fun q => q = g)).trans (Kp.setCell w1 ⟨g, pos l x.1 * 4, none⟩ (.int .i64 x.1)) (fun q hq => .inl hq)).trans (Kp.setCell _ ⟨g, pos l x.1 * 4 + 1, none⟩ (.int .i64 x.2.1)) (fun q hq => .inl hq)).trans (Kp.setCell _ ⟨g, pos l x.1 * 4 + 2, none⟩ (.int .i64 x.2.2.1)) (fun q hq => .inl hq)).trans (Kp.setCell _ ⟨g, pos l x.1 * 4 + 3, none⟩ (.int .i64 x.2.2.2)) (fun q hq => .inl hq)).drew
    have hown := HO.out.below HB1.out
    have hi := (List.getElem?_eq_some_iff.1 HY.out).1
    have h0 := Own.set kind4 hown (k := pos l x.1) (j := 0) (x := y) (x' := (x.1, y.2.1, y.2.2.1, y.2.2.2)) (u := .int .i64 x.1) HY.out (by omega) rfl
    have h1 := Own.set kind4 h0 (k := pos l x.1) (j := 1) (x := (x.1, y.2.1, y.2.2.1, y.2.2.2)) (x' := (x.1, x.2.1, y.2.2.1, y.2.2.2)) (u := .int .i64 x.2.1) (by rw [List.getElem?_set_self hi]) (by omega) rfl
    rw [List.set_set] at h1
    have h2 := Own.set kind4 h1 (k := pos l x.1) (j := 2) (x := (x.1, x.2.1, y.2.2.1, y.2.2.2)) (x' := (x.1, x.2.1, x.2.2.1, y.2.2.2)) (u := .int .i64 x.2.2.1) (by rw [List.getElem?_set_self hi]) (by omega) rfl
    rw [List.set_set] at h2
    have h3 := Own.set kind4 h2 (k := pos l x.1) (j := 3) (x := (x.1, x.2.1, x.2.2.1, y.2.2.2)) (x' := x) (u := .int .i64 x.2.2.2) (by rw [List.getElem?_set_self hi]) (by omega) rfl
    rw [List.set_set, ← HU.out] at h3
    have ht3 := TabT.mk (R := R) (tb := tb) (row := some g) (m := m) ⟨_, rfl, (hk.block tb (heap_lt HC.out) (fun he => HP.out (by rw [he]))).trans HC.out, h3.drew⟩ HP.out HR.out
    have HT3 := Sc.mk ht3
    have HK3 := Sc.mk (HB0.out.trans hk (fun q hq => .inl (.inr (by rw [hq]))))
    clear hk hown hi h0 h1 h2 h3 ht3
    refine (txnSeen_any _ tb (some g) (setIn l x) m x.1 HT3.out).mono ?_
    rintro e w4 ⟨rfl, hl⟩
    have HL := Sc.mk hl
    clear hl
    go_wp2
    go_end0
    exact ⟨rfl, LeftT.trans HK3.out (.inl rfl) HL.out⟩
  · have hh : has l x.1 = false := by simpa using hh
    obtain ⟨⟨v, hv, hc, hown⟩, hap, hr⟩ := h
    have HU : Sc (setIn l x = l.take (pos l x.1) ++ x :: l.drop (pos l x.1)) := ⟨setIn_no hh⟩
    have HR : Sc (Rising (setIn l x)) := ⟨setIn_rising hr x⟩
    obtain ⟨A, n, cap, rfl⟩ := hown.slice3
    have HO := Sc.mk (hown.alloc (.cells (enc4 x).toArray 56))
    have HC : Sc ((w.alloc (.cells (enc4 x).toArray 56)).heap[tb]? = some (.cells #[R.lp, .slice A n cap, .int .i64 m, R.u, .bool R.ins] 83 (0, 0))) := ⟨(heap_alloc_old w _ (heap_lt hc)).trans hc⟩
    have HCW := Sc.mk hc
    have HP := Sc.mk hap
    have HV := Sc.mk hv
    have HLT : Sc (tb < w.heap.size ∧ ∀ q, row = some q → q < w.heap.size) := ⟨heap_lt hc, fun q hq => (hown.lt q (by rw [hv]; exact hq)).2⟩
    clear hown hc hr hap hv
    go_enter Tryd.func68, Tryd.ntmps68
    go_wp2_with fail
    refine (txnFind_any _ tb _ l m _ HT.out hlen).mono ?_
    rintro e w1 ⟨rfl, hb⟩
    obtain ⟨hc1, _⟩ := cells_mid ((hb.block tb (heap_lt HC.out)).trans HC.out)
    have hz := (hb.block _ (heap_lt HX0.out)).trans HX0.out
    have q0 : w1.cell? ⟨w.heap.size, 0, none⟩ = some (.int .i64 x.1) := by simp [World.cell?, hz]
    have q1 : w1.cell? ⟨w.heap.size, 1, none⟩ = some (.int .i64 x.2.1) := by simp [World.cell?, hz]
    have q2 : w1.cell? ⟨w.heap.size, 2, none⟩ = some (.int .i64 x.2.2.1) := by simp [World.cell?, hz]
    have q3 : w1.cell? ⟨w.heap.size, 3, none⟩ = some (.int .i64 x.2.2.2) := by simp [World.cell?, hz]
    have HB1 := Sc.mk hb
    have HZ1 := Sc.mk hz
    clear hb hz
    have HOI : Sc (Own enc4 4 56 0 (w1.alloc (.cells (enc4 x).toArray 56)).drew (.slice A n cap) l) := ⟨((HO.out.below HB1.out).alloc _).drew⟩
    have HBI : Sc ((w1.alloc (.cells (enc4 x).toArray 56)).drew.heap[w1.heap.size]? = some (.cells (enc4 x).toArray 56 (0, 0))) := ⟨heap_alloc_new w1 _⟩
    have HNE : Sc ((Value.slice A n cap).ownBlock ≠ some w1.heap.size) := ⟨fun he => by have h1 := (HO.out.lt _ he).2; have h2 := HB1.out.size; omega⟩
    have HK1 : Sc (Kp (fun q => some q = row) w (w1.alloc (.cells (enc4 x).toArray 56)).drew) := ⟨(((Kp.alloc w _ (fun q => some q = row)).trans (Kp.of_below HB1.out (fun q => some q = row)) (fun q hq => .inl hq)).trans (Kp.alloc w1 _ (fun q => some q = row)) (fun q hq => .inl hq)).drew⟩
    have HKX : Sc (∀ w2 : World, (w1.alloc (.cells (enc4 x).toArray 56)).drew.grownBy w2 (Value.slice A n cap).ownBlock → Kp (fun q => some q = row) w w2) := ⟨fun w2 hg => HK1.out.trans (Kp.of_grown hg) (fun q hq => .inl (by rw [← HV.out]; exact hq))⟩
    have HX2 : Sc (∀ w2 : World, (w1.alloc (.cells (enc4 x).toArray 56)).drew.grownBy w2 (Value.slice A n cap).ownBlock → w2.cell? ⟨w.heap.size, 0, none⟩ = some (.int .i64 x.1)) := ⟨fun w2 hg => by
      have h1 : w.heap.size < w1.heap.size := heap_lt HZ1.out
      have h2 := hg.block w.heap.size (by show _ < (w1.alloc _).heap.size; simp; omega) (fun he => by have := HLT.out.2 _ (HV.out.symm.trans he.symm); omega)
      have h3 : (w1.alloc (.cells (enc4 x).toArray 56)).drew.heap[w.heap.size]? = w1.heap[w.heap.size]? := heap_alloc_old w1 _ h1
      simp [World.cell?, h2, h3, HZ1.out]⟩
    have htl : tb < w1.heap.size := by have h1 := HLT.out.1; have h2 := heap_lt HZ1.out; omega
    have hwl : w.heap.size < w1.heap.size := heap_lt HZ1.out
    have HTNE : Sc (¬ w.heap.size = tb) := ⟨by have := HLT.out.1; omega⟩
    go_wp2_with fail
    go_region_with (go_at_call 80; go_loud (refine (txnInsert_any _ 0 _ l (pos l x.1) x HOI.out hlen (pos_le l x.1) _ HBI.out HNE.out (Nat.zero_le _)).mono ?_; rintro e w2 ⟨v', rfl, ho, hg, hat⟩; obtain ⟨A', n', c', rfl⟩ := ho.slice3; have hc2 := (HKX.out w2 hg).at HCW.out (fun he => HP.out he.symm); obtain ⟨hcell2, hcell3⟩ := cells_mid hc2; have hfz2 := unfrozen_at hc2 1; have hx2 := HX2.out w2 hg; have htne := HTNE.out; have HG2 := Sc.mk hg; have HO2 := Sc.mk ho; have HAT := Sc.mk hat; have HC2 := Sc.mk hc2; clear hg ho hat hc2))
    all_goals
      have HL2 : Sc (LeftT R tb row (setIn l x) m w (w2.setCell ⟨tb, 1, none⟩ (.slice A' n' c'))) := ⟨by
        rw [HU.out]
        refine LeftT.stored HC2.out HO2.out (by rw [← HU.out]; exact HR.out) HLT.out.1 HP.out ((HKX.out w2 HG2.out).mono (fun q hq => .inr hq)) ?_
        rcases HAT.out with h1 | h1
        · exact .inl (h1.trans HV.out)
        · exact .inr ⟨_, h1, by show w.heap.size ≤ (w1.alloc _).heap.size; simp; have := heap_lt HZ1.out; omega⟩⟩
      go_wp2_with fail
      refine (txnSeen_any _ tb HL2.out.choose (setIn l x) m x.1 HL2.out.choose_spec.1).mono ?_
      rintro e w4 ⟨rfl, hl⟩
      have HL4 := Sc.mk hl
      clear hl
      go_wp2
      go_end0
      exact ⟨rfl, LeftT.trans HL2.out.choose_spec.2.1 HL2.out.choose_spec.2.2 HL4.out⟩

end Go.Proofs.YtoapihepdallbaaDoor
