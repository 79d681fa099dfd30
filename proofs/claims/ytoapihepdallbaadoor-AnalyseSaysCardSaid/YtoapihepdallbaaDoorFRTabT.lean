/- The document's table of open transactions: place, Seen, Get, Note, State, Drop. -/
import Derived.Test.YtoapihepdallbaaDoorRefT
import Derived.Test.YtoapihepdallbaaDoorFTabT2
import Derived.Test.YtoapihepdallbaaDoorParts
namespace Go.Proofs.YtoapihepdallbaaDoor
open Go.RowKit

/-- The other fields of the document's finder. -/
structure RestR where
  lp : Value
  u : Value
variable {R : RestR}
theorem cells_mid4 {w : World} {b : Nat} {a v u x : Value} {t : TypeId} (h : w.heap[b]? = some (.cells #[a, v, u, x] t (0, 0))) : w.cell? ⟨b, 1, none⟩ = some v ∧ w.cell? ⟨b, 2, none⟩ = some u := by simp [World.cell?, h]
/-- A table lies in block tb, its row in block row; it holds l; the greatest number seen is m. -/
structure RTabT (R : RestR) (w : World) (tb : Nat) (row : Option Nat) (l : List TX) (m : Int) : Prop where
  val : ∃ v : Value, v.ownBlock = row ∧ w.heap[tb]? = some (.cells #[R.lp, v, .int .i64 m, R.u] 93 (0, 0)) ∧ Own enc4 4 56 0 w v l
  apart : row ≠ some tb
  rising : Rising l

theorem RTabT.kp {w w' : World} {tb : Nat} {row : Option Nat} {l : List TX} {m : Int} {S : Nat → Prop} (h : RTabT R w tb row l m) (k : Kp S w w') (h1 : ¬ S tb) (h2 : ∀ q, row = some q → ¬ S q) : RTabT R w' tb row l m := by
  obtain ⟨⟨v, hv, hc, hown⟩, hap, hr⟩ := h
  exact ⟨⟨v, hv, k.at hc h1, hown.kp k (fun q hq => h2 q (by rw [← hv]; exact hq))⟩, hap, hr⟩
theorem RTabT.bel {w w' : World} {tb : Nat} {row : Option Nat} {l : List TX} {m : Int} (h : RTabT R w tb row l m) (hb : Below w.heap.size w w') : RTabT R w' tb row l m := h.kp (Kp.of_below hb (fun _ => False)) id (fun _ _ => id)

/-- What a call that may turn the table leaves. -/
def RLeftT (R : RestR) (tb : Nat) (row : Option Nat) (l : List TX) (m : Int) (w w' : World) : Prop :=
  ∃ row', RTabT R w' tb row' l m ∧ Kp (fun q => q = tb ∨ some q = row) w w' ∧ (row' = row ∨ ∀ q, row' = some q → w.heap.size ≤ q)
theorem RLeftT.same {tb : Nat} {row : Option Nat} {l : List TX} {m : Int} {w w' : World} (h : RTabT R w tb row l m) (hb : Below w.heap.size w w') : RLeftT R tb row l m w w' := ⟨row, h.bel hb, Kp.of_below hb _, .inl rfl⟩
theorem RLeftT.trans {tb : Nat} {row row' : Option Nat} {l' : List TX} {m' : Int} {w w1 w2 : World} (hk : Kp (fun q => q = tb ∨ some q = row) w w1) (hat : row' = row ∨ ∀ q, row' = some q → w.heap.size ≤ q) (h : RLeftT R tb row' l' m' w1 w2) : RLeftT R tb row l' m' w w2 := by
  obtain ⟨row2, ht2, hk2, hat2⟩ := h
  refine ⟨row2, ht2, hk.trans hk2 (fun q hq => ?_), ?_⟩
  · rcases hq with hq | hq
    · exact .inl (.inl hq)
    · rcases hat with hat | hat
      · exact .inl (.inr (by rw [← hat]; exact hq))
      · exact .inr (hat q hq.symm)
  · rcases hat2 with h2 | hat2
    · rcases hat with hat | hat
      · exact .inl (h2.trans hat)
      · exact .inr (fun q hq => hat q (h2.symm.trans hq))
    · exact .inr (fun q hq => Nat.le_trans hk.size (hat2 q hq))
theorem RLeftT.stored {tb : Nat} {row : Option Nat} {l : List TX} {m : Int} {w w2 : World} {v u : Value} (hc : w2.heap[tb]? = some (.cells #[R.lp, u, .int .i64 m, R.u] 93 (0, 0))) (hown : Own enc4 4 56 0 w2 v l) (hr : Rising l)
    (hlt : tb < w.heap.size) (hk : Kp (fun q => q = tb ∨ some q = row) w w2) (hat : ∀ q, v.ownBlock = some q → w.heap.size ≤ q) : RLeftT R tb row l m w (w2.setCell ⟨tb, 1, none⟩ v) := by
  have hne : v.ownBlock ≠ some tb := by
    intro he
    have := hat _ he; omega
  refine ⟨v.ownBlock, ⟨⟨v, rfl, ?_, hown.kp (Kp.setCell w2 _ v) (fun q hq he => hne (by rw [hq, he]))⟩, hne, hr⟩, ?_, .inr hat⟩
  · rw [set_one hc 1 v]; rfl
  · exact hk.trans (Kp.setCell w2 ⟨tb, 1, none⟩ v) (fun q hq => .inl (.inl hq))
/-- The end of a call that stores a number seen. -/
theorem RLeftT.counted {tb : Nat} {row : Option Nat} {l : List TX} {m m' : Int} {w : World} (h : RTabT R w tb row l m) : RLeftT R tb row l m' w (w.setCell ⟨tb, 2, none⟩ (.int .i64 m')) := by
  obtain ⟨⟨v, hv, hc, hown⟩, hap, hr⟩ := h
  refine ⟨row, ⟨⟨v, hv, ?_, hown.kp (Kp.setCell w _ _) (fun q hq he => hap (by rw [← hv, hq, he]))⟩, hap, hr⟩, (Kp.setCell w ⟨tb, 2, none⟩ _).mono (fun q hq => .inl hq), .inl rfl⟩
  rw [set_one hc 2 _]; rfl

set_option maxRecDepth 4000 in
set_option maxHeartbeats 1000000 in
theorem rSeenT_any (w : World) (tb : Nat) (row : Option Nat) (l : List TX) (m : Int) (p : Int) (h : RTabT R w tb row l m) :
    Calls Tryd.prog 55 #[.pointer (some ⟨tb, 1, none⟩), .int .i64 p] w fun e w' => e = .returned (.tuple #[]) ∧ RLeftT R tb row l (max m p) w w' := by
  have HT := Sc.mk h
  obtain ⟨⟨v, hv, hc, hown⟩, hap, hr⟩ := h
  obtain ⟨c0, c1⟩ := cells_mid4 hc
  have z1 := unfrozen_at hc 2
  clear hown hr hc hv hap
  by_cases hmp : m < p
  · have HM : Sc (max m p = p) := ⟨by omega⟩
    go_enter Tryd.func55, Tryd.ntmps55
    go_wp2
    go_end0
    exact ⟨rfl, by rw [HM.out]; exact RLeftT.counted HT.out⟩
  · have HM : Sc (max m p = m) := ⟨by omega⟩
    go_enter Tryd.func55, Tryd.ntmps55
    go_wp2
    go_end0
    exact ⟨rfl, by rw [HM.out]; exact RLeftT.counted HT.out⟩

theorem pos_at {β : Type} {l : List (Int × β)} (hr : Rising l) {i : Nat} {x : Int × β} (h : l[i]? = some x) : pos l x.1 = i := by
  obtain ⟨y, hy, hk⟩ := (has_at hr x.1).1 (has_place h)
  rcases Nat.lt_trichotomy (pos l x.1) i with h1 | h1 | h1
  · have := hr.lt h1 hy h; omega
  · exact h1
  · have := hr.lt h1 h hy; omega

set_option maxRecDepth 4000 in
set_option maxHeartbeats 1000000 in
theorem rPlace_any (w : World) (tb : Nat) (row : Option Nat) (l : List TX) (m : Int) (p : Int) (h : RTabT R w tb row l m) (hlen : l.length ≤ 1000000) :
    Calls Tryd.prog 76 #[.pointer (some ⟨tb, 1, none⟩), .int .i64 p] w fun e w' => e = .returned (.int .i64 (if has l p = true then (pos l p : Int) else -1)) ∧ w = w' := by
  obtain ⟨⟨v, hv, hc, hown⟩, hap, hr⟩ := h
  obtain ⟨A, cap, rfl, hnc, hcm⟩ := hown.slice
  obtain ⟨n, hn⟩ : ∃ n, l.length = n := ⟨_, rfl⟩
  rw [hn] at hown hlen hc
  obtain ⟨hc1, _⟩ := cells_mid4 hc
  have HN := Sc.mk hn
  have HO := Sc.mk hown
  have HR := Sc.mk hr
  clear hown hr hc hv hap hn hnc
  generalize hrr : (if has l p = true then (pos l p : Int) else -1) = r
  have HRR := Sc.mk hrr
  clear hrr
  go_enter Tryd.func76, Tryd.ntmps76
  go_wp2
  go_loop [5] (fun s5 => ∃ i : Nat, s5 = .int .i64 i ∧ i ≤ n ∧ Sc (∀ j x, j < i → l[j]? = some x → x.1 ≠ p)) (fun s5 => n - (intOf s5).toNat)
  case atStart => exact ⟨0, rfl, by omega, ⟨fun j x hj => absurd hj (Nat.not_lt_zero _)⟩⟩
  case round =>
    obtain ⟨i, rfl, hi, HI⟩ := hrel
    by_cases hlt : i < n
    · obtain ⟨x, hx⟩ : ∃ x, l[i]? = some x := ⟨_, List.getElem?_eq_getElem (by rw [HN.out]; exact hlt)⟩
      obtain ⟨g, cq, he, _, _, _, _⟩ := HO.out.form (by rw [HN.out]; omega)
      injection he with hA hn2 hC
      subst hA
      obtain ⟨d0, _⟩ := HO.out.cells4 hx
      have HX := Sc.mk hx
      have hil : (i : Int) < n := by omega
      clear hx hC hn2
      by_cases hp : x.1 = p
      · have hb : (x.1 == p) = true := by simp [hp]
        have HL : Sc (r = (i : Int)) := ⟨by rw [← HRR.out, ← hp, if_pos (has_place HX.out), pos_at HR.out HX.out]⟩
        clear hp
        go_wp2
        go_ret
        exact ⟨by rw [HL.out]; rfl, rfl⟩
      · have hb : (x.1 == p) = false := by simp [hp]
        have HJ : Sc (∀ j y, j < i + 1 → l[j]? = some y → y.1 ≠ p) := ⟨fun j y hj hy => by
          rcases Nat.lt_succ_iff_lt_or_eq.1 hj with h | h
          · exact HI.out j y h hy
          · subst h; have h1 := HX.out; rw [hy] at h1; injection h1 with h1; subst h1; exact hp⟩
        clear hp
        go_wp2
        go_round
        case rel => exact ⟨i + 1, by go_num, by omega, HJ⟩
        case measure => simp [intOf]; omega
    · obtain rfl : i = n := by omega
      have HL : Sc (r = -1) := ⟨by
        rw [← HRR.out, if_neg]
        intro hh
        obtain ⟨x, hx, hk⟩ := has_iff.1 hh
        obtain ⟨j, hj⟩ := List.mem_iff_getElem?.1 hx
        exact absurd hk (HI.out j x (by rw [← HN.out]; exact (List.getElem?_eq_some_iff.1 hj).1) hj)⟩
      go_wp2
      go_ret
      exact ⟨by rw [HL.out]; rfl, rfl⟩
theorem rPlace_yes (w : World) (tb : Nat) (row : Option Nat) (l : List TX) (m : Int) (p : Int) (h : RTabT R w tb row l m) (hlen : l.length ≤ 1000000) (hh : has l p = true) :
    Calls Tryd.prog 76 #[.pointer (some ⟨tb, 1, none⟩), .int .i64 p] w fun e w' => e = .returned (.int .i64 (pos l p)) ∧ Below w.heap.size w w' :=
  (rPlace_any w tb row l m p h hlen).mono fun e w' ⟨he, hw⟩ => ⟨by rw [he, if_pos hh], by subst hw; exact Below.refl _ _⟩
theorem rPlace_no (w : World) (tb : Nat) (row : Option Nat) (l : List TX) (m : Int) (p : Int) (h : RTabT R w tb row l m) (hlen : l.length ≤ 1000000) (hh : has l p = false) :
    Calls Tryd.prog 76 #[.pointer (some ⟨tb, 1, none⟩), .int .i64 p] w fun e w' => e = .returned (.int .i64 (-1)) ∧ Below w.heap.size w w' :=
  (rPlace_any w tb row l m p h hlen).mono fun e w' ⟨he, hw⟩ => ⟨by rw [he, if_neg (by rw [hh]; exact Bool.false_ne_true)], by subst hw; exact Below.refl _ _⟩

set_option maxRecDepth 4000 in
set_option maxHeartbeats 1000000 in
theorem rGetT_any (w : World) (tb : Nat) (row : Option Nat) (l : List TX) (m : Int) (p : Int) (h : RTabT R w tb row l m) (hlen : l.length ≤ 1000000) :
    Calls Tryd.prog 56 #[.pointer (some ⟨tb, 1, none⟩), .int .i64 p] w fun e w' => e = .returned (.tuple #[aggT (got l p), .bool (has l p)]) ∧ Below w.heap.size w w' := by
  have HZ : Sc ((w.alloc (.cells #[.int .i64 0, .int .i64 0, .int .i64 0, .int .i64 0] 56)).heap[w.heap.size]? = some (.cells #[.int .i64 0, .int .i64 0, .int .i64 0, .int .i64 0] 56 (0, 0))) := ⟨heap_alloc_new _ _⟩
  have HT : Sc (RTabT R (w.alloc (.cells #[.int .i64 0, .int .i64 0, .int .i64 0, .int .i64 0] 56)) tb row l m) := ⟨h.bel ((Below.refl _ _).alloc (Nat.le_refl _) _)⟩
  by_cases hh : has l p = true
  · have HHY := Sc.mk hh
    obtain ⟨⟨v, hv, hc, hown⟩, hap, hr⟩ := HT.out
    have hlt := has_lt hr hh
    obtain ⟨g, cap, rfl, _, _, _, _⟩ := hown.form (by omega)
    obtain ⟨x, hx, hxp⟩ := (has_at hr p).1 hh
    have HL : Sc (got l p = x) := ⟨by unfold got; rw [if_pos hh, hx]; rfl⟩
    have HO := Sc.mk hown
    have HC := Sc.mk hc
    have HX := Sc.mk hx
    clear hown hv hc hr hap hx hxp
    go_enter Tryd.func56, Tryd.ntmps56
    go_wp2_with fail
    refine (rPlace_yes _ tb row l m _ HT.out hlen HHY.out).mono ?_
    rintro e w1 ⟨rfl, hb⟩
    obtain ⟨hc1, _⟩ := cells_mid4 ((hb.block tb (heap_lt HC.out)).trans HC.out)
    obtain ⟨d0, d1, d2, d3⟩ := (HO.out.below hb).cells4 HX.out
    have hz := (hb.block _ (heap_lt HZ.out)).trans HZ.out
    have q0 : w1.cell? ⟨w.heap.size, 0, none⟩ = some (.int .i64 0) := by simp [World.cell?, hz]
    have q1 : w1.cell? ⟨w.heap.size, 1, none⟩ = some (.int .i64 0) := by simp [World.cell?, hz]
    have q2 : w1.cell? ⟨w.heap.size, 2, none⟩ = some (.int .i64 0) := by simp [World.cell?, hz]
    have q3 : w1.cell? ⟨w.heap.size, 3, none⟩ = some (.int .i64 0) := by simp [World.cell?, hz]
    have z0 := unfrozen_at hz 0
    have z1 := unfrozen_at hz 1
    have z2 := unfrozen_at hz 2
    have z3 := unfrozen_at hz 3
    have HB1 := Sc.mk hb
    clear hb hz
    go_wp2
    refine bodyPost_ret (v := .tuple #[aggT x, .bool true]) (by simp [results, Tryd.results56, go_sem, q0, q1, q2, q3]) rfl ⟨by rw [HL.out]; simp [hh], ?_⟩
    have hB : Below w.heap.size w w1 := ((Below.refl _ _).alloc (Nat.le_refl _) (.cells #[.int .i64 0, .int .i64 0, .int .i64 0, .int .i64 0] 56)).trans (HB1.out.mono (by simp))
    exact (((hB.setCell (by simp) _).setCell (by simp) _).setCell (by simp) _).setCell (by simp) _
  · have hh : has l p = false := by simpa using hh
    have HHN := Sc.mk hh
    have HL : Sc (got l p = (0, 0, 0, 0)) := ⟨by unfold got; rw [if_neg (by rw [hh]; exact Bool.false_ne_true)]⟩
    clear h
    go_enter Tryd.func56, Tryd.ntmps56
    go_wp2_with fail
    refine (rPlace_no _ tb row l m _ HT.out hlen HHN.out).mono ?_
    rintro e w1 ⟨rfl, hb⟩
    have hz := (hb.block _ (heap_lt HZ.out)).trans HZ.out
    have q0 : w1.cell? ⟨w.heap.size, 0, none⟩ = some (.int .i64 0) := by simp [World.cell?, hz]
    have q1 : w1.cell? ⟨w.heap.size, 1, none⟩ = some (.int .i64 0) := by simp [World.cell?, hz]
    have q2 : w1.cell? ⟨w.heap.size, 2, none⟩ = some (.int .i64 0) := by simp [World.cell?, hz]
    have q3 : w1.cell? ⟨w.heap.size, 3, none⟩ = some (.int .i64 0) := by simp [World.cell?, hz]
    have z0 := unfrozen_at hz 0
    have z1 := unfrozen_at hz 1
    have z2 := unfrozen_at hz 2
    have z3 := unfrozen_at hz 3
    have HB1 := Sc.mk hb
    clear hb hz
    go_wp2
    refine bodyPost_ret (v := .tuple #[aggT (0, 0, 0, 0), .bool false]) (by simp [results, Tryd.results56, go_sem, q0, q1, q2, q3]) rfl ⟨by rw [HL.out]; simp [hh], ?_⟩
    have hB : Below w.heap.size w w1 := ((Below.refl _ _).alloc (Nat.le_refl _) (.cells #[.int .i64 0, .int .i64 0, .int .i64 0, .int .i64 0] 56)).trans (HB1.out.mono (by simp))
    exact (((hB.setCell (by simp) _).setCell (by simp) _).setCell (by simp) _).setCell (by simp) _

/-- The end of a call that turns one element. -/
theorem RLeftT.turned {tb g n cap : Nat} {l l' : List TX} {m : Int} {w w' : World} (h : RTabT R w tb (some g) l m) (hv : w'.heap[tb]? = w.heap[tb]?) (hc : w.heap[tb]? = some (.cells #[R.lp, .slice (some ⟨g, 0, none⟩) n cap, .int .i64 m, R.u] 93 (0, 0)))
    (hown : Own enc4 4 56 0 w' (.slice (some ⟨g, 0, none⟩) n cap) l') (hr : Rising l') (hk : Kp (fun q => q = g) w w') : RLeftT R tb (some g) l' m w w' :=
  ⟨some g, ⟨⟨_, rfl, hv.trans hc, hown⟩, h.apart, hr⟩, hk.mono (fun q hq => .inr (by rw [hq])), .inl rfl⟩

set_option maxRecDepth 4000 in
set_option maxHeartbeats 1000000 in
theorem rStateT_any (w : World) (tb : Nat) (row : Option Nat) (l : List TX) (m : Int) (p s : Int) (h : RTabT R w tb row l m) (hlen : l.length ≤ 1000000) :
    Calls Tryd.prog 57 #[.pointer (some ⟨tb, 1, none⟩), .int .i64 p, .int .i64 s] w fun e w' => e = .returned (.bool (has l p)) ∧ RLeftT R tb row (upd l p (fun y => (s, y.2.1, y.2.2))) m w w' := by
  by_cases hh : has l p = true
  · have HHY := Sc.mk hh
    have HT := Sc.mk h
    obtain ⟨⟨v, hv, hc, hown⟩, hap, hr⟩ := h
    have hlt := has_lt hr hh
    obtain ⟨g, cap, rfl, _, _, _, _⟩ := hown.form (by omega)
    obtain ⟨x, hx, hxp⟩ := (has_at hr p).1 hh
    have hv : some g = row := hv
    subst hv
    have HU : Sc (upd l p (fun y => (s, y.2.1, y.2.2)) = l.set (pos l p) (x.1, s, x.2.2.1, x.2.2.2)) := ⟨upd_yes _ hh hx⟩
    have HR : Sc (Rising (upd l p (fun y => (s, y.2.1, y.2.2)))) := ⟨upd_rising hr p _⟩
    have HO := Sc.mk hown
    have HC := Sc.mk hc
    have HX := Sc.mk hx
    have HH := Sc.mk hh
    have HP := Sc.mk hap
    clear hown hv hc hr hap hx hxp
    go_enter Tryd.func57, Tryd.ntmps57
    go_wp2_with (go_at_call 76; refine (rPlace_yes _ tb _ l m _ HT.out hlen HHY.out).mono ?_; rintro e w1 ⟨rfl, hb⟩; obtain ⟨hc1, _⟩ := cells_mid4 ((hb.block tb (heap_lt HC.out)).trans HC.out); obtain ⟨d0, d1, d2, d3⟩ := (HO.out.below hb).cells4 HX.out; have z1 := (HO.out.below hb).unfrozen (pos l p * 4 + 1); have HB1 := Sc.mk hb; clear hb)
    go_ret
    refine ⟨by rw [HH.out]; rfl, ?_⟩
    have hk := (Kp.of_below HB1.out (fun q => q = g)).trans (Kp.setCell w1 ⟨g, pos l p * 4 + 1, none⟩ (.int .i64 s)) (fun q hq => .inl hq)
    refine RLeftT.turned HT.out (hk.block tb (heap_lt HC.out) (fun he => HP.out (by rw [he]))) HC.out ?_ HR.out hk
    rw [HU.out]
    exact Own.set kind4 (HO.out.below HB1.out) (k := pos l p) (j := 1) (x := x) (x' := (x.1, s, x.2.2.1, x.2.2.2)) (u := .int .i64 s) HX.out (by omega) rfl
  · have hh : has l p = false := by simpa using hh
    have HHN := Sc.mk hh
    have HT := Sc.mk h
    have HA : Sc (upd l p (fun y => (s, y.2.1, y.2.2)) = l) := ⟨upd_no _ hh⟩
    clear h
    go_enter Tryd.func57, Tryd.ntmps57
    go_wp2_with (go_at_call 76; refine (rPlace_no _ tb row l m _ HT.out hlen HHN.out).mono ?_; rintro e w' ⟨rfl, hb⟩)
    go_ret
    exact ⟨by simp [hh], by rw [HA.out]; exact RLeftT.same HT.out hb⟩

set_option maxRecDepth 4000 in
set_option maxHeartbeats 2000000 in
theorem rNoteT_any (w : World) (tb : Nat) (row : Option Nat) (l : List TX) (m : Int) (p a b : Int) (h : RTabT R w tb row l m) (hlen : l.length ≤ 1000000) :
    Calls Tryd.prog 59 #[.pointer (some ⟨tb, 1, none⟩), .int .i64 p, .int .i64 a, .int .i64 b] w fun e w' => e = .returned (.bool (has l p)) ∧ RLeftT R tb row (upd l p (fun y => (y.1, a, b))) m w w' := by
  by_cases hh : has l p = true
  · have HHY := Sc.mk hh
    have HT := Sc.mk h
    obtain ⟨⟨v, hv, hc, hown⟩, hap, hr⟩ := h
    have hlt := has_lt hr hh
    obtain ⟨g, cap, rfl, _, _, _, _⟩ := hown.form (by omega)
    obtain ⟨x, hx, hxp⟩ := (has_at hr p).1 hh
    have hv : some g = row := hv
    subst hv
    have HU : Sc (upd l p (fun y => (y.1, a, b)) = l.set (pos l p) (x.1, x.2.1, a, b)) := ⟨upd_yes _ hh hx⟩
    have HR : Sc (Rising (upd l p (fun y => (y.1, a, b)))) := ⟨upd_rising hr p _⟩
    have HO := Sc.mk hown
    have HC := Sc.mk hc
    have HX := Sc.mk hx
    have HH := Sc.mk hh
    have HP := Sc.mk hap
    have hltI : (pos l p : Int) < l.length := by omega
    clear hown hv hc hr hap hx hxp
    go_enter Tryd.func59, Tryd.ntmps59
    go_wp2_with (go_at_call 76; refine (rPlace_yes _ tb _ l m _ HT.out hlen HHY.out).mono ?_; rintro e w1 ⟨rfl, hb⟩; obtain ⟨hc1, _⟩ := cells_mid4 ((hb.block tb (heap_lt HC.out)).trans HC.out); obtain ⟨d0, d1, d2, d3⟩ := (HO.out.below hb).cells4 HX.out; have z2 := (HO.out.below hb).unfrozen (pos l p * 4 + 2); have z3 := (HO.out.below hb).unfrozen (pos l p * 4 + 3); have HB1 := Sc.mk hb; clear hb)
    go_ret
    refine ⟨by rw [HH.out]; rfl, ?_⟩
    have hk1 := (Kp.of_below HB1.out (fun q => q = g)).trans (Kp.setCell w1 ⟨g, pos l p * 4 + 2, none⟩ (.int .i64 a)) (fun q hq => .inl hq)
    have hk := (hk1.trans (Kp.setCell _ ⟨g, pos l p * 4 + 3, none⟩ (.int .i64 b)) (fun q hq => .inl hq))
    refine RLeftT.turned HT.out (hk.block tb (heap_lt HC.out) (fun he => HP.out (by rw [he]))) HC.out ?_ HR.out hk
    rw [HU.out]
    have h1 := Own.set kind4 (HO.out.below HB1.out) (k := pos l p) (j := 2) (x := x) (x' := (x.1, x.2.1, a, x.2.2.2)) (u := .int .i64 a) HX.out (by omega) rfl
    have h2 := Own.set kind4 h1 (k := pos l p) (j := 3) (x := (x.1, x.2.1, a, x.2.2.2)) (x' := (x.1, x.2.1, a, b)) (u := .int .i64 b) (by rw [List.getElem?_set_self (List.getElem?_eq_some_iff.1 HX.out).1]) (by omega) rfl
    rw [List.set_set] at h2
    exact h2
  · have hh : has l p = false := by simpa using hh
    have HHN := Sc.mk hh
    have HT := Sc.mk h
    have HA : Sc (upd l p (fun y => (y.1, a, b)) = l) := ⟨upd_no _ hh⟩
    clear h
    go_enter Tryd.func59, Tryd.ntmps59
    go_wp2_with (go_at_call 76; refine (rPlace_no _ tb row l m _ HT.out hlen HHN.out).mono ?_; rintro e w' ⟨rfl, hb⟩)
    go_ret
    exact ⟨by simp [hh], by rw [HA.out]; exact RLeftT.same HT.out hb⟩

set_option maxRecDepth 4000 in
set_option maxHeartbeats 2000000 in
theorem rDropT_any (w : World) (tb : Nat) (row : Option Nat) (l : List TX) (m : Int) (p : Int) (h : RTabT R w tb row l m) (hlen : l.length ≤ 1000000) :
    Calls Tryd.prog 58 #[.pointer (some ⟨tb, 1, none⟩), .int .i64 p] w fun e w' => e = .returned (.bool (has l p)) ∧ RLeftT R tb row (drop' l p) m w w' := by
  have HTab := Sc.mk h
  have HLen := Sc.mk hlen
  cases hh : has l p with
  | false =>
    have HH := Sc.mk hh
    have HD : Sc (drop' l p = l) := ⟨drop'_no hh⟩
    clear h hh hlen
    go_enter Tryd.func58, Tryd.ntmps58
    go_wp2_with (go_at_call 76; refine (rPlace_no _ tb row l m _ HTab.out HLen.out HH.out).mono ?_; rintro e w1 ⟨rfl, hb⟩; have HB1 := Sc.mk hb; clear hb)
    go_ret
    exact ⟨rfl, by rw [HD.out]; exact RLeftT.same HTab.out HB1.out⟩
  | true =>
    obtain ⟨i0, hi, hz0, hz1, hz2⟩ := info_parts infoCloT
    obtain ⟨⟨v, hv, hc, hown⟩, hap, hr⟩ := h
    have hlt := has_lt hr hh
    obtain ⟨g, cap, rfl, _, hgw, hnc, hcm⟩ := hown.form (by omega)
    obtain ⟨n, hn⟩ : ∃ n, l.length = n := ⟨_, rfl⟩
    rw [hn] at hown hlen hc hlt hnc
    obtain ⟨i, hpi⟩ : ∃ i, pos l p = i := ⟨_, rfl⟩
    have HPL : Sc ((if has l p = true then (pos l p : Int) else -1) = (i : Int)) := ⟨by rw [if_pos hh, hpi]⟩
    rw [hpi] at hlt
    obtain ⟨hc1, _⟩ := cells_mid4 hc
    have hfz := unfrozen_at hc 1
    have HTL := Sc.mk (heap_lt hc)
    have HC := Sc.mk hc
    have HO := Sc.mk hown
    have HR := Sc.mk hr
    have HL := Sc.mk hh
    have HD : Sc (drop' l p = l.take i ++ l.drop (i + 1)) := ⟨by rw [drop'_yes hh, hpi]⟩
    have HTk := Sc.mk (hown.take kind4 (k := i) (by omega))
    have HT : Sc ((l.take i).length = i) := ⟨by rw [List.length_take, hn]; omega⟩
    have HE : Sc ((l.drop (i + 1)).length = n - (i + 1)) := ⟨by rw [List.length_drop, hn]⟩
    have HTl0 : Sc (∀ j u, (flat enc4 (l.drop (i + 1)))[j]? = some u → w.cell? ((⟨g, (i + 1) * 4, none⟩ : Addr).add j) = some u) := ⟨hown.tail kind4 (i + 1)⟩
    have hil : (i : Int) < n := by omega
    have n0 : i ≤ cap := by omega
    have n1 : n ≤ cap := by omega
    have n2 : (i : Int) ≤ cap := by omega
    have n3 : (i : Int) + 1 ≤ n := by omega
    have n4 : ((i : Int) + 1).toNat = i + 1 := by omega
    have n5 : (0 : Int) ≤ (i : Int) + 1 := by omega
    have n6 : (n : Int) ≤ cap := by omega
    have n7 : ¬ (i : Int) < 0 := by omega
    clear hown hc hr hv hap hn hh hpi hgw
    by_cases hcap : cap = i + 1
    · subst hcap
      have HTl : Sc (∀ j u, (flat enc4 (l.drop (i + 1)))[j]? = some u → w.cell? ((⟨g, 0, none⟩ : Addr).add j) = some u) := ⟨fun j u hj => by
        have hz : l.drop (i + 1) = [] := List.eq_nil_of_length_eq_zero (by rw [HE.out]; omega)
        rw [hz] at hj; cases hj⟩
      clear HTl0 hcm
      go_enter Tryd.func58, Tryd.ntmps58
      go_wp2_with (first | (go_at_call 76; refine (rPlace_any _ tb row l m _ HTab.out HLen.out).mono ?_; rintro e w1 ⟨rfl, rfl⟩; rw [HPL.out]) | (go_at_call 73; refine (txnCopy_any w 0 _ (l.take i) HTk.out (by rw [HT.out]; omega)).mono ?_; rintro e w2 ⟨v2, rfl, ho, hb2⟩; obtain ⟨A2, c2, rfl, _, _⟩ := ho.slice; have hcw2 := (hb2.block _ HTL.out).trans HC.out; obtain ⟨hc2, _⟩ := cells_mid4 hcw2; have HO2 := Sc.mk ho; have HB2 := Sc.mk hb2; rw [HT.out] at HO2 ⊢; clear ho hb2 hcw2) | (at_builtin; go_loud (refine wpList_append_own_at _ rfl (.tmp 20) (.tmp 27) 34 rfl w.heap.size 56 i0 (.agg #[.int .i64 0, .int .i64 0, .int .i64 0, .int .i64 0]) 4 32 Tryd.underlying34 hi hz0 hz1 hz2 rfl (by decide) _ i (flat enc4 (l.take i)) rfl (HO2.out.rows HT.out) ⟨g, 0, none⟩ 0 0 (flat enc4 (l.drop (i + 1))) rfl ?c1 (cells_below HB2.out HTl.out) (kind4.flat_one _) ?c3 ?c4 ?c5 ?_)))
      case c1 => rw [kind4.flat_length, HE.out] <;> omega
      case c3 => unfold maxLen; omega
      case c4 => omega
      case c5 => exact HB2.out.size
      intro v3 w3 h1 h2 h3 h4
      have H1 : Sc (Own enc4 4 56 w.heap.size w3 v3 (drop' l p)) := ⟨Own.of_rows h1 (by rw [HD.out, List.length_append, HT.out, HE.out] <;> omega) (by rw [HD.out, flat_append])⟩
      have H2 : Sc (Below w.heap.size w w3) := ⟨HB2.out.grown h2 HB2.out.size (fun k hk => (HO2.out.lt k hk).1)⟩
      have hcw3 := (H2.out.block _ HTL.out).trans HC.out
      obtain ⟨hc3, _⟩ := cells_mid4 hcw3
      have hf3 := unfrozen_at hcw3 1
      have HC3 := Sc.mk hcw3
      obtain ⟨A3, n3', c3, rfl⟩ := H1.out.slice3
      clear h1 h2 h3 h4 hcw3
      go_wp2
      go_ret
      refine ⟨rfl, ?_⟩
      exact RLeftT.stored HC3.out (H1.out.mono (Nat.zero_le _)) (drop'_rising HR.out p) HTL.out (Kp.of_below H2.out _) (fun q hq => (H1.out.lt q hq).1)

    · have HTl := HTl0
      clear HTl0 hcm
      go_enter Tryd.func58, Tryd.ntmps58
      go_wp2_with (first | (go_at_call 76; refine (rPlace_any _ tb row l m _ HTab.out HLen.out).mono ?_; rintro e w1 ⟨rfl, rfl⟩; rw [HPL.out]) | (go_at_call 73; refine (txnCopy_any w 0 _ (l.take i) HTk.out (by rw [HT.out]; omega)).mono ?_; rintro e w2 ⟨v2, rfl, ho, hb2⟩; obtain ⟨A2, c2, rfl, _, _⟩ := ho.slice; have hcw2 := (hb2.block _ HTL.out).trans HC.out; obtain ⟨hc2, _⟩ := cells_mid4 hcw2; have HO2 := Sc.mk ho; have HB2 := Sc.mk hb2; rw [HT.out] at HO2 ⊢; clear ho hb2 hcw2) | (at_builtin; go_loud (refine wpList_append_own_at _ rfl (.tmp 20) (.tmp 27) 34 rfl w.heap.size 56 i0 (.agg #[.int .i64 0, .int .i64 0, .int .i64 0, .int .i64 0]) 4 32 Tryd.underlying34 hi hz0 hz1 hz2 rfl (by decide) _ i (flat enc4 (l.take i)) rfl (HO2.out.rows HT.out) ⟨g, (i + 1) * 4, none⟩ (n - (i + 1)) (cap - (i + 1)) (flat enc4 (l.drop (i + 1))) rfl ?c1 (cells_below HB2.out HTl.out) (kind4.flat_one _) ?c3 ?c4 ?c5 ?_)))
      case c1 => rw [kind4.flat_length, HE.out] <;> omega
      case c3 => unfold maxLen; omega
      case c4 => omega
      case c5 => exact HB2.out.size
      intro v3 w3 h1 h2 h3 h4
      have H1 : Sc (Own enc4 4 56 w.heap.size w3 v3 (drop' l p)) := ⟨Own.of_rows h1 (by rw [HD.out, List.length_append, HT.out, HE.out] <;> omega) (by rw [HD.out, flat_append])⟩
      have H2 : Sc (Below w.heap.size w w3) := ⟨HB2.out.grown h2 HB2.out.size (fun k hk => (HO2.out.lt k hk).1)⟩
      have hcw3 := (H2.out.block _ HTL.out).trans HC.out
      obtain ⟨hc3, _⟩ := cells_mid4 hcw3
      have hf3 := unfrozen_at hcw3 1
      have HC3 := Sc.mk hcw3
      obtain ⟨A3, n3', c3, rfl⟩ := H1.out.slice3
      clear h1 h2 h3 h4 hcw3
      go_wp2
      go_ret
      refine ⟨rfl, ?_⟩
      exact RLeftT.stored HC3.out (H1.out.mono (Nat.zero_le _)) (drop'_rising HR.out p) HTL.out (Kp.of_below H2.out _) (fun q hq => (H1.out.lt q hq).1)
end Go.Proofs.YtoapihepdallbaaDoor
