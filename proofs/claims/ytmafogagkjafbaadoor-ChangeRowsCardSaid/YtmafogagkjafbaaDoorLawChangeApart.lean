/- The walk of ChangeApart: changes of unlike keys come to the same keys in either order. -/
import Derived.Test.YtmafogagkjafbaaDoorLawChangeBack
namespace Go.Proofs.YtmafogagkjafbaaDoor
open Go.RowKit

/-- What a change does to rows of keys. -/
def chg (l : List (Int × Int)) (r : RecD) : List (Int × Int) := if r.has = true then setIn l (r.key, r.new) else drop' l r.key
theorem chg_rising {l : List (Int × Int)} (hr : Rising l) (r : RecD) : Rising (chg l r) := by unfold chg; split; exact setIn_rising hr _; exact drop'_rising hr _
theorem chg_room {l : List (Int × Int)} (r : RecD) {m : Nat} (h : l.length ≤ m) : (chg l r).length ≤ m + 1 := by
  unfold chg; split
  · exact setIn_room h
  · have := drop'_length l r.key; omega
theorem look_chg {l : List (Int × Int)} (hr : Rising l) (r : RecD) (k : Int) : look (chg l r) k = if k = r.key then (if r.has = true then some r.new else none) else look l k := by
  unfold chg
  cases r.has with
  | true => rw [if_pos rfl, look_setIn hr]; rfl
  | false => rw [if_neg (by simp), look_drop hr]; rfl
theorem chg_apart {l : List (Int × Int)} (hr : Rising l) (r s : RecD) (h : r.key ≠ s.key) : chg (chg l r) s = chg (chg l s) r := by
  refine look_ext (chg_rising (chg_rising hr r) s) (chg_rising (chg_rising hr s) r) fun k => ?_
  rw [look_chg (chg_rising hr r), look_chg (chg_rising hr s), look_chg hr, look_chg hr]
  by_cases h1 : k = r.key
  · by_cases h2 : k = s.key
    · exact absurd (h1.symm.trans h2) h
    · rw [if_neg h2, if_pos h1, if_pos h1]
  · by_cases h2 : k = s.key
    · rw [if_pos h2, if_neg h1, if_pos h2]
    · rw [if_neg h2, if_neg h1, if_neg h1, if_neg h2]
theorem st2 {w : World} {b c : Nat} {o : Obj} {u u' : Value} (h : w.heap[c]? = some o) (hne : c ≠ b) : ((w.setCell ⟨b, 0, none⟩ u).setCell ⟨b, 1, none⟩ u').heap[c]? = some o :=
  ((Kp.setCell w ⟨b, 0, none⟩ u).trans (Kp.setCell _ ⟨b, 1, none⟩ u') (fun _ hq => .inl hq)).at h hne
theorem Own.st2 {w : World} {e : TypeId} {base b : Nat} {v u u' : Value} {l : List (Int × Int)} (h : Own enc2 2 e base w v l) (hne : v.ownBlock ≠ some b) : Own enc2 2 e base ((w.setCell ⟨b, 0, none⟩ u).setCell ⟨b, 1, none⟩ u') v l :=
  h.kp ((Kp.setCell w ⟨b, 0, none⟩ u).trans (Kp.setCell _ ⟨b, 1, none⟩ u') (fun _ hq => .inl hq)) (fun q hq he => hne (by rw [hq, he]))
theorem Own.not {w : World} {e : TypeId} {base b : Nat} {v : Value} {l : List (Int × Int)} (h : Own enc2 2 e base w v l) (hb : b < base ∨ w.heap.size ≤ b) : v.ownBlock ≠ some b := fun he => by have := h.lt b he; omega
theorem dn_st2 {w0 w : World} {b : Nat} {u u' : Value} (h : Below w0.heap.size w0 w) (hb : w0.heap.size ≤ b) : Below w0.heap.size w0 ((w.setCell ⟨b, 0, none⟩ u).setCell ⟨b, 1, none⟩ u') := (h.setCell hb _).setCell hb _

abbrev apR (ka v : Int) : RecD := ⟨2, 1, 1, 0, 0, ka, false, true, 0, v⟩
abbrev apS (kb : Int) (hs : Bool) (v : Int) : RecD := ⟨3, 2, 1, 0, 0, kb, true, hs, 1, v⟩
set_option maxRecDepth 10000 in
set_option maxHeartbeats 8000000 in
theorem changeApart_walk (a : Option Addr) (len cap : Nat) (zs : List Int) (ka0 kb0 v x : Int) (w : World) (hrow : IsRow .i64 w a len cap zs) :
    Calls Tryd.prog 7 #[.slice a len cap, .int .i64 ka0, .int .i64 kb0, .int .i64 v, .int .i64 x] w fun e w' => e = .returned (.bool true) ∧ Below w.heap.size w w' := by
  have HW := Sc.mk hrow
  clear hrow
  by_cases hbig : 100 < len
  · have hbig' : (100 : Int) < len := by omega
    clear HW
    go_enter Tryd.func7, Tryd.ntmps7
    go_wp2_with (go_at_call 14; refine (first8_any _).mono ?_; rintro e w1 ⟨rfl, hb⟩)
    go_ret
    exact ⟨rfl, hb⟩
  · have hbig' : ¬ (100 : Int) < len := by omega
    obtain ⟨ka, hka⟩ : ∃ kd, ka0 % 60 = kd := ⟨_, rfl⟩
    obtain ⟨kc, hkc⟩ : ∃ kd, kb0 % 59 = kd := ⟨_, rfl⟩
    have hc0 : 0 ≤ kc := by omega
    have hc1 : kc < 59 := by omega
    have HKA := Sc.mk hka
    have HKC := Sc.mk hkc
    clear hka hkc
    go_enter Tryd.func7, Tryd.ntmps7
    go_wp2_with fail
    refine (first8_any _).mono ?_
    rintro e w1 ⟨rfl, hb⟩
    have HB1 := Sc.mk hb
    clear hb
    go_wp2_with fail
    refine (makePage_any w _ _ a len cap zs 0 16 (SeqIs.made HW.out HB1.out) (by omega) (by omega)).mono ?_
    rintro e w2 ⟨n, l, A, s, c, k', rfl, hn1, hn50, hr, hl20, hl18, hrange, ho, hs, hk', hkp⟩
    have HB2 : Sc (Below w.heap.size w w2) := ⟨made_below HB1.out hkp rfl⟩
    have HO2 : Sc (Own enc2 2 56 w.heap.size w2 (.slice A s c) l) := ⟨ho.mono (by have := HB1.out.size; simp; omega)⟩
    have HR := Sc.mk hr
    have HL := Sc.mk hl18
    clear ho hr hl20 hl18 hrange hs hk' hkp
    go_wp2_with fail
    refine (number_is ka0 60 ka _ HKA.out (by omega) (by omega)).mono ?_
    rintro e w3 ⟨rfl, rfl⟩
    go_wp2_with fail
    refine (number_is kb0 59 kc _ HKC.out (by omega) (by omega)).mono ?_
    rintro e w3 ⟨rfl, rfl⟩
    go_upto_if 42 with fail
    go_cut [2] from 40 to 44 (fun s2 wx => ∃ kb : Int, s2 = .int .i64 kb ∧ ka ≠ kb ∧ wx = w2.alloc (.cells #[.int .i64 n, .slice A s c] 29))
    case first =>
      by_cases hge : ka ≤ kc
      · go_wp2_with fail
        go_meet
        case rel => exact ⟨kc + 1, rfl, by omega, rfl⟩
      · go_wp2_with fail
        go_meet
        case rel => exact ⟨kc, rfl, by omega, rfl⟩
    case rest =>
      obtain ⟨kb, rfl, hne, rfl⟩ := hcut
      have HNE := Sc.mk hne
      clear hne
      go_upto_region 13 with fail
      generalize (bits BinOp.and IntKind.i64 x 1 == 0) = hs
      obtain ⟨x1, hx1⟩ : ∃ x1, (if hs = true then x else 0) = x1 := ⟨_, rfl⟩
      have HX1 := Sc.mk hx1
      clear hx1
      go_upto_if 54 with fail
      go_cut [] from 53 to 56 (fun wx => wx = (((w2.alloc (.cells #[.int .i64 n, .slice A s c] 29)).alloc (.cells (cellsR (apR ka v)) 32)).alloc (.cells (cellsR (apS kb hs x1)) 32)))
      case first =>
        cases hs with
        | true =>
          obtain rfl : x = x1 := by simpa using HX1.out
          go_wp2_with fail
          go_meet
          case rel => rfl
        | false =>
          obtain rfl : (0 : Int) = x1 := by simpa using HX1.out
          go_wp2_with fail
          go_meet
          case rel => rfl
      case rest =>
        subst hcut
        have H3 := Sc.mk (heap3 w2 (.cells #[.int .i64 n, .slice A s c] 29) (.cells (cellsR (apR ka v)) 32) (.cells (cellsR (apS kb hs x1)) 32))
        have HB3 : Sc (Below w.heap.size w (((w2.alloc (.cells #[.int .i64 n, .slice A s c] 29)).alloc (.cells (cellsR (apR ka v)) 32)).alloc (.cells (cellsR (apS kb hs x1)) 32))) := ⟨dn_alloc (dn_alloc (dn_alloc HB2.out _) _) _⟩
        have HO3 := Sc.mk (((HO2.out.alloc (.cells #[.int .i64 n, .slice A s c] 29)).alloc (.cells (cellsR (apR ka v)) 32)).alloc (.cells (cellsR (apS kb hs x1)) 32))
        have HEQ : Sc (chg (chg l (apR ka v)) (apS kb hs x1) = chg (chg l (apS kb hs x1)) (apR ka v)) := ⟨chg_apart HR.out _ _ HNE.out⟩
        go_wp2_with fail
        refine (redoChange_any _ w.heap.size n _ l (n + 1) (apR ka v) HO3.out HR.out (by have := HL.out; omega) (.inl rfl) (by omega)).mono ?_
        rintro e w4 ⟨A4, s4, c4, rfl, ho4, hb4⟩
        have HB4 := Sc.mk (below_down HB3.out hb4)
        have HO4 : Sc (Own enc2 2 56 w.heap.size w4 (.slice A4 s4 c4) (chg l (apR ka v))) := ⟨ho4.mono HB3.out.size⟩
        have HPO4 := Sc.mk (HO3.out.below hb4)
        have HP4 := Sc.mk (up hb4 H3.out.1)
        have HR4 := Sc.mk (up hb4 H3.out.2.1)
        have HS4 := Sc.mk (up hb4 H3.out.2.2)
        have HRC1 : Sc (Rising (chg l (apR ka v)) ∧ (chg l (apR ka v)).length ≤ 17 ∧ Rising (chg l (apS kb hs x1)) ∧ (chg l (apS kb hs x1)).length ≤ 17) := ⟨chg_rising HR.out _, chg_room _ HL.out, chg_rising HR.out _, chg_room _ HL.out⟩
        obtain ⟨p0, p1⟩ := cells_page HP4.out
        obtain ⟨y0, y1, y2, y3, y4, y5, y6, y7, y8, y9⟩ := cells_recs HS4.out
        have m1 := heap_lt HP4.out
        have m2 := heap_lt HS4.out
        clear ho4 hb4
        go_wp2_with fail
        refine (redoChange_any _ w.heap.size (n + 1) _ (chg l (apR ka v)) (n + 2) (apS kb hs x1) (HO4.out.alloc _) HRC1.out.1 (by have := HRC1.out.2.1; omega) (.inr rfl) (by omega)).mono ?_
        rintro e w5 ⟨A5, s5, c5, rfl, ho5, hb5⟩
        have HB5 := Sc.mk (below_down (dn_alloc HB4.out _) hb5)
        have HPO5 := Sc.mk ((HPO4.out.alloc (.cells #[.int .i64 (n + 1), .slice A4 s4 c4] 29)).below hb5)
        have HP5 := Sc.mk (up hb5 (upa HP4.out (.cells #[.int .i64 (n + 1), .slice A4 s4 c4] 29)))
        have HR5 := Sc.mk (up hb5 (upa HR4.out (.cells #[.int .i64 (n + 1), .slice A4 s4 c4] 29)))
        have HS5 := Sc.mk (up hb5 (upa HS4.out (.cells #[.int .i64 (n + 1), .slice A4 s4 c4] 29)))
        have HX5 := Sc.mk (up hb5 (heap_alloc_new w4 (.cells #[.int .i64 (n + 1), .slice A4 s4 c4] 29)))
        have HO5 : Sc (Own enc2 2 56 (w4.alloc (.cells #[.int .i64 (n + 1), .slice A4 s4 c4] 29)).heap.size w5 (.slice A5 s5 c5) (chg (chg l (apR ka v)) (apS kb hs x1))) := ⟨ho5⟩
        have NE5 : Sc (w2.heap.size ≠ w4.heap.size ∧ w2.heap.size + 1 ≠ w4.heap.size ∧ w2.heap.size + 1 + 1 ≠ w4.heap.size ∧ (Value.slice A s c).ownBlock ≠ some w4.heap.size ∧ w.heap.size ≤ w4.heap.size) := ⟨by
          have := heap_lt HP4.out; have := heap_lt HR4.out; have := heap_lt HS4.out
          exact ⟨by omega, by omega, by omega, HPO4.out.not (.inr (Nat.le_refl _)), HB4.out.size⟩⟩
        obtain ⟨f0, f1⟩ := cells_page HX5.out
        have g0 := unfrozen_at HX5.out 0
        have g1 := unfrozen_at HX5.out 1
        clear ho5 hb5 p0 p1 y0 y1 y2 y3 y4 y5 y6 y7 y8 y9 m1 m2
        go_upto_region 17 with fail
        have HPX := Sc.mk (st2 (u := .int .i64 (n + 2)) (u' := .slice A5 s5 c5) HP5.out NE5.out.1)
        have HRX := Sc.mk (st2 (u := .int .i64 (n + 2)) (u' := .slice A5 s5 c5) HR5.out NE5.out.2.1)
        have HSX := Sc.mk (st2 (u := .int .i64 (n + 2)) (u' := .slice A5 s5 c5) HS5.out NE5.out.2.2.1)
        have HPOX := Sc.mk (HPO5.out.st2 (u := .int .i64 (n + 2)) (u' := .slice A5 s5 c5) NE5.out.2.2.2.1)
        have HOX := Sc.mk ((HO5.out.st2 (u := .int .i64 (n + 2)) (u' := .slice A5 s5 c5) (HO5.out.not (.inl (by simp : w4.heap.size < _)))).mono (dn_alloc HB4.out _).size)
        have HBX := Sc.mk (dn_st2 (u := .int .i64 (n + 2)) (u' := .slice A5 s5 c5) HB5.out NE5.out.2.2.2.2)
        have HXX : Sc (((w5.setCell ⟨w4.heap.size, 0, none⟩ (.int .i64 (n + 2))).setCell ⟨w4.heap.size, 1, none⟩ (.slice A5 s5 c5)).heap[w4.heap.size]? = some (.cells #[.int .i64 (n + 2), .slice A5 s5 c5] 29 (0, 0))) := ⟨by rw [set_one (set_one HX5.out 0 _) 1 _]; rfl⟩
        generalize hwx : (w5.setCell ⟨w4.heap.size, 0, none⟩ _).setCell ⟨w4.heap.size, 1, none⟩ _ = wx
        rw [hwx] at HPX HRX HSX HPOX HOX HBX HXX
        clear hwx f0 f1 g0 g1
        obtain ⟨p0, p1⟩ := cells_page HPX.out
        obtain ⟨y0, y1, y2, y3, y4, y5, y6, y7, y8, y9⟩ := cells_recs HSX.out
        have m1 := heap_lt HPX.out
        have m2 := heap_lt HSX.out
        go_wp2_with fail
        refine (redoChange_any _ w.heap.size n _ l (n + 1) (apS kb hs x1) HPOX.out HR.out (by have := HL.out; omega) (.inr rfl) (by omega)).mono ?_
        rintro e w6 ⟨A6, s6, c6, rfl, ho6, hb6⟩
        have HB6 := Sc.mk (below_down HBX.out hb6)
        have HO6 : Sc (Own enc2 2 56 w.heap.size w6 (.slice A6 s6 c6) (chg l (apS kb hs x1))) := ⟨ho6.mono HBX.out.size⟩
        have HX6 := Sc.mk (up hb6 HXX.out)
        have HOX6 := Sc.mk (HOX.out.below hb6)
        have HP6 := Sc.mk (up hb6 HPX.out)
        have HR6 := Sc.mk (up hb6 HRX.out)
        obtain ⟨q0, q1⟩ := cells_page HP6.out
        obtain ⟨r0, r1, r2, r3, r4, r5, r6, r7, r8, r9⟩ := cells_recs HR6.out
        have n1 := heap_lt HP6.out
        have n2 := heap_lt HR6.out
        clear ho6 hb6 p0 p1 y0 y1 y2 y3 y4 y5 y6 y7 y8 y9 m1 m2
        go_wp2_with fail
        refine (redoChange_any _ w.heap.size (n + 1) _ (chg l (apS kb hs x1)) (n + 2) (apR ka v) (HO6.out.alloc _) HRC1.out.2.2.1 (by have := HRC1.out.2.2.2; omega) (.inl rfl) (by omega)).mono ?_
        rintro e w7 ⟨A7, s7, c7, rfl, ho7, hb7⟩
        have HB7 := Sc.mk (below_down (dn_alloc HB6.out _) hb7)
        have HX7 := Sc.mk (up hb7 (upa HX6.out (.cells #[.int .i64 (n + 1), .slice A6 s6 c6] 29)))
        have HOX7 := Sc.mk ((HOX6.out.alloc (.cells #[.int .i64 (n + 1), .slice A6 s6 c6] 29)).below hb7)
        have HY7 := Sc.mk (up hb7 (heap_alloc_new w6 (.cells #[.int .i64 (n + 1), .slice A6 s6 c6] 29)))
        have HO7 : Sc (Own enc2 2 56 (w6.alloc (.cells #[.int .i64 (n + 1), .slice A6 s6 c6] 29)).heap.size w7 (.slice A7 s7 c7) (chg (chg l (apS kb hs x1)) (apR ka v))) := ⟨ho7⟩
        have NE7 : Sc (w4.heap.size ≠ w6.heap.size ∧ (Value.slice A5 s5 c5).ownBlock ≠ some w6.heap.size ∧ w.heap.size ≤ w6.heap.size) := ⟨by
          have := heap_lt HX6.out
          exact ⟨by omega, HOX6.out.not (.inr (Nat.le_refl _)), HB6.out.size⟩⟩
        obtain ⟨f0, f1⟩ := cells_page HY7.out
        have g0 := unfrozen_at HY7.out 0
        have g1 := unfrozen_at HY7.out 1
        clear ho7 hb7 q0 q1 r0 r1 r2 r3 r4 r5 r6 r7 r8 r9 n1 n2
        go_upto_region 19 with fail
        have HXY := Sc.mk (st2 (u := .int .i64 (n + 2)) (u' := .slice A7 s7 c7) HX7.out NE7.out.1)
        have HOXY := Sc.mk (HOX7.out.st2 (u := .int .i64 (n + 2)) (u' := .slice A7 s7 c7) NE7.out.2.1)
        have HOY := Sc.mk ((HO7.out.st2 (u := .int .i64 (n + 2)) (u' := .slice A7 s7 c7) (HO7.out.not (.inl (by simp : w6.heap.size < _)))).mono (dn_alloc HB6.out _).size)
        have HBY := Sc.mk (dn_st2 (u := .int .i64 (n + 2)) (u' := .slice A7 s7 c7) HB7.out NE7.out.2.2)
        have HYY : Sc (((w7.setCell ⟨w6.heap.size, 0, none⟩ (.int .i64 (n + 2))).setCell ⟨w6.heap.size, 1, none⟩ (.slice A7 s7 c7)).heap[w6.heap.size]? = some (.cells #[.int .i64 (n + 2), .slice A7 s7 c7] 29 (0, 0))) := ⟨by rw [set_one (set_one HY7.out 0 _) 1 _]; rfl⟩
        generalize hwy : (w7.setCell ⟨w6.heap.size, 0, none⟩ _).setCell ⟨w6.heap.size, 1, none⟩ _ = wy
        rw [hwy] at HXY HOXY HOY HBY HYY
        clear hwy f0 f1 g0 g1
        obtain ⟨p0, p1⟩ := cells_page HXY.out
        obtain ⟨q0, q1⟩ := cells_page HYY.out
        go_wp2_with fail
        refine (samePage_refl _ w.heap.size w.heap.size (n + 2) _ _ (chg (chg l (apR ka v)) (apS kb hs x1)) HOXY.out (by rw [HEQ.out]; exact HOY.out) (by have := chg_room (apS kb hs x1) HRC1.out.2.1; omega)).mono ?_
        rintro e w9 ⟨rfl, hb9⟩
        have HB9 := Sc.mk (below_down HBY.out hb9)
        clear hb9 p0 p1 q0 q1
        go_wp2
        go_ret
        exact ⟨rfl, HB9.out⟩
end Go.Proofs.YtmafogagkjafbaaDoor
