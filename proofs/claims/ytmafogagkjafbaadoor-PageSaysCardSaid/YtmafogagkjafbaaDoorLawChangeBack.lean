/- The walk of ChangeBack: a change, and what undoes it, leave a page's keys as they were. -/
import Derived.Test.YtmafogagkjafbaaDoorLawChangeKinds
namespace Go.Proofs.YtmafogagkjafbaaDoor
open Go.RowKit

theorem back_rows {l : List (Int × Int)} (hr : Rising l) (key v : Int) (has1 : Bool) :
    (if has l key = true then setIn (if has1 = true then setIn l (key, v) else drop' l key) (key, (look l key).getD 0) else drop' (if has1 = true then setIn l (key, v) else drop' l key) key) = l := by
  have h1 : Rising (if has1 = true then setIn l (key, v) else drop' l key) := by split; exact setIn_rising hr _; exact drop'_rising hr _
  have hk : ∀ k, k ≠ key → look (if has1 = true then setIn l (key, v) else drop' l key) k = look l k := fun k hk => by
    split
    · rw [look_setIn hr, if_neg hk]
    · rw [look_drop hr, if_neg hk]
  cases hh : has l key with
  | true =>
    rw [if_pos rfl]
    refine look_ext (setIn_rising h1 _) hr fun k => ?_
    rw [look_setIn h1]
    by_cases h : k = key
    · subst h
      rw [if_pos rfl]
      rw [has_look hr] at hh
      cases hl : look l k with
      | none => rw [hl] at hh; cases hh
      | some x => rfl
    · rw [if_neg h, hk k h]
  | false =>
    rw [if_neg (by simp)]
    refine look_ext (drop'_rising h1 _) hr fun k => ?_
    rw [look_drop h1]
    by_cases h : k = key
    · subst h
      rw [if_pos rfl, look_none hh]
    · rw [if_neg h, hk k h]
theorem setIn_room {l : List (Int × Int)} {x : Int × Int} {m : Nat} (h : l.length ≤ m) : (setIn l x).length ≤ m + 1 := by have := setIn_length l x; omega
/-- What is told of the page behind the change. -/
theorem back_look {l : List (Int × Int)} (hr : Rising l) (key v : Int) (has1 : Bool) :
    has (if has1 = true then setIn l (key, v) else drop' l key) key = has1 ∧ (has1 = true → (look (if has1 = true then setIn l (key, v) else drop' l key) key).getD 0 = v) := by
  have h1 : Rising (if has1 = true then setIn l (key, v) else drop' l key) := by split; exact setIn_rising hr _; exact drop'_rising hr _
  cases has1 with
  | true =>
    rw [if_pos rfl] at h1 ⊢
    have : look (setIn l (key, v)) key = some v := by rw [look_setIn hr, if_pos rfl]
    exact ⟨by rw [has_look h1, this]; rfl, fun _ => by rw [this]; rfl⟩
  | false =>
    rw [if_neg (by simp)] at h1 ⊢
    have : look (drop' l key) key = none := by rw [look_drop hr, if_pos rfl]
    exact ⟨by rw [has_look h1, this]; rfl, fun h => by cases h⟩

theorem redoChange_any (w : World) (base : Nat) (n : Int) (v : Value) (l : List (Int × Int)) (lsn : Int) (r : RecD) (hown : Own enc2 2 56 base w v l) (hr : Rising l) (hlen : l.length < 20) (hk : r.kind = 2 ∨ r.kind = 3) (hn : n < lsn) :
    Calls Tryd.prog 18 #[aggP n v, .int .i64 lsn, aggR r] w (RedoLeft lsn (if r.has = true then setIn l (r.key, r.new) else drop' l r.key) true w) := by
  cases hh : r.has with
  | true => rw [if_pos rfl]; exact redoPut_any w base n v l lsn r hown hr (by omega) hk hn hh (.inr hlen)
  | false => rw [if_neg (by simp)]; exact redoDrop_any w base n v l lsn r hown hr (by omega) hk hn hh

/-- The record of ChangeBack. -/
abbrev backR (key : Int) (had : Bool) (old : Int) (has1 : Bool) (v : Int) : RecD := ⟨2, 1, 1, 0, 0, key, had, has1, old, v⟩
set_option maxRecDepth 10000 in
set_option maxHeartbeats 8000000 in
theorem changeBack_walk (a : Option Addr) (len cap : Nat) (zs : List Int) (key0 : Int) (has1 : Bool) (v : Int) (w : World) (hrow : IsRow .i64 w a len cap zs) :
    Calls Tryd.prog 4 #[.slice a len cap, .int .i64 key0, .bool has1, .int .i64 v] w fun e w' => e = .returned (.bool true) ∧ Below w.heap.size w w' := by
  have HW := Sc.mk hrow
  clear hrow
  by_cases hbig : 100 < len
  · have hbig' : (100 : Int) < len := by omega
    clear HW
    go_enter Tryd.func4, Tryd.ntmps4
    go_wp2_with (go_at_call 14; refine (first8_any _).mono ?_; rintro e w1 ⟨rfl, hb⟩)
    go_ret
    exact ⟨rfl, hb⟩
  · have hbig' : ¬ (100 : Int) < len := by omega
    obtain ⟨key, hkd⟩ : ∃ kd, key0 % 60 = kd := ⟨_, rfl⟩
    have HKD := Sc.mk hkd
    clear hkd
    go_enter Tryd.func4, Tryd.ntmps4
    go_wp2_with fail
    refine (first8_any _).mono ?_
    rintro e w1 ⟨rfl, hb⟩
    have HB1 := Sc.mk hb
    clear hb
    go_wp2_with fail
    refine (makePage_any w _ _ a len cap zs 0 18 (SeqIs.made HW.out HB1.out) (by omega) (by omega)).mono ?_
    rintro e w2 ⟨n, l, A, s, c, k', rfl, hn1, hn50, hr, hl20, hl18, hrange, ho, hs, hk', hkp⟩
    have HB2 : Sc (Below w.heap.size w w2) := ⟨made_below HB1.out hkp rfl⟩
    have HO2 : Sc (Own enc2 2 56 w.heap.size w2 (.slice A s c) l) := ⟨ho.mono (by have := HB1.out.size; simp; omega)⟩
    have HR := Sc.mk hr
    have HL := Sc.mk hl18
    clear ho hr hl20 hl18 hrange hs hk' hkp
    go_wp2_with fail
    refine (number_is key0 60 key _ HKD.out (by omega) (by omega)).mono ?_
    rintro e w3 ⟨rfl, rfl⟩
    go_wp2_with fail
    refine (refFind_any _ w.heap.size n _ l key (HO2.out.alloc _) HR.out (by have := HL.out; omega)).mono ?_
    rintro e w3 ⟨rfl, hb3⟩
    obtain ⟨old, had, HOH⟩ : ∃ (old : Int) (had : Bool), Sc ((look l key).getD 0 = old ∧ has l key = had) := ⟨_, _, ⟨rfl, rfl⟩⟩
    rw [HOH.out.1, HOH.out.2]
    have HB3 := Sc.mk (below_down (dn_alloc HB2.out _) hb3)
    have HP3 := Sc.mk (up hb3 (heap_alloc_new w2 (.cells #[.int .i64 n, .slice A s c] 29)))
    have HO3 := Sc.mk ((HO2.out.alloc (.cells #[.int .i64 n, .slice A s c] 29)).below hb3)
    obtain ⟨p0, p1⟩ := cells_page HP3.out
    have l3 := heap_lt HP3.out
    clear hb3
    obtain ⟨v1, hv1⟩ : ∃ v1, (if has1 = true then v else 0) = v1 := ⟨_, rfl⟩
    have HV1 := Sc.mk hv1
    clear hv1
    obtain ⟨L1, hL1⟩ : ∃ L1, (if has1 = true then setIn l (key, v1) else drop' l key) = L1 := ⟨_, rfl⟩
    have HL1 : Sc (Rising L1 ∧ L1.length ≤ 19 ∧ (if had = true then setIn L1 (key, old) else drop' L1 key) = l ∧ has L1 key = has1 ∧ (has1 = true → (look L1 key).getD 0 = v)) := ⟨by
      subst hL1
      refine ⟨?_, ?_, ?_, ?_, ?_⟩
      · split; exact setIn_rising HR.out _; exact drop'_rising HR.out _
      · split
        · exact setIn_room HL.out
        · have := drop'_length l key; have := HL.out; omega
      · rw [← HOH.out.1, ← HOH.out.2]; exact back_rows HR.out key v1 has1
      · exact (back_look HR.out key v1 has1).1
      · intro h
        have := (back_look HR.out key v1 has1).2 h
        rw [this, ← HV1.out, if_pos h]⟩
    have HLE := Sc.mk hL1
    clear hL1
    go_upto_if 51 with fail
    go_cut [] from 51 to 53 (fun wx => wx = w3.alloc (.cells (cellsR (backR key had old has1 v1)) 32))
    case first =>
      cases has1 with
      | true =>
        obtain rfl : v = v1 := by simpa using HV1.out
        go_wp2_with fail
        go_meet
        case rel => rfl
      | false =>
        obtain rfl : (0 : Int) = v1 := by simpa using HV1.out
        go_wp2_with fail
        go_meet
        case rel => rfl
    case rest =>
      subst hcut
      have hp := upa HP3.out (.cells (cellsR (backR key had old has1 v1)) 32)
      have hrr := heap_alloc_new w3 (.cells (cellsR (backR key had old has1 v1)) 32)
      have HPX := Sc.mk hp
      have HRX := Sc.mk hrr
      clear hp hrr
      go_wp2_with fail
      refine (redoChange_any _ w.heap.size n _ l (n + 1) (backR key had old has1 v1) (HO3.out.alloc _) HR.out (by have := HL.out; omega) (.inl rfl) (by omega)).mono ?_
      rintro e w4 ⟨A4, s4, c4, rfl, ho4, hb4⟩
      have HB4 := Sc.mk (below_down (dn_alloc HB3.out _) hb4)
      have HO4 : Sc (Own enc2 2 56 w.heap.size w4 (.slice A4 s4 c4) L1) := ⟨by rw [← HLE.out]; exact ho4.mono (dn_alloc HB3.out _).size⟩
      have HPO4 := Sc.mk ((HO3.out.alloc (.cells (cellsR (backR key had old has1 v1)) 32)).below hb4)
      have HP4 := Sc.mk (up hb4 HPX.out)
      have HR4 := Sc.mk (up hb4 HRX.out)
      obtain ⟨q0, q1⟩ := cells_page HP4.out
      obtain ⟨r0, r1, r2, r3, r4, r5, r6, r7, r8, r9⟩ := cells_recs HR4.out
      have m1 := heap_lt HP4.out
      have m2 := heap_lt HR4.out
      clear ho4 hb4 p0 p1 l3
      go_wp2_with fail
      refine (redoSkip_any _ w.heap.size (n + 1) _ L1 (n + 1) (backR key had old has1 v1) (HO4.out.alloc _) (by have := HL1.out.2.1; omega) (.inr (Int.le_refl _))).mono ?_
      rintro e w5 ⟨A5, s5, c5, rfl, ho5, hb5⟩
      have HB5 := Sc.mk (below_down (dn_alloc HB4.out _) hb5)
      have HO5 : Sc (Own enc2 2 56 w.heap.size w5 (.slice A5 s5 c5) L1) := ⟨ho5.mono (dn_alloc HB4.out _).size⟩
      have HPO5 := Sc.mk ((HPO4.out.alloc (.cells #[.int .i64 (n + 1), .slice A4 s4 c4] 29)).below hb5)
      have HQO5 := Sc.mk ((HO4.out.alloc (.cells #[.int .i64 (n + 1), .slice A4 s4 c4] 29)).below hb5)
      have HP5 := Sc.mk (up hb5 (upa HP4.out (.cells #[.int .i64 (n + 1), .slice A4 s4 c4] 29)))
      have HR5 := Sc.mk (up hb5 (upa HR4.out (.cells #[.int .i64 (n + 1), .slice A4 s4 c4] 29)))
      have HQ5 := Sc.mk (up hb5 (heap_alloc_new w4 (.cells #[.int .i64 (n + 1), .slice A4 s4 c4] 29)))
      obtain ⟨x0, x1⟩ := cells_page HP5.out
      obtain ⟨y0, y1, y2, y3, y4, y5, y6, y7, y8, y9⟩ := cells_recs HR5.out
      have n1 := heap_lt HP5.out
      have n2 := heap_lt HR5.out
      clear ho5 hb5 q0 q1 r0 r1 r2 r3 r4 r5 r6 r7 r8 r9 m1 m2
      go_wp2_with fail
      refine (undoYes_any _ (backR key had old has1 v1) (n + 1) (n + 1) 0 rfl).mono ?_
      rintro e w6 ⟨rfl, hb6⟩
      have HB6 := Sc.mk (below_down (dn_alloc HB5.out _) hb6)
      have HPO6 := Sc.mk ((HPO5.out.alloc (.cells #[.int .i64 (n + 1), .slice A5 s5 c5] 29)).below hb6)
      have HQO6 := Sc.mk ((HQO5.out.alloc (.cells #[.int .i64 (n + 1), .slice A5 s5 c5] 29)).below hb6)
      have HO6 := Sc.mk ((HO5.out.alloc (.cells #[.int .i64 (n + 1), .slice A5 s5 c5] 29)).below hb6)
      have HP6 := Sc.mk (up hb6 (upa HP5.out (.cells #[.int .i64 (n + 1), .slice A5 s5 c5] 29)))
      have HQ6 := Sc.mk (up hb6 (upa HQ5.out (.cells #[.int .i64 (n + 1), .slice A5 s5 c5] 29)))
      have HS6 := Sc.mk (up hb6 (heap_alloc_new w5 (.cells #[.int .i64 (n + 1), .slice A5 s5 c5] 29)))
      obtain ⟨g0, g1⟩ := cells_page HP6.out
      obtain ⟨h0, h1⟩ := cells_page HQ6.out
      have k1 := heap_lt HP6.out
      have k2 := heap_lt HQ6.out
      clear hb6 x0 x1 y0 y1 y2 y3 y4 y5 y6 y7 y8 y9 n1 n2
      go_wp2_with fail
      refine (redoChange_any _ w.heap.size (n + 1) _ L1 (n + 2) (undoR (backR key had old has1 v1) (n + 1) (n + 1) 0) (HQO6.out.alloc _) HL1.out.1 (by have := HL1.out.2.1; omega) (.inr rfl) (by omega)).mono ?_
      rintro e w7 ⟨A7, s7, c7, rfl, ho7, hb7⟩
      have HB7 := Sc.mk (below_down (dn_alloc HB6.out _) hb7)
      have HO7 : Sc (Own enc2 2 56 w.heap.size w7 (.slice A7 s7 c7) l) := ⟨by rw [← HL1.out.2.2.1]; exact ho7.mono (dn_alloc HB6.out _).size⟩
      have HPO7 := Sc.mk ((HPO6.out.alloc (.cells (cellsR (undoR (backR key had old has1 v1) (n + 1) (n + 1) 0)) 32)).below hb7)
      have HQO7 := Sc.mk ((HQO6.out.alloc (.cells (cellsR (undoR (backR key had old has1 v1) (n + 1) (n + 1) 0)) 32)).below hb7)
      have HSO7 := Sc.mk ((HO6.out.alloc (.cells (cellsR (undoR (backR key had old has1 v1) (n + 1) (n + 1) 0)) 32)).below hb7)
      have HP7 := Sc.mk (up hb7 (upa HP6.out (.cells (cellsR (undoR (backR key had old has1 v1) (n + 1) (n + 1) 0)) 32)))
      have HQ7 := Sc.mk (up hb7 (upa HQ6.out (.cells (cellsR (undoR (backR key had old has1 v1) (n + 1) (n + 1) 0)) 32)))
      have HS7 := Sc.mk (up hb7 (upa HS6.out (.cells (cellsR (undoR (backR key had old has1 v1) (n + 1) (n + 1) 0)) 32)))
      have HC7 := Sc.mk (up hb7 (heap_alloc_new w6 (.cells (cellsR (undoR (backR key had old has1 v1) (n + 1) (n + 1) 0)) 32)))
      obtain ⟨q0, q1⟩ := cells_page HQ7.out
      have m1 := heap_lt HQ7.out
      clear ho7 hb7 g0 g1 h0 h1 k1 k2
      go_wp2_with fail
      refine (refFind_any _ w.heap.size (n + 1) _ L1 key (HQO7.out.alloc _) HL1.out.1 (by have := HL1.out.2.1; omega)).mono ?_
      rintro e w8 ⟨rfl, hb8⟩
      have HB8 := Sc.mk (below_down (dn_alloc HB7.out _) hb8)
      have HPO8 := Sc.mk ((HPO7.out.alloc (.cells #[.int .i64 (n + 2), .slice A7 s7 c7] 29)).below hb8)
      have HQO8 := Sc.mk ((HQO7.out.alloc (.cells #[.int .i64 (n + 2), .slice A7 s7 c7] 29)).below hb8)
      have HSO8 := Sc.mk ((HSO7.out.alloc (.cells #[.int .i64 (n + 2), .slice A7 s7 c7] 29)).below hb8)
      have HTO8 := Sc.mk ((HO7.out.alloc (.cells #[.int .i64 (n + 2), .slice A7 s7 c7] 29)).below hb8)
      have HP8 := Sc.mk (up hb8 (upa HP7.out (.cells #[.int .i64 (n + 2), .slice A7 s7 c7] 29)))
      have HQ8 := Sc.mk (up hb8 (upa HQ7.out (.cells #[.int .i64 (n + 2), .slice A7 s7 c7] 29)))
      have HS8 := Sc.mk (up hb8 (upa HS7.out (.cells #[.int .i64 (n + 2), .slice A7 s7 c7] 29)))
      have HC8 := Sc.mk (up hb8 (upa HC7.out (.cells #[.int .i64 (n + 2), .slice A7 s7 c7] 29)))
      have HT8 := Sc.mk (up hb8 (heap_alloc_new w7 (.cells #[.int .i64 (n + 2), .slice A7 s7 c7] 29)))
      obtain ⟨g0, g1⟩ := cells_page HQ8.out
      obtain ⟨h0, h1⟩ := cells_page HS8.out
      rw [HL1.out.2.2.2.1]
      clear hb8 q0 q1 m1
      go_wp2_with fail
      refine (samePage_refl _ w.heap.size w.heap.size (n + 1) _ _ L1 HSO8.out HQO8.out (by have := HL1.out.2.1; omega)).mono ?_
      rintro e w9 ⟨rfl, hb9⟩
      have HB9 := Sc.mk (below_down HB8.out hb9)
      have HPO9 := Sc.mk (HPO8.out.below hb9)
      have HTO9 := Sc.mk (HTO8.out.below hb9)
      have HP9 := Sc.mk (up hb9 HP8.out)
      have HC9 := Sc.mk (up hb9 HC8.out)
      have HT9 := Sc.mk (up hb9 HT8.out)
      obtain ⟨q0, q1⟩ := cells_page HP9.out
      obtain ⟨x0, x1⟩ := cells_page HT9.out
      clear hb9 g0 g1 h0 h1
      go_wp2_with fail
      refine (entrySame_refl _ w.heap.size w.heap.size _ _ l HTO9.out HPO9.out (by have := HL.out; omega)).mono ?_
      rintro e w10 ⟨rfl, hb10⟩
      have HB10 := Sc.mk (below_down HB9.out hb10)
      obtain ⟨g0, g1⟩ := cells_page (up hb10 HP9.out)
      obtain ⟨h0, h1⟩ := cells_page (up hb10 HT9.out)
      obtain ⟨r0, r1, r2, r3, r4, r5, r6, r7, r8, r9⟩ := cells_recs (up hb10 HC9.out)
      clear hb10 q0 q1 x0 x1
      cases has1 with
      | true =>
        have hv : ((look L1 key).getD 0 == v) = true := by rw [HL1.out.2.2.2.2 rfl]; simp
        go_wp2
        go_ret
        exact ⟨rfl, HB10.out⟩
      | false =>
        go_wp2
        go_ret
        exact ⟨rfl, HB10.out⟩
end Go.Proofs.YtmafogagkjafbaaDoor
