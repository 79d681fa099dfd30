/- The walk of ChangeSays: what any record does to any page, what undoes it, are what the document says. -/
import Derived.Test.YtmafogagkjafbaaDoorRef8
import Derived.Test.YtmafogagkjafbaaDoorMakeRec
namespace Go.Proofs.YtmafogagkjafbaaDoor
open Go.RowKit

theorem redoS_room {n : Int} {l : List (Int × Int)} {lsn : Int} {r : RecD} (h : l.length ≤ 20) : (redoS n l lsn r).2.1.length ≤ 21 := by
  unfold redoS
  split
  · split
    · split
      · exact setIn_room h
      · simp
    · have := drop'_length l r.key
      show (drop' l r.key).length ≤ 21
      omega
  · show l.length ≤ 21
    omega
/-- Behind phoenixmake.Page its number is still there to be taken. -/
theorem SeqIs.far {w0 w w' : World} {b : Nat} {a : Option Addr} {len cap : Nat} {zs : List Int} {k : Nat} (h : SeqIs w0 w b a len cap zs k) (hb : Below w.heap.size w w') : SeqIs w0 w' b a len cap zs k := h.bel hb

set_option maxRecDepth 10000 in
set_option maxHeartbeats 8000000 in
theorem changeSays_walk (a : Option Addr) (len cap : Nat) (zs : List Int) (lsn0 last0 next0 : Int) (w : World) (hrow : IsRow .i64 w a len cap zs) (f : Nat → Addr) (hS : Sents w f) :
    Calls Tryd.prog 3 #[.slice a len cap, .int .i64 lsn0, .int .i64 last0, .int .i64 next0] w fun e w' => e = .returned (.bool true) ∧ Below w.heap.size w w' := by
  have HW := Sc.mk hrow
  have HS := Sc.mk hS
  clear hrow hS
  by_cases hbig : 150 < len
  · have hbig' : (150 : Int) < len := by omega
    clear HW
    go_enter Tryd.func3, Tryd.ntmps3
    go_wp2_with (go_at_call 14; refine (first8_any _).mono ?_; rintro e w1 ⟨rfl, hb⟩)
    go_ret
    exact ⟨rfl, hb⟩
  · have hbig' : ¬ (150 : Int) < len := by omega
    obtain ⟨lsn, h1⟩ : ∃ kd, lsn0 % 60 = kd := ⟨_, rfl⟩
    obtain ⟨last, h2⟩ : ∃ kd, last0 % 60 = kd := ⟨_, rfl⟩
    obtain ⟨next, h3⟩ : ∃ kd, next0 % 60 = kd := ⟨_, rfl⟩
    have hn0 : 0 ≤ lsn := by omega
    have hn1 : lsn < 60 := by omega
    have H1 := Sc.mk h1
    have H2 := Sc.mk h2
    have H3 := Sc.mk h3
    clear h1 h2 h3
    go_enter Tryd.func3, Tryd.ntmps3
    go_wp2_with fail
    refine (first8_any _).mono ?_
    rintro e w1 ⟨rfl, hb⟩
    have HB1 := Sc.mk hb
    clear hb
    go_wp2_with fail
    refine (makePage_any w _ _ a len cap zs 0 26 (SeqIs.made HW.out HB1.out) (by omega) (by omega)).mono ?_
    rintro e w2 ⟨n, l, A, s, c, k', rfl, hn1', hn50, hr, hl20, hl26, hrange, ho, hs, hk', hkp⟩
    have HB2 : Sc (Below w.heap.size w w2) := ⟨made_below HB1.out hkp rfl⟩
    have HO2 := Sc.mk ho
    have HR := Sc.mk hr
    have HL := Sc.mk hl20
    have HQ2 := Sc.mk hs
    have HK2 := Sc.mk hk'
    have hlt2 : w1.heap.size < w2.heap.size := heap_lt hs.cells
    clear ho hr hl20 hl26 hrange hs hk' hkp hn1' hn50
    go_wp2_with fail
    refine (makeRec_any w _ _ a len cap zs k' (HQ2.out.bel (dn_alloc (Below.refl _ _) _)) (by have := HK2.out; omega)).mono ?_
    rintro e w3 ⟨r, k3, rfl, hs, hk3, hkp⟩
    have HB3 : Sc (Below w.heap.size w w3) := ⟨(dn_alloc HB2.out _).trans (hkp.below (by have := HB2.out.size; simp; omega) (fun q hq => by rw [hq]; exact HB1.out.size))⟩
    have HP3 : Sc (w3.heap[w2.heap.size]? = some (.cells #[.int .i64 n, .slice A s c] 29 (0, 0))) := ⟨hkp.at (heap_alloc_new w2 _) (by omega)⟩
    have HO3 : Sc (Own enc2 2 56 w.heap.size w3 (.slice A s c) l) := ⟨((HO2.out.alloc _).kp hkp (fun q hq he => by have := (HO2.out.lt q hq).1; simp at this; omega)).mono (by have := HB1.out.size; simp; omega)⟩
    obtain ⟨p0, p1⟩ := cells_page HP3.out
    have l3 := heap_lt HP3.out
    clear hs hk3 hkp hlt2
    go_wp2_with fail
    refine (number_is lsn0 60 lsn _ H1.out (by omega) (by omega)).mono ?_
    rintro e wz ⟨rfl, rfl⟩
    go_wp2_with fail
    refine (number_is last0 60 last _ H2.out (by omega) (by omega)).mono ?_
    rintro e wz ⟨rfl, rfl⟩
    go_wp2_with fail
    refine (number_is next0 60 next _ H3.out (by omega) (by omega)).mono ?_
    rintro e wz ⟨rfl, rfl⟩
    obtain ⟨ln, hln⟩ : ∃ ln, lsn + 1 = ln := ⟨_, rfl⟩
    have HPX := Sc.mk (upa HP3.out (.cells (cellsR r) 32))
    have HRX := Sc.mk (heap_alloc_new w3 (.cells (cellsR r) 32))
    have HOX := Sc.mk (HO3.out.alloc (.cells (cellsR r) 32))
    have HBX := Sc.mk (dn_alloc HB3.out (.cells (cellsR r) 32))
    go_wp2_with fail
    clear hln
    obtain ⟨q, hq⟩ : ∃ q, redoS n l ln r = q := ⟨_, rfl⟩
    refine (redo_all f _ w.heap.size n _ l ln r (HS.out.bel HBX.out) HOX.out HR.out (by have := HL.out; omega)).mono ?_
    rintro e w4 ⟨A4, s4, c4, ev, rfl, ho4, hb4, he4⟩
    have HQ : Sc (redoS n l ln r = q ∧ q.2.1.length ≤ 21) := ⟨hq, by rw [← hq]; exact redoS_room HL.out⟩
    rw [hq] at ho4 he4 ⊢
    clear hq
    obtain ⟨qn, ql, qb, qc⟩ := q
    have HB4 := Sc.mk (below_down HBX.out hb4)
    have HO4 : Sc (Own enc2 2 56 w.heap.size w4 (.slice A4 s4 c4) ql) := ⟨ho4.mono HBX.out.size⟩
    have HE4 : Sc (ErrIs w4 f ev qc) := ⟨he4⟩
    have HP4 := Sc.mk (up hb4 HPX.out)
    have HR4 := Sc.mk (up hb4 HRX.out)
    have HPO4 := Sc.mk (HOX.out.below hb4)
    obtain ⟨x0, x1⟩ := cells_page HP4.out
    obtain ⟨r0, r1, r2, r3, r4, r5, r6, r7, r8, r9⟩ := cells_recs HR4.out
    have m1 := heap_lt HP4.out
    have m2 := heap_lt HR4.out
    clear ho4 hb4 he4 p0 p1 l3
    go_wp2_with fail
    refine (refRedo_all _ w.heap.size n _ l ln r (HPO4.out.alloc _) (dn_alloc HB4.out _).size HR.out (by have := HL.out; omega)).mono ?_
    rintro e w5 ⟨A5, s5, c5, rfl, ho5, hb5⟩
    rw [HQ.out.1] at ho5 ⊢
    have HB5 := Sc.mk (below_down (dn_alloc HB4.out _) hb5)
    have HO5 : Sc (Own enc2 2 56 w.heap.size w5 (.slice A5 s5 c5) ql) := ⟨ho5⟩
    have HAO5 := Sc.mk ((HO4.out.alloc (.cells #[.int .i64 qn, .slice A4 s4 c4] 29)).below hb5)
    have HE5 := Sc.mk ((HE4.out.bel (dn_alloc (Below.refl _ _) (.cells #[.int .i64 qn, .slice A4 s4 c4] 29))).bel hb5)
    have HA5 := Sc.mk (up hb5 (heap_alloc_new w4 (.cells #[.int .i64 qn, .slice A4 s4 c4] 29)))
    have HR5 := Sc.mk (up hb5 (upa HR4.out (.cells #[.int .i64 qn, .slice A4 s4 c4] 29)))
    obtain ⟨y0, y1, y2, y3, y4, y5, y6, y7, y8, y9⟩ := cells_recs HR5.out
    have m3 := heap_lt HR5.out
    clear ho5 hb5 x0 x1 r0 r1 r2 r3 r4 r5 r6 r7 r8 r9 m1 m2
    go_wp2_with fail
    refine (undo_all _ r ln last next).mono ?_
    rintro e w6 ⟨rfl, hb6⟩
    obtain ⟨us, hus⟩ : ∃ us, undoS r ln last next = us := ⟨_, rfl⟩
    have HU := Sc.mk hus
    rw [hus]
    clear hus
    obtain ⟨cr, cb⟩ := us
    have HB6 := Sc.mk (below_down (dn_alloc HB5.out _) hb6)
    have HO6 := Sc.mk ((HO5.out.alloc (.cells #[.int .i64 qn, .slice A5 s5 c5] 29)).below hb6)
    have HAO6 := Sc.mk ((HAO5.out.alloc (.cells #[.int .i64 qn, .slice A5 s5 c5] 29)).below hb6)
    have HE6 := Sc.mk ((HE5.out.bel (dn_alloc (Below.refl _ _) (.cells #[.int .i64 qn, .slice A5 s5 c5] 29))).bel hb6)
    have HA6 := Sc.mk (up hb6 (upa HA5.out (.cells #[.int .i64 qn, .slice A5 s5 c5] 29)))
    have HBB6 := Sc.mk (up hb6 (heap_alloc_new w5 (.cells #[.int .i64 qn, .slice A5 s5 c5] 29)))
    have HR6 := Sc.mk (up hb6 (upa HR5.out (.cells #[.int .i64 qn, .slice A5 s5 c5] 29)))
    obtain ⟨r0, r1, r2, r3, r4, r5, r6, r7, r8, r9⟩ := cells_recs HR6.out
    have m4 := heap_lt HR6.out
    clear hb6 y0 y1 y2 y3 y4 y5 y6 y7 y8 y9 m3
    go_wp2_with fail
    refine (refUndo_all _ r ln last next).mono ?_
    rintro e w7 ⟨rfl, hb7⟩
    rw [HU.out]
    have HB7 := Sc.mk (below_down (dn_alloc HB6.out _) hb7)
    have HO7 := Sc.mk ((HO6.out.alloc (.cells (cellsR cr) 32)).below hb7)
    have HAO7 := Sc.mk ((HAO6.out.alloc (.cells (cellsR cr) 32)).below hb7)
    have HE7 := Sc.mk ((HE6.out.bel (dn_alloc (Below.refl _ _) (.cells (cellsR cr) 32))).bel hb7)
    have HA7 := Sc.mk (up hb7 (upa HA6.out (.cells (cellsR cr) 32)))
    have HBB7 := Sc.mk (up hb7 (upa HBB6.out (.cells (cellsR cr) 32)))
    have HC7 := Sc.mk (up hb7 (heap_alloc_new w6 (.cells (cellsR cr) 32)))
    obtain ⟨p0, p1⟩ := cells_page HA7.out
    obtain ⟨q0, q1⟩ := cells_page HBB7.out
    have n1 := heap_lt HA7.out
    have n2 := heap_lt HBB7.out
    clear hb7 r0 r1 r2 r3 r4 r5 r6 r7 r8 r9 m4
    go_wp2_with fail
    refine (samePage_refl _ w.heap.size w.heap.size qn _ _ ql (HAO7.out.alloc _) (HO7.out.alloc _) (by have h : ql.length ≤ 21 := HQ.out.2; omega)).mono ?_
    rintro e w8 ⟨rfl, hb8⟩
    have HB8 := Sc.mk (below_down (dn_alloc HB7.out _) hb8)
    have HE8 := Sc.mk ((HE7.out.bel (dn_alloc (Below.refl _ _) (.cells (cellsR cr) 32))).bel hb8)
    have HC8 := Sc.mk (up hb8 (upa HC7.out (.cells (cellsR cr) 32)))
    have HD8 := Sc.mk (up hb8 (heap_alloc_new w7 (.cells (cellsR cr) 32)))
    clear hb8 p0 p1 q0 q1 n1 n2
    go_wp2_with fail
    refine (is_any HE8.out).mono ?_
    rintro e w9 ⟨rfl, hb9⟩
    have HB9 := Sc.mk (below_down HB8.out hb9)
    obtain ⟨r0, r1, r2, r3, r4, r5, r6, r7, r8, r9⟩ := cells_recs (up hb9 HC8.out)
    obtain ⟨y0, y1, y2, y3, y4, y5, y6, y7, y8, y9⟩ := cells_recs (up hb9 HD8.out)
    clear hb9
    go_wp2_with fail
    refine (sameRec_refl _ cr).mono ?_
    rintro e w10 ⟨rfl, hb10⟩
    have HB10 := Sc.mk (below_down HB9.out hb10)
    clear hb10 r0 r1 r2 r3 r4 r5 r6 r7 r8 r9 y0 y1 y2 y3 y4 y5 y6 y7 y8 y9
    go_wp2
    go_ret
    exact ⟨rfl, HB10.out⟩
end Go.Proofs.YtmafogagkjafbaaDoor
