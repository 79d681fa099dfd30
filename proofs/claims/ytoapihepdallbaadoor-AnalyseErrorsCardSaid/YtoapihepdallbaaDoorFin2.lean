/- The program's analysis, a record at a time: goes. -/
import Derived.Test.YtoapihepdallbaaDoorFin1
namespace Go.Proofs.YtoapihepdallbaaDoor
open Go.RowKit

abbrev zeroT : Array Value := #[.int .i64 0, .int .i64 0, .int .i64 0, .int .i64 0]
theorem set_txn {w : World} {b : Nat} {t : TypeId} {x : TX} (h : w.heap[b]? = some (.cells zeroT t (0, 0))) :
    ((((w.setCell ⟨b, 0, none⟩ (.int .i64 x.1)).setCell ⟨b, 1, none⟩ (.int .i64 x.2.1)).setCell ⟨b, 2, none⟩ (.int .i64 x.2.2.1)).setCell ⟨b, 3, none⟩ (.int .i64 x.2.2.2)).heap[b]? = some (.cells (enc4 x).toArray t (0, 0)) := by
  rw [set_one (set_one (set_one (set_one h 0 _) 1 _) 2 _) 3 _]; rfl
theorem below_st4 {w0 w : World} {b : Nat} {u0 u1 u2 u3 : Value} (h : Below w0.heap.size w0 w) (hb : w0.heap.size ≤ b) : Below w0.heap.size w0 ((((w.setCell ⟨b, 0, none⟩ u0).setCell ⟨b, 1, none⟩ u1).setCell ⟨b, 2, none⟩ u2).setCell ⟨b, 3, none⟩ u3) :=
  (((h.setCell hb _).setCell hb _).setCell hb _).setCell hb _
theorem cells_txn {w1 : World} {b : Nat} {x : TX} {t : TypeId} (h : w1.heap[b]? = some (.cells (enc4 x).toArray t (0, 0))) :
    w1.cell? ⟨b, 0, none⟩ = some (.int .i64 x.1) ∧ w1.cell? ⟨b, 1, none⟩ = some (.int .i64 x.2.1) ∧ w1.cell? ⟨b, 2, none⟩ = some (.int .i64 x.2.2.1) ∧ w1.cell? ⟨b, 3, none⟩ = some (.int .i64 x.2.2.2) := by simp [World.cell?, h]
theorem FinP.kp {B fb lb : Nat} {w w' : World} {rt rd : Option Nat} {s : An} {S : Nat → Prop} (h : FinP B w fb lb rt rd s) (k : Kp S w w') (h1 : ¬ S fb) (h2 : ∀ q, rt = some q → ¬ S q) (h3 : ∀ q, rd = some q → ¬ S q) : FinP B w' fb lb rt rd s := by
  obtain ⟨⟨vt, vd, e1, e2, hc, e3, e4⟩, a, b, c, d, e, f, g, i⟩ := h
  exact ⟨⟨vt, vd, e1, e2, k.at hc h1, e3.kp k (fun q hq => h2 q (by rw [← e1]; exact hq)), e4.kp k (fun q hq => h3 q (by rw [← e2]; exact hq))⟩, a, b, c, d, e, f, g, i⟩
theorem LeftF.keep {B fb lb b : Nat} {w w' : World} {rt rd : Option Nat} {s' : An} (h : LeftF B fb lb rt rd s' w w') (hb : b < w.heap.size) (hn : b ≠ fb ∧ rt ≠ some b ∧ rd ≠ some b) :
    ∃ rt' rd', FinP B w' fb lb rt' rd' s' ∧ Kp (fun q => q = fb ∨ some q = rt ∨ some q = rd) w w' ∧ (rt' = rt ∨ ∃ q, rt' = some q ∧ w.heap.size ≤ q) ∧ (rd' = rd ∨ ∃ q, rd' = some q ∧ w.heap.size ≤ q) ∧ b ≠ fb ∧ rt' ≠ some b ∧ rd' ≠ some b := by
  obtain ⟨rt', rd', hf, hk, ht, hd⟩ := h
  refine ⟨rt', rd', hf, hk, ht, hd, hn.1, fun he => ?_, fun he => ?_⟩
  · rcases ht with h | ⟨q, h, hq⟩
    · exact hn.2.1 (h.symm.trans he)
    · rw [h] at he; injection he with he; omega
  · rcases hd with h | ⟨q, h, hq⟩
    · exact hn.2.2 (h.symm.trans he)
    · rw [h] at he; injection he with he; omega
variable {B fb lb : Nat} {rt rd : Option Nat} {s : An}
set_option maxRecDepth 4000 in
set_option maxHeartbeats 4000000 in
theorem finGoes (w : World) (lsn : Int) (r : RecD) (h : FinP B w fb lb rt rd s) (ht : s.t.length ≤ 1000000) (hd : s.d.length ≤ 1000000) :
    Calls Tryd.prog 50 #[.pointer (some ⟨fb, 0, none⟩), .int .i64 lsn, aggR r] w fun e w' => e = .returned (.bool (stepG lsn r s).1) ∧ LeftF B fb lb rt rd (stepG lsn r s).2 w w' := by
  obtain ⟨ok, hok⟩ : ∃ ok, (stepG lsn r s).1 = ok := ⟨_, rfl⟩
  obtain ⟨s', hs'⟩ : ∃ s', (stepG lsn r s).2 = s' := ⟨_, rfl⟩
  rw [hok, hs']
  have HOK := Sc.mk (And.intro hok hs')
  have HB1 : Sc (Below w.heap.size w (w.alloc (.cells (cellsR r) 51))) := ⟨dn_alloc (Below.refl _ _) _⟩
  have HF0 := Sc.mk h
  have HF1 := Sc.mk (h.bel HB1.out)
  have HFR := Sc.mk h.fresh
  have HZ1 := Sc.mk (heap_alloc_new w (.cells (cellsR r) 51))
  obtain ⟨w1, hw1⟩ : ∃ w1, w.alloc (.cells (cellsR r) 51) = w1 := ⟨_, rfl⟩
  obtain ⟨b1, hb1⟩ : ∃ b, w.heap.size = b := ⟨_, rfl⟩
  rw [hw1] at HB1 HF1 HZ1
  rw [hb1] at HZ1 HFR
  obtain ⟨c0, c1, c2, c3, c4, c5, c6, c7, c8, c9⟩ := cells_recs HZ1.out
  have lz := heap_lt HZ1.out
  obtain ⟨x, hx⟩ : ∃ x, got s.t r.txn = x := ⟨_, rfl⟩
  obtain ⟨hs, hhs⟩ : ∃ hs, has s.t r.txn = hs := ⟨_, rfl⟩
  have HX := Sc.mk (And.intro hx hhs)
  clear hok hs' h hx hhs
  go_enter Tryd.func50, Tryd.ntmps50
  go_upto_region 1 with fail
  clear hw1 hb1
  go_cut [7, 8] from 10 to 18 (fun s7 s8 wx => ∃ b7, s7 = .pointer (some ⟨b7, 0, none⟩) ∧ s8 = .bool hs ∧ w1.heap.size ≤ b7 ∧ Sc (wx.heap[b7]? = some (.cells (enc4 x).toArray 56 (0, 0))) ∧ Sc (Below w1.heap.size w1 wx))
  case first =>
    go_region_law (first | (go_simp; go_at_call 71; refine (finGet _ r.txn (by first | with_reducible exact HF1.out.drew | exact (HF1.out.bel (dn_alloc (Below.refl _ _) _)).drew | exact (HF1.out.drew.bel (dn_alloc (Below.refl _ _) _))) ht).mono ?_; rw [HX.out.1, HX.out.2]; rintro e w2 ⟨rfl, hb⟩; have HB2 : Sc (Below w1.heap.size w1 w2) := ⟨by first | exact (Below.refl w1.heap.size w1).drew.trans hb | exact ((Below.refl w1.heap.size w1).alloc (Nat.le_refl _) _).drew.trans (hb.mono (by simp)) | exact ((Below.refl w1.heap.size w1).drew.alloc (Nat.le_refl _) _).trans (hb.mono (by simp))⟩; (first | (have hz : w2.heap[w1.heap.size]? = some (.cells zeroT 56 (0, 0)) := (hb.block _ (by simp)).trans (heap_alloc_new w1 (.cells zeroT 56)); obtain ⟨q0, q1, q2, q3⟩ := cells_txn (x := (0, 0, 0, 0)) hz; have y0 := unfrozen_at hz 0; have y1 := unfrozen_at hz 1; have y2 := unfrozen_at hz 2; have y3 := unfrozen_at hz 3; have HZ2 := Sc.mk hz; clear hz) | skip); clear hb))
    all_goals
      go_wp2_with fail
      go_meet
      case rel => first
        | exact ⟨_, rfl, rfl, HB2.out.size, ⟨heap_alloc_new w2 _⟩, ⟨dn_alloc HB2.out _⟩⟩
        | exact ⟨_, rfl, rfl, Nat.le_refl _, ⟨set_txn HZ2.out⟩, ⟨below_st4 HB2.out (Nat.le_refl _)⟩⟩
  case rest =>
    obtain ⟨b7, rfl, rfl, hb7, HX7, HB7⟩ := hcut
    have HFC := Sc.mk (HF1.out.bel HB7.out)
    have HZC := Sc.mk (up HB7.out HZ1.out)
    have HBC : Sc (Below w.heap.size w wc) := ⟨below_down HB1.out HB7.out⟩
    have HR7 : Sc (b7 ≠ fb ∧ rt ≠ some b7 ∧ rd ≠ some b7) := ⟨by have := HF1.out.lt; omega, fun he => by have := HF1.out.rowlt.1 _ he; omega, fun he => by have := HF1.out.rowlt.2 _ he; omega⟩
    have hne : b1 ≠ b7 := by omega
    clear c0 c1 c2 c3 c4 c5 c6 c7 c8 c9 lz
    obtain ⟨c0, c1, c2, c3, c4, c5, c6, c7, c8, c9⟩ := cells_recs HZC.out
    obtain ⟨x0, x1, x2, x3⟩ := cells_txn HX7.out
    by_cases h1 : r.kind = 1
    · have e1 : (r.kind == 1) = true := by simp [h1]
      have HC : Sc (ok = !hs ∧ s' = { s with t := setIn s.t (r.txn, 0, lsn, 0), m := max s.m r.txn }) := ⟨by rw [← HOK.out.1, ← HOK.out.2]; unfold stepG; rw [if_pos h1, HX.out.2]; exact ⟨rfl, rfl⟩⟩
      clear h1
      go_wp2_with fail
      have CA : Calls Tryd.prog 68 #[.pointer (some ⟨fb, 1, none⟩), .agg #[.int .i64 r.txn, .int .i64 0, .int .i64 lsn, .int .i64 0]] wc.drew fun e w2 => e = .returned (.tuple #[]) ∧ LeftF B fb lb rt rd { s with t := setIn s.t (r.txn, 0, lsn, 0), m := max s.m r.txn } wc w2 := (finAddT wc.drew (r.txn, 0, lsn, 0) HFC.out.drew ht).mono fun e w' ⟨he, hl⟩ => ⟨he, hl.from_ (Below.refl wc.heap.size wc).drew⟩
      go_region_law (first | (go_simp; go_at_call 68; refine CA.mono ?_; rintro e w2 ⟨rfl, hl⟩; have HLF := Sc.mk hl; clear hl))
      all_goals
        clear CA
        go_wp2
        go_ret
        exact ⟨by rw [HC.out.1]; rfl, by rw [HC.out.2]; exact HLF.out.from_ HBC.out⟩
    · have e1 : (r.kind == 1) = false := beq_no h1
      cases hs with
      | false =>
        have HC : Sc (ok = false ∧ s' = s) := ⟨by rw [← HOK.out.1, ← HOK.out.2]; unfold stepG; rw [if_neg h1, if_pos (.inl HX.out.2)]; exact ⟨rfl, rfl⟩⟩
        clear h1
        go_wp2
        go_ret
        exact ⟨by rw [HC.out.1]; rfl, by rw [HC.out.2]; exact LeftF.same HF0.out HBC.out⟩
      | true =>
        by_cases hpv : r.prev = x.2.2.1
        · have epv : (r.prev == x.2.2.1) = true := by simp [hpv]
          have hno : ¬ (has s.t r.txn = false ∨ r.prev ≠ (got s.t r.txn).2.2.1) := by rw [HX.out.1, HX.out.2]; simp [hpv]
          by_cases h6 : r.kind = 6
          · have HC : Sc (ok = true ∧ s' = { s with t := drop' s.t r.txn }) := ⟨by rw [← HOK.out.1, ← HOK.out.2]; unfold stepG; rw [if_neg h1, if_neg hno, if_pos h6]; exact ⟨rfl, rfl⟩⟩
            have y2 := unfrozen_at HX7.out 2
            have l7 := heap_lt HX7.out
            have e2 : (r.kind == 2) = false := beq_no (by omega)
            have e3 : (r.kind == 3) = false := beq_no (by omega)
            have e4 : (r.kind == 4) = false := beq_no (by omega)
            have e5 : (r.kind == 5) = false := beq_no (by omega)
            have e6 : (r.kind == 6) = true := by simp [h6]
            have hne7 : ¬ b7 = fb := HR7.out.1
            have HKD : Sc (Kp (fun q => q = b7) wc (wc.setCell ⟨b7, 2, none⟩ (.int .i64 lsn))) := ⟨Kp.setCell wc ⟨b7, 2, none⟩ _⟩
            have HFD := Sc.mk (HFC.out.kp HKD.out (fun h => HR7.out.1 h.symm) (fun q hq h => HR7.out.2.1 (by rw [hq, h])) (fun q hq h => HR7.out.2.2 (by rw [hq, h])))
            have HBD : Sc (Below w.heap.size w (wc.setCell ⟨b7, 2, none⟩ (.int .i64 lsn))) := ⟨HBC.out.setCell (by have := HB1.out.size; show w.heap.size ≤ b7; omega) _⟩
            clear h1 h6 hpv hno
            go_wp2_with fail
            obtain ⟨wd, hwd⟩ : ∃ wd, wc.setCell ⟨b7, 2, none⟩ (.int .i64 lsn) = wd := ⟨_, rfl⟩
            rw [hwd] at HKD HFD HBD ⊢
            clear hwd c0 c1 c2 c3 c4 c5 c6 c7 c8 c9 x0 x1 x2 x3 y2
            obtain ⟨c0, c1, c2, c3, c4, c5, c6, c7, c8, c9⟩ := cells_recs (HKD.out.at HZC.out hne)
            have CA : Calls Tryd.prog 72 #[.pointer (some ⟨fb, 1, none⟩), .int .i64 r.txn] wd.drew fun e w2 => e = .returned (.bool (has s.t r.txn)) ∧ LeftF B fb lb rt rd { s with t := drop' s.t r.txn } wd w2 := (finDrop wd.drew r.txn HFD.out.drew ht).mono fun e w' ⟨he, hl⟩ => ⟨he, hl.from_ (Below.refl wd.heap.size wd).drew⟩
            go_region_law (first | (go_simp; go_at_call 72; refine CA.mono ?_; rintro e w2 ⟨rfl, hl⟩; have HLF := Sc.mk hl; clear hl))
            all_goals
              clear CA
              go_wp2
              go_ret
              exact ⟨by rw [HC.out.1]; rfl, by rw [HC.out.2]; exact HLF.out.from_ HBD.out⟩
          · have HC : Sc (ok = (if r.kind = 3 then decide (x.2.1 ≠ 1) && decide (r.next < lsn) else decide (x.2.1 = 0)) ∧ s' = { s with t := setIn s.t (noteG lsn r x), m := max s.m x.1, d := if r.kind = 2 ∨ r.kind = 3 then add s.d (r.page, lsn) else s.d }) := ⟨by rw [← HOK.out.1, ← HOK.out.2]; unfold stepG; rw [if_neg h1, if_neg hno, if_neg h6, HX.out.1]; exact ⟨rfl, rfl⟩⟩
            have y1 := unfrozen_at HX7.out 1
            have y2 := unfrozen_at HX7.out 2
            have y3 := unfrozen_at HX7.out 3
            have l7 := heap_lt HX7.out
            have e6 : (r.kind == 6) = false := beq_no h6
            have hne7 : ¬ b7 = fb := HR7.out.1
            have hne' : ¬ b7 = b1 := fun h => hne h.symm
            clear h1 h6 hpv hno
            go_upto_block 0 with fail
            go_cut [] from 45 to 69 (fun wx => Sc (wx.heap[b7]? = some (.cells (enc4 (noteG lsn r x)).toArray 56 (0, 0))) ∧ Sc (Kp (fun q => q = b7) wc wx))
            case first =>
              by_cases h2 : r.kind = 2
              · have e2 : (r.kind == 2) = true := by simp [h2]
                have HN : Sc (noteG lsn r x = (x.1, x.2.1, lsn, lsn)) := ⟨by simp [noteG, h2]⟩
                clear h2
                go_wp2_with fail
                go_meet
                case rel => exact ⟨⟨by rw [HN.out, set_one (set_one HX7.out 2 _) 3 _]; rfl⟩, ⟨(Kp.setCell wc ⟨b7, 2, none⟩ _).trans (Kp.setCell _ ⟨b7, 3, none⟩ _) (fun _ h => .inl h)⟩⟩
              · have e2 : (r.kind == 2) = false := beq_no h2
                by_cases h3 : r.kind = 3
                · have e3 : (r.kind == 3) = true := by simp [h3]
                  have HN : Sc (noteG lsn r x = (x.1, x.2.1, lsn, r.next)) := ⟨by simp [noteG, h3]⟩
                  clear h2 h3
                  go_wp2_with fail
                  go_meet
                  case rel => exact ⟨⟨by rw [HN.out, set_one (set_one HX7.out 2 _) 3 _]; rfl⟩, ⟨(Kp.setCell wc ⟨b7, 2, none⟩ _).trans (Kp.setCell _ ⟨b7, 3, none⟩ _) (fun _ h => .inl h)⟩⟩
                · have e3 : (r.kind == 3) = false := beq_no h3
                  by_cases h4 : r.kind = 4
                  · have e4 : (r.kind == 4) = true := by simp [h4]
                    have HN : Sc (noteG lsn r x = (x.1, 1, lsn, x.2.2.2)) := ⟨by simp [noteG, h4]⟩
                    clear h2 h3 h4
                    go_wp2_with fail
                    go_meet
                    case rel => exact ⟨⟨by rw [HN.out, set_one (set_one HX7.out 2 _) 1 _]; rfl⟩, ⟨(Kp.setCell wc ⟨b7, 2, none⟩ _).trans (Kp.setCell _ ⟨b7, 1, none⟩ _) (fun _ h => .inl h)⟩⟩
                  · have e4 : (r.kind == 4) = false := beq_no h4
                    by_cases h5 : r.kind = 5
                    · have e5 : (r.kind == 5) = true := by simp [h5]
                      have HN : Sc (noteG lsn r x = (x.1, 2, lsn, x.2.2.2)) := ⟨by simp [noteG, h5]⟩
                      clear h2 h3 h4 h5
                      go_wp2_with fail
                      go_meet
                      case rel => exact ⟨⟨by rw [HN.out, set_one (set_one HX7.out 2 _) 1 _]; rfl⟩, ⟨(Kp.setCell wc ⟨b7, 2, none⟩ _).trans (Kp.setCell _ ⟨b7, 1, none⟩ _) (fun _ h => .inl h)⟩⟩
                    · have e5 : (r.kind == 5) = false := beq_no h5
                      have HN : Sc (noteG lsn r x = (x.1, x.2.1, lsn, x.2.2.2)) := ⟨by simp [noteG, h2, h3, h4, h5]⟩
                      clear h2 h3 h4 h5
                      go_wp2_with fail
                      go_meet
                      case rel => exact ⟨⟨by rw [HN.out, set_one HX7.out 2 _]; rfl⟩, ⟨Kp.setCell wc ⟨b7, 2, none⟩ _⟩⟩
            case rest =>
              obtain ⟨HX8, HK8⟩ := hcut
              have HF8 := Sc.mk (HFC.out.kp HK8.out (fun h => HR7.out.1 h.symm) (fun q hq h => HR7.out.2.1 (by rw [hq, h])) (fun q hq h => HR7.out.2.2 (by rw [hq, h])))
              have HB8 : Sc (Below w.heap.size w wc) := ⟨HBC.out.trans (HK8.out.below (by have := HB1.out.size; omega) (fun q hq => by rw [hq]; have := HB1.out.size; omega))⟩
              have HZ8 := Sc.mk (HK8.out.at HZC.out hne)
              obtain ⟨x0, x1, x2, x3⟩ := cells_txn HX8.out
              obtain ⟨y, hy⟩ : ∃ y, noteG lsn r x = y := ⟨_, rfl⟩
              have HY : Sc (y.1 = x.1) := ⟨by rw [← hy]; rfl⟩
              rw [hy] at HX8 HC x0 x1 x2 x3
              clear hy
              have CA : Calls Tryd.prog 68 #[.pointer (some ⟨fb, 1, none⟩), aggT y] wc.drew fun e w2 => e = .returned (.tuple #[]) ∧ LeftF B fb lb rt rd { s with t := setIn s.t y, m := max s.m x.1 } wc w2 := (finAddT wc.drew y HF8.out.drew ht).mono fun e w' ⟨he, hl⟩ => ⟨he, by rw [← HY.out]; exact hl.from_ (Below.refl wc.heap.size wc).drew⟩
              clear c0 c1 c2 c3 c4 c5 c6 c7 c8 c9
              go_wp2_with fail
              go_region_law (first | (go_simp; go_at_call 68; refine CA.mono ?_; rintro e w2 ⟨rfl, hl⟩; have HLF := Sc.mk hl; clear hl))
              all_goals
                clear CA
                obtain ⟨rt2, rd2, hf2, hk2, ht2, hd2, hn2⟩ := HLF.out.keep (heap_lt HZ8.out) HFR.out
                have HZ9 := Sc.mk (box_left HLF.out HZ8.out HFR.out)
                obtain ⟨c0, c1, c2, c3, c4, c5, c6, c7, c8, c9⟩ := cells_recs HZ9.out
                have HK2 := Sc.mk (And.intro hk2 (And.intro ht2 hd2))
                have HN2 := Sc.mk hn2
                have CD : Calls Tryd.prog 69 #[.pointer (some ⟨fb, 3, none⟩), .int .i64 r.page, .int .i64 lsn] w2.drew fun e w3 => e = .returned (.tuple #[]) ∧ LeftF B fb lb rt2 rd2 { s with t := setIn s.t y, m := max s.m x.1, d := add s.d (r.page, lsn) } w2 w3 := (finAddD w2.drew r.page lsn hf2.drew hd).mono fun e w' ⟨he, hl⟩ => ⟨he, hl.from_ (Below.refl w2.heap.size w2).drew⟩
                clear hf2 hk2 ht2 hd2 hn2
                by_cases h2 : r.kind = 2
                · have e2 : (r.kind == 2) = true := by simp [h2]
                  have e3 : (r.kind == 3) = false := beq_no (by omega)
                  have HD : Sc (ok = (x.2.1 == 0) ∧ s' = { s with t := setIn s.t y, m := max s.m x.1, d := add s.d (r.page, lsn) }) := ⟨by rw [HC.out.1, if_neg (by omega), beq_dec], by rw [HC.out.2, if_pos (.inl h2)]⟩
                  clear h2
                  go_wp2_with fail
                  go_region_law (first | (go_simp; go_at_call 69; refine CD.mono ?_; rintro e w3 ⟨rfl, hl⟩; have HLG := Sc.mk hl; clear hl))
                  all_goals
                    obtain ⟨c0, c1, c2, c3, c4, c5, c6, c7, c8, c9⟩ := cells_recs (box_left HLG.out HZ9.out HN2.out)
                    clear CD
                    go_wp2
                    go_ret
                    exact ⟨by rw [HD.out.1]; rfl, by rw [HD.out.2]; exact (LeftF.trans HK2.out.1 HK2.out.2.1 HK2.out.2.2 HLG.out).from_ HB8.out⟩
                · have e2 : (r.kind == 2) = false := beq_no h2
                  by_cases h3 : r.kind = 3
                  · have e3 : (r.kind == 3) = true := by simp [h3]
                    have HD : Sc (ok = (decide (x.2.1 ≠ 1) && decide (r.next < lsn)) ∧ s' = { s with t := setIn s.t y, m := max s.m x.1, d := add s.d (r.page, lsn) }) := ⟨by rw [HC.out.1, if_pos h3], by rw [HC.out.2, if_pos (.inr h3)]⟩
                    clear h2 h3
                    go_wp2_with fail
                    go_region_law (first | (go_simp; go_at_call 69; refine CD.mono ?_; rintro e w3 ⟨rfl, hl⟩; have HLG := Sc.mk hl; clear hl))
                    all_goals
                      obtain ⟨c0, c1, c2, c3, c4, c5, c6, c7, c8, c9⟩ := cells_recs (box_left HLG.out HZ9.out HN2.out)
                      clear CD
                      go_wp2
                      all_goals
                        rename_i hw
                        go_ret
                        refine ⟨?_, by rw [HD.out.2]; exact (LeftF.trans HK2.out.1 HK2.out.2.1 HK2.out.2.2 HLG.out).from_ HB8.out⟩
                        first
                          | (have HW : ok = (x.2.1 != 1 && decide (r.next < lsn)) := (by rw [HD.out.1]; by_cases hq : x.2.1 = 1 <;> simp [hq]); rw [HW]; rfl)
                          | (have HW : ok = false := (by rw [HD.out.1]; simp [hw]); rw [HW]; rfl)
                          | (have HW : ok = decide (r.next < lsn) := (by rw [HD.out.1]; simp [hw]); rw [HW]; rfl)
                  · have e3 : (r.kind == 3) = false := beq_no h3
                    have HD : Sc (ok = (x.2.1 == 0) ∧ s' = { s with t := setIn s.t y, m := max s.m x.1 }) := ⟨by rw [HC.out.1, if_neg h3, beq_dec], by rw [HC.out.2, if_neg (by omega)]⟩
                    clear h2 h3 CD
                    go_wp2
                    go_ret
                    exact ⟨by rw [HD.out.1]; rfl, by rw [HD.out.2]; exact HLF.out.from_ HB8.out⟩
        · have epv : (r.prev == x.2.2.1) = false := beq_no hpv
          have HC : Sc (ok = false ∧ s' = s) := ⟨by rw [← HOK.out.1, ← HOK.out.2]; unfold stepG; rw [if_neg h1, if_pos (.inr (by rw [HX.out.1]; exact hpv))]; exact ⟨rfl, rfl⟩⟩
          clear h1 hpv
          go_wp2
          go_ret
          exact ⟨by rw [HC.out.1]; rfl, by rw [HC.out.2]; exact LeftF.same HF0.out HBC.out⟩
end Go.Proofs.YtoapihepdallbaaDoor
