/- The document's analysis: Analyse. -/
import Derived.Test.YtoapihepdallbaaDoorFinR2
import Derived.Deep.RegionHeld3
namespace Go.Proofs.YtoapihepdallbaaDoor
open Go.RowKit

/-- What the document's analysis hands out. -/
def RefOut (base : Nat) (x : Option Int × An) (e : Ending) (w' : World) : Prop :=
  (∃ p, x = (some p, An.zero false) ∧ e = .returned (.tuple #[.agg fd0, aggA 108 p])) ∨
  ∃ vt vd, x.1 = none ∧ e = .returned (.tuple #[.agg #[vt, vd, .int .i64 x.2.m], aggF 0]) ∧ Own enc4 4 56 base w' vt x.2.t ∧ Own enc2 2 58 base w' vd x.2.d
theorem cells_rfin {w : World} {b : Nat} {a v u x : Value} {t : TypeId} (h : w.heap[b]? = some (.cells #[a, v, u, x] t (0, 0))) : w.cell? ⟨b, 1, none⟩ = some v ∧ w.cell? ⟨b, 2, none⟩ = some u ∧ w.cell? ⟨b, 3, none⟩ = some x := by simp [World.cell?, h]
theorem ins_stepO (bs lsn : Int) (r : RecD) {s : An} (h : s.ins = false) : (stepO bs lsn r s).2.ins = false := by
  unfold stepO
  rw [if_neg (by rw [h]; exact Bool.false_ne_true)]
  split
  · exact h
  unfold stepG
  split
  · exact h
  split
  · exact h
  split
  · exact h
  · exact h
theorem page_of {r : RecD} (h : goodR r = true) (hn : ¬ (r.kind = 2 ∨ r.kind = 3 ∨ r.kind = 9)) : r.page = 0 := by
  have h2 : inR r.page (min (pageR r) 1) (pageR r) = true := by
    unfold goodR at h
    simp only [Bool.and_eq_true] at h
    exact h.1.1.1.1.2
  have h3 : pageR r = 0 := by unfold pageR; rw [if_neg hn]
  rw [h3] at h2
  unfold inR at h2
  simp at h2
  omega
theorem kind_of {r : RecD} (h : goodR r = true) : 1 ≤ r.kind := by
  have h2 : inR r.kind 1 10 = true := by
    unfold goodR at h
    simp only [Bool.and_eq_true] at h
    exact h.1.1.1.1.1.1
  unfold inR at h2
  simp at h2
  omega
theorem below_six {B b6 b7 : Nat} {w0 w : World} {u0 u1 u2 v0 v1 v2 : Value} (h : Below B w0 w) (h6 : B ≤ b6) (h7 : B ≤ b7) : Below B w0 ((((((w.setCell ⟨b6, 0, none⟩ u0).setCell ⟨b6, 1, none⟩ u1).setCell ⟨b6, 2, none⟩ u2).setCell ⟨b7, 0, none⟩ v0).setCell ⟨b7, 1, none⟩ v1).setCell ⟨b7, 2, none⟩ v2) := low_st3 (low_st3 h h6) h7
theorem below_six' {B b6 b7 : Nat} {w0 w : World} {u0 u1 u2 v0 v1 v2 : Value} (h : Below B w0 w) (h6 : B ≤ b6) (h7 : B ≤ b7) : Below B w0 ((((((w.setCell ⟨b7, 0, none⟩ u0).setCell ⟨b7, 1, none⟩ u1).setCell ⟨b7, 2, none⟩ u2).setCell ⟨b6, 0, none⟩ v0).setCell ⟨b6, 1, none⟩ v1).setCell ⟨b6, 2, none⟩ v2) := low_st3 (low_st3 h h7) h6

set_option maxHeartbeats 1000000 in
theorem badYes_any (w : World) (p : Int) : Calls Tryd.prog 36 #[aggA 108 p] w fun e w' => e = .returned (.bool true) ∧ Below w.heap.size w w' := by
  go_enter Tryd.func36, Tryd.ntmps36
  go_wp2
  go_ret
  exact ⟨rfl, dn_alloc (Below.refl _ _) _⟩
set_option maxHeartbeats 1000000 in
theorem badNo_any (w : World) : Calls Tryd.prog 36 #[aggF 0] w fun e w' => e = .returned (.bool false) ∧ Below w.heap.size w w' := by
  go_enter Tryd.func36, Tryd.ntmps36
  go_wp2
  go_ret
  exact ⟨rfl, dn_alloc (Below.refl _ _) _⟩

variable {lb : Nat} {row : Option Nat} {L : List RecD} {bs : Int}
set_option maxRecDepth 8000 in
set_option maxHeartbeats 8000000 in
theorem anaRef_any (w : World) (pages ckpt : Int) (h : LogR w lb row L bs) (hlen : L.length ≤ 1000) (h0 : 0 ≤ bs) (h1 : bs ≤ 1000) (hp0 : 0 ≤ pages) (hg : ∀ r ∈ L, goodR r = true) :
    Calls Tryd.prog 11 #[.pointer (some ⟨lb, 0, none⟩), .int .i64 pages, .int .i64 ckpt] w fun e w' => RefOut 0 (anaP L bs pages ckpt) e w' ∧ Below w.heap.size w w' := by
  obtain ⟨res, hres⟩ : ∃ res, anaP L bs pages ckpt = res := ⟨_, rfl⟩
  rw [hres]
  have HRES := Sc.mk hres
  have HG := Sc.mk hg
  have HLL := Sc.mk (And.intro h.lt h.rowlt)
  have HBa : Sc (Below w.heap.size w ((w.alloc (.cells fd0 42)).alloc (.cells fz 44))) := ⟨dn_alloc (dn_alloc (Below.refl _ _) _) _⟩
  have HZ6 : Sc (((w.alloc (.cells fd0 42)).alloc (.cells fz 44)).heap[w.heap.size]? = some (.cells fd0 42 (0, 0))) := ⟨upa (heap_alloc_new w _) _⟩
  have HZ7 : Sc (((w.alloc (.cells fd0 42)).alloc (.cells fz 44)).heap[w.heap.size + 1]? = some (.cells fz 44 (0, 0))) := ⟨by have := heap_alloc_new (w.alloc (.cells fd0 42)) (.cells fz 44); simpa using this⟩
  have HL1 := Sc.mk (h.bel HBa.out)
  obtain ⟨w1, hw1⟩ : ∃ w1, (w.alloc (.cells fd0 42)).alloc (.cells fz 44) = w1 := ⟨_, rfl⟩
  rw [hw1] at HBa HZ6 HZ7 HL1
  have HF0 := Sc.mk (FinR.new (B := w1.heap.size) w1 lb (Nat.le_refl _) true)
  have HB2 : Sc (Below w1.heap.size w1 (w1.alloc (.cells #[.pointer (some ⟨lb, 0, none⟩), .slice none 0 0, .int .i64 0, .slice none 0 0] 93))) := ⟨dn_alloc (Below.refl _ _) _⟩
  obtain ⟨w2, hw2⟩ : ∃ w2, w1.alloc (.cells #[.pointer (some ⟨lb, 0, none⟩), .slice none 0 0, .int .i64 0, .slice none 0 0] 93) = w2 := ⟨_, rfl⟩
  rw [hw2] at HF0 HB2
  have HL2 := Sc.mk (HL1.out.bel HB2.out)
  obtain ⟨b6, hb6⟩ : ∃ b, w.heap.size = b := ⟨_, rfl⟩
  obtain ⟨b7, hb7⟩ : ∃ b, b6 + 1 = b := ⟨_, rfl⟩
  obtain ⟨fb, hfb⟩ : ∃ b, w1.heap.size = b := ⟨_, rfl⟩
  have HB67 : Sc (w.heap.size ≤ b6 ∧ w.heap.size ≤ b7) := ⟨by omega, by omega⟩
  have hne67 : ¬ b6 = b7 := by omega
  have hne76 : ¬ b7 = b6 := by omega
  rw [hb6] at HZ6
  rw [hb6, hb7] at HZ7
  have HFB : Sc (w1.heap.size ≤ fb ∧ b6 < w1.heap.size ∧ b7 < w1.heap.size) := ⟨by omega, heap_lt HZ6.out, heap_lt HZ7.out⟩
  rw [show FinR w1.heap.size w2 w1.heap.size lb none none (An.zero true) = FinR w1.heap.size w2 fb lb none none (An.zero true) from by rw [hfb]] at HF0
  have hn6 : ¬ b6 = fb := by have := HFB.out; omega
  have hn7 : ¬ b7 = fb := by have := HFB.out; omega
  have hn6' : ¬ fb = b6 := by have := HFB.out; omega
  have hn7' : ¬ fb = b7 := by have := HFB.out; omega
  have HLB : Sc (lb < w1.heap.size ∧ ∀ q, row = some q → q < w1.heap.size) := ⟨Nat.lt_of_lt_of_le HLL.out.1 HBa.out.size, fun q hq => Nat.lt_of_lt_of_le (HLL.out.2 q hq) HBa.out.size⟩
  have HBOX : Sc (∀ X, Below w1.heap.size w1 X → X.heap[b6]? = some (.cells fd0 42 (0, 0)) ∧ X.heap[b7]? = some (.cells fz 44 (0, 0))) := ⟨fun X hX => ⟨up hX HZ6.out, up hX HZ7.out⟩⟩
  have HLOW : Sc (∀ X, Below w1.heap.size w1 X → Below w.heap.size w X) := ⟨fun X hX => below_down HBa.out hX⟩
  have hlen' : L.length ≤ 1000000 := by omega
  have h1' : bs ≤ 1000000 := by omega
  have hwb : IntKind.i64.wrap (bs + 1) = bs + 1 := IntWalk.i64_in _ ⟨by omega, by omega⟩
  obtain ⟨⟨dp, A, sz, cp, hv, hcl, hown⟩, hap⟩ := HL2.out
  obtain ⟨k2, k3, k5⟩ := cells_rlog hcl
  have ll := heap_lt hcl
  clear hres h hg HLL hv hcl hown hap k2 k5
  go_enter Tryd.func11, Tryd.ntmps11
  go_wp2_with fail
  clear hw1 hw2 hb6 hb7 hfb k3 ll
  go_loopg [10] L.length (fun kx s10 wr => ∃ i : Nat, s10 = .int .i64 (bs + 1 + i) ∧ i ≤ L.length ∧ L.length - i ≤ kx ∧ Sc (Below w1.heap.size w1 wr) ∧ Sc (Below w2.heap.size w2 wr) ∧ Sc (badPage pages (bs + 1) L = badPage pages (bs + 1 + i) (L.drop i)))
  case atStart => exact ⟨0, by go_num, Nat.zero_le _, by omega, HB2, ⟨Below.refl _ _⟩, ⟨by simp⟩⟩
  case round =>
    obtain ⟨i, rfl, hi, hk, HB, HQ, HBP⟩ := hrel
    have hw1 : IntKind.i64.wrap (bs + 1 + i + 1) = bs + 1 + ((i + 1 : Nat) : Int) := by rw [IntWalk.i64_in _ ⟨by omega, by omega⟩]; omega
    go_wp2_with fail
    refine (refLast_any _ lb row L bs (HL1.out.bel HB.out) hlen' h0 h1').mono ?_
    rintro e w3 ⟨rfl, hb⟩
    have HB3 := Sc.mk (below_down HB.out hb)
    have HQ3 := Sc.mk (below_down HQ.out hb)
    clear hb HB HQ
    by_cases hlt : i < L.length
    · obtain ⟨r, hr⟩ : ∃ r, L[i]? = some r := ⟨_, List.getElem?_eq_getElem hlt⟩
      have HR : Sc (recAt L bs (bs + 1 + i) = some r) := ⟨by rw [recAt_in rfl hlt, hr]⟩
      have HRI := Sc.mk hr
      have HRG := Sc.mk (HG.out r (List.mem_of_getElem? hr))
      have hle : decide (bs + 1 + (i : Int) ≤ bs + L.length) = true := decide_eq_true (by omega)
      clear hr
      go_wp2_with fail
      refine (refRec_any _ lb row L bs (bs + 1 + i) (HL1.out.bel HB3.out) hlen' h0 h1').mono ?_
      rw [HR.out]
      rintro e w4 ⟨rfl, hb⟩
      have HB5 : Sc (Below w1.heap.size w1 (w4.alloc (.cells (cellsR r) 51))) := ⟨dn_alloc (below_down HB3.out hb) _⟩
      have HQ5 : Sc (Below w2.heap.size w2 (w4.alloc (.cells (cellsR r) 51))) := ⟨dn_alloc (below_down HQ3.out hb) _⟩
      clear hb HB3 HQ3
      simp only [Option.getD_some]
      obtain ⟨c0, c1, c2, c3, c4, c5, c6, c7, c8, c9⟩ := cells_recs (heap_alloc_new w4 (.cells (cellsR r) 51))
      by_cases hp : pages < r.page
      · have hdp : decide (pages < r.page) = true := decide_eq_true hp
        have HE : Sc (res = (some (bs + 1 + (i : Int)), An.zero false)) := ⟨by
          have hkk : r.kind = 2 ∨ r.kind = 3 ∨ r.kind = 9 := Classical.byContradiction fun hn => by
            have := page_of HRG.out hn
            omega
          rw [← HRES.out]
          exact anaP_page (by rw [HBP.out, badPage_stop HRI.out ⟨hkk, hp⟩])⟩
        clear hp
        go_wp2_with fail
        refine (placed_any _ 108 (bs + 1 + i) (by omega)).mono ?_
        rintro e w6 ⟨rfl, hb⟩
        have HB6 := Sc.mk (below_down HB5.out hb)
        obtain ⟨q0, q1, q2, y0, y1, y2, lz⟩ := cells_fz (HBOX.out w6 HB6.out).2
        obtain ⟨p0, p1, p2, g0, g1, g2, lp⟩ := cells_fz (HBOX.out w6 HB6.out).1
        clear hb c0 c1 c2 c3 c4 c5 c6 c7 c8 c9
        go_wp2
        refine bodyPost_ret (v := .tuple #[.agg fd0, aggA 108 (bs + 1 + i)]) (by simp [results, Tryd.results11, go_sem, q0, q1, q2, p0, p1, p2]) rfl ⟨.inl ⟨_, HE.out, rfl⟩, ?_⟩
        (repeat (first | with_reducible refine Below.drew ?_ | (with_reducible refine Below.setCell ?_ ?_ _; rotate_left; (first | exact HB67.out.1 | exact HB67.out.2))))
        exact HLOW.out _ HB6.out
      · have hdp : decide (pages < r.page) = false := decide_eq_false hp
        have HBP2 : Sc (badPage pages (bs + 1) L = badPage pages (bs + 1 + ((i + 1 : Nat) : Int)) (L.drop (i + 1))) := ⟨by rw [HBP.out, badPage_next HRI.out (fun h => hp h.2)]; congr 1; omega⟩
        clear hp
        go_wp2
        go_roundg (L.length - (i + 1))
        case measure => omega
        case rel => exact ⟨i + 1, by rw [show bs + 1 + ((i + 1 : Nat) : Int) = bs + 1 + ((i : Int) + 1) from by omega], by omega, Nat.le_refl _, HB5, HQ5, HBP2⟩
    · have hle : decide (bs + 1 + (i : Int) ≤ bs + L.length) = false := decide_eq_false (by omega)
      have HI : Sc (i = L.length) := ⟨by omega⟩
      have HBN : Sc (badPage pages (bs + 1) L = none) := ⟨by rw [HBP.out, HI.out, badPage_end]⟩
      have HF3 := Sc.mk (HF0.out.bel HQ3.out)
      clear hw1 hi hk hlt HBP HQ3
      go_upto_if 47 with fail
      go_cut [9] from 47 to 59 (fun s9 wx => ∃ (i0 : Nat) (s : An) (rt rd : Option Nat), s9 = .int .i64 (bs + 1 + i0) ∧ i0 ≤ L.length ∧ s.t.length ≤ i0 ∧ s.d.length ≤ i0 ∧ s.ins = false ∧ Sc (Seen s) ∧ Sc (FinR w1.heap.size wx fb lb rt rd s) ∧ Sc (Below w1.heap.size w1 wx) ∧ Sc (anaP L bs pages ckpt = anaRes (bs + L.length) (runA bs (bs + 1 + i0) (L.drop i0) s)))
      case first =>
        by_cases hck : ckpt = 0
        · have e0 : (ckpt == 0) = true := by simp [hck]
          have HA : Sc (anaP L bs pages ckpt = anaRes (bs + L.length) (runA bs (bs + 1 + ((0 : Nat) : Int)) (L.drop 0) (An.zero false))) := ⟨by rw [hck, anaP_zero HBN.out]; simp⟩
          clear hck
          go_wp2_with fail
          go_meet
          case rel =>
            obtain ⟨a1, a2, a3, a4, a5, a6, a7, a8, a9⟩ := HF3.out
            exact ⟨0, An.zero false, none, none, by go_num, Nat.zero_le _, Nat.zero_le _, Nat.zero_le _, rfl, ⟨seen_zero false⟩, ⟨a1, a2, a3, a4, a5, a6, a7, a8, a9⟩, HB3, HA⟩
        · have e0 : (ckpt == 0) = false := beq_no hck
          have HCK : Sc (ckpt ≠ 0) := ⟨hck⟩
          clear hck
          go_wp2_with fail
          refine (rfinCkpt _ pages ckpt HF3.out (HL1.out.bel HB3.out) HLB.out hlen h0 h1 HBN.out HCK.out).mono ?_
          rintro e w4 ⟨⟨p, rfl, hpe⟩ | ⟨j, rt, rd, s, rfl, hj, hst, hsd, hins, hsn, hf, ha⟩, hb⟩
          · have HE : Sc (res = (some p, An.zero false)) := ⟨by rw [← HRES.out, hpe]⟩
            have HB5 : Sc (Below w1.heap.size w1 (w4.alloc (.cells #[.int .i64 108, .bool true, .int .i64 p] 44))) := ⟨dn_alloc (HB3.out.trans hb) _⟩
            have HZ4 := Sc.mk (heap_alloc_new w4 (.cells #[.int .i64 108, .bool true, .int .i64 p] 44))
            have hsz : w1.heap.size ≤ w4.heap.size := Nat.le_trans HB3.out.size hb.size
            clear hpe hb HF3
            obtain ⟨z0, z1, z2, x0, x1, x2, lx⟩ := cells_fz HZ4.out
            go_wp2_with fail
            refine (badYes_any _ p).mono ?_
            rintro e w6 ⟨rfl, hb6⟩
            have HB6 := Sc.mk (below_down HB5.out hb6)
            have HZ5 := Sc.mk (up hb6 HZ4.out)
            have n1 : ¬ w4.heap.size = b6 := by have := HFB.out; omega
            have n2 : ¬ w4.heap.size = b7 := by have := HFB.out; omega
            have n3 : ¬ b6 = w4.heap.size := by have := HFB.out; omega
            have n4 : ¬ b7 = w4.heap.size := by have := HFB.out; omega
            clear hb6 z0 z1 z2 x0 x1 x2 lx
            obtain ⟨z0, z1, z2, x0, x1, x2, lx⟩ := cells_fz HZ5.out
            obtain ⟨q0, q1, q2, y0, y1, y2, lz⟩ := cells_fz (HBOX.out w6 HB6.out).2
            obtain ⟨p0, p1, p2, g0, g1, g2, lp⟩ := cells_fz (HBOX.out w6 HB6.out).1
            go_wp2_with fail
            go_region
            all_goals
              go_wp2
              refine bodyPost_ret (v := .tuple #[.agg fd0, aggA 108 p]) (by simp [results, Tryd.results11, go_sem, q0, q1, q2, p0, p1, p2]) rfl ⟨.inl ⟨p, HE.out, rfl⟩, ?_⟩
              (repeat (first | with_reducible refine Below.drew ?_ | (with_reducible refine Below.setCell ?_ ?_ _; rotate_left; (first | exact HB67.out.1 | exact HB67.out.2))))
              exact HLOW.out _ HB6.out
          · have HFC := Sc.mk (hf.bel (dn_alloc (Below.refl _ _) (.cells #[.int .i64 0, .bool false, .int .i64 0] 44)))
            have HSN := Sc.mk hsn
            have HA : Sc (anaP L bs pages ckpt = anaRes (bs + L.length) (runA bs (bs + 1 + ((j + 1 : Nat) : Int)) (L.drop (j + 1)) s)) := ⟨ha⟩
            have HINS := Sc.mk hins
            have HB5 : Sc (Below w1.heap.size w1 (w4.alloc (.cells #[.int .i64 0, .bool false, .int .i64 0] 44))) := ⟨dn_alloc (HB3.out.trans hb) _⟩
            have HZ4 := Sc.mk (heap_alloc_new w4 (.cells #[.int .i64 0, .bool false, .int .i64 0] 44))
            have hwk : IntKind.i64.wrap (bs + 1 + (j : Int) + 1) = bs + 1 + ((j + 1 : Nat) : Int) := by rw [IntWalk.i64_in _ ⟨by omega, by omega⟩]; omega
            clear hf hsn ha hins hb HF3
            obtain ⟨z0, z1, z2, x0, x1, x2, lx⟩ := cells_fz HZ4.out
            go_wp2_with fail
            refine (badNo_any _).mono ?_
            rintro e w6 ⟨rfl, hb6⟩
            have HB6 := Sc.mk (below_down HB5.out hb6)
            have HF6 := Sc.mk (HFC.out.bel hb6)
            clear hb6 z0 z1 z2 x0 x1 x2 lx HZ4 HFC HB5
            go_wp2_with fail
            go_meet
            case rel => exact ⟨j + 1, s, rt, rd, rfl, by omega, by omega, by omega, HINS.out, HSN, HF6, HB6, HA⟩
      case rest =>
        obtain ⟨i0, s0, rt0, rd0, rfl, hi0, hst0, hsd0, hins0, HSN0, HF4, HB4, HA4⟩ := hcut
        have HI0 := Sc.mk hins0
        clear HF0 HF3 HB3 hins0
        go_wp2_with fail
        go_loopg [15] L.length (fun kx s15 wr => ∃ (k : Nat) (s : An) (rt rd : Option Nat), s15 = .int .i64 (bs + 1 + k) ∧ k ≤ L.length ∧ L.length - k ≤ kx ∧ s.t.length ≤ k ∧ s.d.length ≤ k ∧ Sc (s.ins = false) ∧ Sc (Seen s) ∧ Sc (FinR w1.heap.size wr fb lb rt rd s) ∧ Sc (Below w1.heap.size w1 wr) ∧ Sc (anaP L bs pages ckpt = anaRes (bs + L.length) (runA bs (bs + 1 + k) (L.drop k) s)))
        case atStart => exact ⟨i0, s0, rt0, rd0, rfl, hi0, by omega, hst0, hsd0, HI0, HSN0, HF4, HB4, HA4⟩
        case round =>
          obtain ⟨k, s, rt, rd, rfl, hk, hkx, hst, hsd, HINS, HSN, HF, HB, HA⟩ := hrel
          have hw1 : IntKind.i64.wrap (bs + 1 + k + 1) = bs + 1 + (k : Int) + 1 := IntWalk.i64_in _ ⟨by omega, by omega⟩
          clear HF4 HB4 HA4 HSN0 HI0 hst0 hsd0
          go_wp2_with fail
          refine (refLast_any _ lb row L bs (HL1.out.bel HB.out) hlen' h0 h1').mono ?_
          rintro e w3 ⟨rfl, hb⟩
          have HB3 := Sc.mk (below_down HB.out hb)
          have HF3 := Sc.mk (HF.out.bel hb)
          clear hb HB HF
          by_cases hlt : k < L.length
          · obtain ⟨r, hr⟩ : ∃ r, L[k]? = some r := ⟨_, List.getElem?_eq_getElem hlt⟩
            have HR : Sc (recAt L bs (bs + 1 + k) = some r) := ⟨by rw [recAt_in rfl hlt, hr]⟩
            have HRI := Sc.mk hr
            have HRG := Sc.mk (HG.out r (List.mem_of_getElem? hr))
            have hle : decide (bs + 1 + (k : Int) ≤ bs + L.length) = true := decide_eq_true (by omega)
            clear hr
            go_wp2_with fail
            refine (refRec_any _ lb row L bs (bs + 1 + k) (HL1.out.bel HB3.out) hlen' h0 h1').mono ?_
            rw [HR.out]
            rintro e w4 ⟨rfl, hb⟩
            have HB4 : Sc (Below w1.heap.size w1 (w4.alloc (.cells (cellsR r) 51))) := ⟨dn_alloc (below_down HB3.out hb) _⟩
            have HF4 : Sc (FinR w1.heap.size (w4.alloc (.cells (cellsR r) 51)) fb lb rt rd s) := ⟨HF3.out.bel (dn_alloc hb _)⟩
            clear hb HB3 HF3
            simp only [Option.getD_some]
            obtain ⟨c0, c1, c2, c3, c4, c5, c6, c7, c8, c9⟩ := cells_recs (heap_alloc_new w4 (.cells (cellsR r) 51))
            go_wp2_with fail
            refine (rfinOne _ bs (bs + 1 + k) r HF4.out HSN.out HINS.out (kind_of HRG.out) (by omega) (by omega)).mono ?_
            rintro e w5 ⟨rfl, hl⟩
            have HB6 : Sc (Below w1.heap.size w1 w5) := ⟨HB4.out.trans (hl.below HF4.out)⟩
            have HLN := Sc.mk (stepO_len (bs := bs) (bs + 1 + k) r s)
            have HSE := Sc.mk (seen_stepO bs (bs + 1 + k) r HSN.out)
            have HIN : Sc ((stepO bs (bs + 1 + k) r s).2.ins = false) := ⟨by rw [ins_stepO _ _ _ HINS.out]⟩
            have HRN : (stepO bs (bs + 1 + k) r s).1 = true → Sc (anaP L bs pages ckpt = anaRes (bs + L.length) (runA bs (bs + 1 + (k : Int) + 1) (L.drop (k + 1)) (stepO bs (bs + 1 + k) r s).2)) := fun h => ⟨by rw [HA.out, runA_next HRI.out h]⟩
            have HRS : (stepO bs (bs + 1 + k) r s).1 = false → Sc (res = (some (bs + 1 + (k : Int)), An.zero false)) := fun h => ⟨by rw [← HRES.out, HA.out]; exact anaRes_bad (runA_stop HRI.out h)⟩
            obtain ⟨rt5, rd5, hf5, _, _, _⟩ := hl
            have HF5 := Sc.mk hf5
            clear hf5
            obtain ⟨ok, hok⟩ : ∃ ok, (stepO bs (bs + 1 + k) r s).1 = ok := ⟨_, rfl⟩
            obtain ⟨s', hs'⟩ : ∃ s', (stepO bs (bs + 1 + k) r s).2 = s' := ⟨_, rfl⟩
            rw [hok] at HRN HRS ⊢
            rw [hs'] at HRN HF5 HLN HSE HIN
            clear hok hs' HF4 HB4 c0 c1 c2 c3 c4 c5 c6 c7 c8 c9
            cases ok with
            | true =>
              have HAN := HRN rfl
              clear HRN HRS
              obtain ⟨hl1, hl2⟩ := HLN.out
              go_wp2
              go_roundg (L.length - (k + 1))
              case measure => omega
              case rel => exact ⟨k + 1, s', rt5, rd5, by rw [show bs + 1 + ((k + 1 : Nat) : Int) = bs + 1 + (k : Int) + 1 from by omega], by omega, Nat.le_refl _, by omega, by omega, HIN, HSE, HF5, HB6, ⟨by rw [HAN.out, show bs + 1 + ((k + 1 : Nat) : Int) = bs + 1 + (k : Int) + 1 from by omega]⟩⟩
            | false =>
              have HE := HRS rfl
              clear HRN HRS
              go_wp2_with fail
              refine (placed_any _ 108 (bs + 1 + k) (by omega)).mono ?_
              rintro e w7 ⟨rfl, hb⟩
              have HB7 := Sc.mk (below_down HB6.out hb)
              obtain ⟨q0, q1, q2, y0, y1, y2, lz⟩ := cells_fz (HBOX.out w7 HB7.out).2
              obtain ⟨p0, p1, p2, g0, g1, g2, lp⟩ := cells_fz (HBOX.out w7 HB7.out).1
              clear hb
              go_wp2
              refine bodyPost_ret (v := .tuple #[.agg fd0, aggA 108 (bs + 1 + k)]) (by simp [results, Tryd.results11, go_sem, q0, q1, q2, p0, p1, p2]) rfl ⟨.inl ⟨_, HE.out, rfl⟩, ?_⟩
              (repeat (first | with_reducible refine Below.drew ?_ | (with_reducible refine Below.setCell ?_ ?_ _; rotate_left; (first | exact HB67.out.1 | exact HB67.out.2))))
              exact HLOW.out _ HB7.out
          · have hle : decide (bs + 1 + (k : Int) ≤ bs + L.length) = false := decide_eq_false (by omega)
            have HE : Sc (res = (none, s)) := ⟨by rw [← HRES.out, HA.out, show k = L.length from by omega, runA_end, anaRes_ok HINS.out]⟩
            obtain ⟨⟨vt, vd, e1, e2, hc, o1, o2⟩, a1, a2, _⟩ := HF3.out
            obtain ⟨At, nt, ct, rfl⟩ := o1.slice3
            obtain ⟨Ad, nd, cd, rfl⟩ := o2.slice3
            have HFC := Sc.mk hc
            have HOT := Sc.mk o1
            have HOD := Sc.mk o2
            have HNT : Sc (∀ q, (Value.slice At nt ct).ownBlock = some q → w1.heap.size ≤ q) := ⟨fun q hq => HF3.out.newT q (by rw [← e1]; exact hq)⟩
            have HND : Sc (∀ q, (Value.slice Ad nd cd).ownBlock = some q → w1.heap.size ≤ q) := ⟨fun q hq => HF3.out.newD q (by rw [← e2]; exact hq)⟩
            clear hw1 HA hst hsd hkx hk hlt e1 e2 hc o1 o2 a1 a2
            go_wp2_with fail
            have HQ : Sc (Below w3.heap.size w3 w3) := ⟨Below.refl _ _⟩
            have CN : ∀ X, Below w3.heap.size w3 X → Calls Tryd.prog 38 #[] X fun e w' => e = .returned (aggF 0) ∧ Below w3.heap.size w3 w' := fun X hX => (none_any X).mono fun e w' ⟨he, hq⟩ => ⟨he, hX.trans (hq.mono hX.size)⟩
            obtain ⟨f1, f2, f3⟩ := cells_rfin HFC.out
            have lf := heap_lt HFC.out
            obtain ⟨q0, q1, q2, y0, y1, y2, lz⟩ := cells_fz (HBOX.out w3 HB3.out).2
            obtain ⟨p0, p1, p2, g0, g1, g2, lp⟩ := cells_fz (HBOX.out w3 HB3.out).1
            have HSW : Sc (∀ W, Below w3.heap.size w3 W → W.cell? ⟨fb, 1, none⟩ = some (.slice At nt ct) ∧ W.cell? ⟨fb, 2, none⟩ = some (.int .i64 s.m) ∧ W.cell? ⟨fb, 3, none⟩ = some (.slice Ad nd cd)) := ⟨fun W h => cells_rfin (up h HFC.out)⟩
            have HS6 : Sc (∀ W (u0 u1 u2 : Value), Below w3.heap.size w3 W → (((W.setCell ⟨b6, 0, none⟩ u0).setCell ⟨b6, 1, none⟩ u1).setCell ⟨b6, 2, none⟩ u2).cell? ⟨fb, 1, none⟩ = some (.slice At nt ct) ∧ (((W.setCell ⟨b6, 0, none⟩ u0).setCell ⟨b6, 1, none⟩ u1).setCell ⟨b6, 2, none⟩ u2).cell? ⟨fb, 2, none⟩ = some (.int .i64 s.m) ∧ (((W.setCell ⟨b6, 0, none⟩ u0).setCell ⟨b6, 1, none⟩ u1).setCell ⟨b6, 2, none⟩ u2).cell? ⟨fb, 3, none⟩ = some (.slice Ad nd cd)) := ⟨fun W u0 u1 u2 h => cells_rfin ((kp_st3 (b := b6)).at (up h HFC.out) hn6')⟩
            have HS67 : Sc (∀ W (u0 u1 u2 v0 v1 v2 : Value), Below w3.heap.size w3 W → ((((((W.setCell ⟨b6, 0, none⟩ u0).setCell ⟨b6, 1, none⟩ u1).setCell ⟨b6, 2, none⟩ u2).setCell ⟨b7, 0, none⟩ v0).setCell ⟨b7, 1, none⟩ v1).setCell ⟨b7, 2, none⟩ v2).cell? ⟨fb, 1, none⟩ = some (.slice At nt ct) ∧ ((((((W.setCell ⟨b6, 0, none⟩ u0).setCell ⟨b6, 1, none⟩ u1).setCell ⟨b6, 2, none⟩ u2).setCell ⟨b7, 0, none⟩ v0).setCell ⟨b7, 1, none⟩ v1).setCell ⟨b7, 2, none⟩ v2).cell? ⟨fb, 2, none⟩ = some (.int .i64 s.m) ∧ ((((((W.setCell ⟨b6, 0, none⟩ u0).setCell ⟨b6, 1, none⟩ u1).setCell ⟨b6, 2, none⟩ u2).setCell ⟨b7, 0, none⟩ v0).setCell ⟨b7, 1, none⟩ v1).setCell ⟨b7, 2, none⟩ v2).cell? ⟨fb, 3, none⟩ = some (.slice Ad nd cd)) := ⟨fun W u0 u1 u2 v0 v1 v2 h => cells_rfin ((kp_st3 (b := b7)).at ((kp_st3 (b := b6)).at (up h HFC.out) hn6') hn7')⟩
            go_region_held3 (fun W => W.cell? ⟨fb, 1, none⟩ = some (.slice At nt ct) ∧ W.cell? ⟨fb, 2, none⟩ = some (.int .i64 s.m) ∧ W.cell? ⟨fb, 3, none⟩ = some (.slice Ad nd cd))
              (first | with_reducible exact HSW.out _ HQ.out | with_reducible exact HSW.out _ (Below.drew HQ.out) | with_reducible exact HS6.out _ _ _ _ HQ.out | with_reducible exact HS6.out _ _ _ _ (Below.drew HQ.out) | with_reducible exact HS67.out _ _ _ _ _ _ _ HQ.out | with_reducible exact HS67.out _ _ _ _ _ _ _ (Below.drew HQ.out))
              (first
                | (go_at_call 38; go_loud (refine (CN _ (by first | with_reducible exact HQ.out | with_reducible exact Below.drew HQ.out)).mono ?_; rintro e wt ⟨rfl, hq⟩; have HQ := Sc.mk hq; obtain ⟨f1, f2, f3⟩ := cells_rfin (up hq HFC.out); have lf := heap_lt (up hq HFC.out); obtain ⟨q0, q1, q2, y0, y1, y2, lz⟩ := cells_fz (HBOX.out wt (below_down HB3.out hq)).2; obtain ⟨p0, p1, p2, g0, g1, g2, lp⟩ := cells_fz (HBOX.out wt (below_down HB3.out hq)).1; clear hq)))
            all_goals
              clear CN
              go_wp2
              refine bodyPost_ret (v := .tuple #[.agg #[.slice At nt ct, .slice Ad nd cd, .int .i64 s.m], aggF 0]) (by simp [results, Tryd.results11, go_sem, q0, q1, q2, p0, p1, p2]) rfl ⟨.inr ⟨.slice At nt ct, .slice Ad nd cd, by rw [HE.out], by rw [HE.out], ?_, ?_⟩, ?_⟩
              · rw [HE.out]
                exact ((HOT.out.below HQ.out).kp (kp_st3 (b := b6)) (fun q hq he => by have := HNT.out q hq; have := HFB.out; omega)).kp (kp_st3 (b := b7)) (fun q hq he => by have := HNT.out q hq; have := HFB.out; omega)
              · rw [HE.out]
                exact ((HOD.out.below HQ.out).kp (kp_st3 (b := b6)) (fun q hq he => by have := HND.out q hq; have := HFB.out; omega)).kp (kp_st3 (b := b7)) (fun q hq he => by have := HND.out q hq; have := HFB.out; omega)
              · (repeat (first | with_reducible refine Below.drew ?_ | (with_reducible refine Below.setCell ?_ ?_ _; rotate_left; (first | exact HB67.out.1 | exact HB67.out.2))))
                exact HLOW.out _ (below_down HB3.out HQ.out)
end Go.Proofs.YtoapihepdallbaaDoor
