/- The program's analysis: the whole of it. -/
import Derived.Test.YtoapihepdallbaaDoorFinM
import Derived.Test.YtoapihepdallbaaDoorSeeG
namespace Go.Proofs.YtoapihepdallbaaDoor
open Go.RowKit

abbrev fd0 : Array Value := #[.slice none 0 0, .slice none 0 0, .int .i64 0]
/-- What the analysis answers. -/
def AnaOut (f : Nat → Addr) (base : Nat) (x : Option Int × An) (e : Ending) (w' : World) : Prop :=
  (∃ p b, x.1 = some p ∧ e = .returned (.tuple #[.agg fd0, errAt b]) ∧ base ≤ b ∧ w'.heap[b]? = some (.cells #[.int .i64 p, errV (f 7)] 121 (0, 0)))
  ∨ (∃ vt vd, x.1 = none ∧ e = .returned (.tuple #[.agg #[vt, vd, .int .i64 x.2.m], .nilIface]) ∧ Own enc4 4 56 base w' vt x.2.t ∧ Own enc2 2 58 base w' vd x.2.d)
theorem kp_st3 {w : World} {b : Nat} {u0 u1 u2 : Value} : Kp (fun q => q = b) w (((w.setCell ⟨b, 0, none⟩ u0).setCell ⟨b, 1, none⟩ u1).setCell ⟨b, 2, none⟩ u2) :=
  ((Kp.setCell w ⟨b, 0, none⟩ u0).trans (Kp.setCell _ ⟨b, 1, none⟩ u1) (fun _ h => .inl h)).trans (Kp.setCell _ ⟨b, 2, none⟩ u2) (fun _ h => .inl h)
theorem below_st3 {w0 w : World} {b : Nat} {u0 u1 u2 : Value} (h : Below w0.heap.size w0 w) (hb : w0.heap.size ≤ b) : Below w0.heap.size w0 (((w.setCell ⟨b, 0, none⟩ u0).setCell ⟨b, 1, none⟩ u1).setCell ⟨b, 2, none⟩ u2) :=
  ((h.setCell hb _).setCell hb _).setCell hb _
theorem cells_fd {w1 : World} {b : Nat} {t : TypeId} {x y z : Value} (h : w1.heap[b]? = some (.cells #[x, y, z] t (0, 0))) :
    w1.cell? ⟨b, 0, none⟩ = some x ∧ w1.cell? ⟨b, 1, none⟩ = some y ∧ w1.cell? ⟨b, 2, none⟩ = some z := by simp [World.cell?, h]
theorem drop_fst (L : List RecD) (i : Nat) : i + (L.drop i).length = max i L.length := by simp; omega
theorem anaP_page {L : List RecD} {bs pages ckpt p : Int} (h : badPage pages (bs + 1) L = some p) : anaP L bs pages ckpt = (some p, An.zero false) := by unfold anaP; rw [h]
theorem anaP_zero {L : List RecD} {bs pages : Int} (h : badPage pages (bs + 1) L = none) : anaP L bs pages 0 = anaRes (bs + L.length) (runA bs (bs + 1) L (An.zero false)) := by unfold anaP; rw [h]; simp
theorem anaP_none {L : List RecD} {bs pages ckpt : Int} (h : badPage pages (bs + 1) L = none) (h0 : ckpt ≠ 0) (hr : recAt L bs ckpt = none) : anaP L bs pages ckpt = (some ckpt, An.zero false) := by unfold anaP; simp [h, h0, hr]
theorem anaP_not {L : List RecD} {bs pages ckpt : Int} {r : RecD} (h : badPage pages (bs + 1) L = none) (h0 : ckpt ≠ 0) (hr : recAt L bs ckpt = some r) (h7 : ¬ r.kind = 7) : anaP L bs pages ckpt = (some ckpt, An.zero false) := by unfold anaP; simp [h, h0, hr, h7]
theorem recAt_some {L : List RecD} {bs x : Int} {r : RecD} (h : recAt L bs x = some r) : ∃ j : Nat, x = bs + 1 + j ∧ j < L.length ∧ L[j]? = some r := by
  unfold recAt at h
  split at h
  · rename_i hc
    exact ⟨(x - bs - 1).toNat, by omega, by omega, h⟩
  · simp at h
theorem anaP_ck {L : List RecD} {bs pages ckpt : Int} {r : RecD} {j : Nat} (h : badPage pages (bs + 1) L = none) (h0 : ckpt ≠ 0) (hr : recAt L bs ckpt = some r) (h7 : r.kind = 7) (hj : ckpt = bs + 1 + j) : anaP L bs pages ckpt = anaRes (bs + L.length) (runA bs (bs + 1 + ((j + 1 : Nat) : Int)) (L.drop (j + 1)) (An.zero true)) := by
  have e1 : (ckpt - bs).toNat = j + 1 := by omega
  have e2 : ckpt + 1 = bs + 1 + ((j + 1 : Nat) : Int) := by omega
  unfold anaP
  simp only [h, hr]
  rw [if_neg h0, if_pos h7, e1, e2]
theorem anaRes_bad {last p : Int} {x : Option Int × An} (h : x.1 = some p) : anaRes last x = (some p, An.zero false) := by unfold anaRes; rw [h]
theorem anaRes_in {last : Int} {s : An} (h : s.ins = true) : anaRes last (none, s) = (some (last + 1), An.zero false) := by unfold anaRes; simp [h]
theorem anaRes_ok {last : Int} {s : An} (h : s.ins = false) : anaRes last (none, s) = (none, s) := by unfold anaRes; simp [h]
theorem FinP.new {B lb : Nat} (w : World) (h : B ≤ w.heap.size) (i : Bool) : FinP B (w.alloc (.cells #[.pointer (some ⟨lb, 0, none⟩), .slice none 0 0, .int .i64 0, .slice none 0 0, .bool i] 83)) w.heap.size lb none none (An.zero i) :=
  ⟨⟨.slice none 0 0, .slice none 0 0, rfl, rfl, heap_alloc_new w _, Own.nil, Own.nil⟩, fun h => by simp at h, fun h => by simp at h, fun _ h => by simp at h, List.Pairwise.nil, List.Pairwise.nil, h, fun _ h => by simp at h, fun _ h => by simp at h⟩

variable {f : Nat → Addr} {lb : Nat} {row : Option Nat} {L : List RecD} {bs : Int}
set_option maxRecDepth 4000 in
set_option maxHeartbeats 4000000 in
theorem anaLog_any (w : World) (pages ckpt : Int) (h : LogP w lb row L bs) (hS : Sents w f) (hlen : L.length ≤ 1000) (h0 : 0 ≤ bs) (h1 : bs ≤ 1000) :
    Calls Tryd.prog 10 #[.pointer (some ⟨lb, 0, none⟩), .int .i64 pages, .int .i64 ckpt] w fun e w' => AnaOut f w.heap.size (anaP L bs pages ckpt) e w' ∧ Below w.heap.size w w' := by
  obtain ⟨res, hres⟩ : ∃ res, anaP L bs pages ckpt = res := ⟨_, rfl⟩
  rw [hres]
  have HRES := Sc.mk hres
  have HB1 : Sc (Below w.heap.size w (w.alloc (.cells fd0 37))) := ⟨dn_alloc (Below.refl _ _) _⟩
  have HL1 := Sc.mk (h.bel HB1.out)
  have HS1 := Sc.mk (hS.bel HB1.out)
  have HLL := Sc.mk (And.intro h.lt h.rowlt)
  have HZ1 := Sc.mk (heap_alloc_new w (.cells fd0 37))
  obtain ⟨w1, hw1⟩ : ∃ w1, w.alloc (.cells fd0 37) = w1 := ⟨_, rfl⟩
  rw [hw1] at HB1 HL1 HS1 HZ1
  obtain ⟨b6, hb6⟩ : ∃ b, w.heap.size = b := ⟨_, rfl⟩
  have H6 : Sc (w.heap.size ≤ b6) := ⟨by omega⟩
  rw [hb6] at HZ1
  have hl6 := heap_lt HZ1.out
  have HLB : Sc (lb < w1.heap.size ∧ ∀ q, row = some q → q < w1.heap.size) := ⟨Nat.lt_of_lt_of_le HLL.out.1 HB1.out.size, fun q hq => Nat.lt_of_lt_of_le (HLL.out.2 q hq) HB1.out.size⟩
  have hlen' : L.length ≤ 1000000 := by omega
  have h1' : bs ≤ 1000000 := by omega
  have hwb : IntKind.i64.wrap (bs + 1) = bs + 1 := IntWalk.i64_in _ ⟨by omega, by omega⟩
  clear hres h hS HLL
  go_enter Tryd.func10, Tryd.ntmps10
  go_wp2_with fail
  clear hw1 hb6
  refine (walBase_any w1 lb row L bs HL1.out).mono ?_
  rintro e w2 ⟨rfl, rfl⟩
  go_wp2_with fail
  go_loopg [7, 8] L.length (fun kx s7 s8 wr => ∃ i : Nat, s7 = .nilIface ∧ s8 = .int .i64 (bs + 1 + i) ∧ i ≤ L.length ∧ L.length - i ≤ kx ∧ Sc (Below w2.heap.size w2 wr) ∧ Sc (badPage pages (bs + 1) L = badPage pages (bs + 1 + i) (L.drop i)))
  case atStart => exact ⟨0, rfl, by go_num, Nat.zero_le _, by omega, ⟨Below.refl _ _⟩, ⟨by simp⟩⟩
  case round =>
    obtain ⟨i, rfl, rfl, hi, hk, HB, HBP⟩ := hrel
    have hw1 : IntKind.i64.wrap (bs + 1 + i + 1) = bs + 1 + ((i + 1 : Nat) : Int) := by rw [IntWalk.i64_in _ ⟨by omega, by omega⟩]; omega
    go_wp2_with fail
    refine (walLast_any _ lb row L bs (HL1.out.bel HB.out) hlen' h0 h1').mono ?_
    rintro e w3 ⟨rfl, hb⟩
    have HB3 := Sc.mk (below_down HB.out hb)
    clear hb HB
    by_cases hlt : i < L.length
    · obtain ⟨r, hr⟩ : ∃ r, L[i]? = some r := ⟨_, List.getElem?_eq_getElem hlt⟩
      have HR : Sc (recAt L bs (bs + 1 + i) = some r) := ⟨by rw [recAt_in rfl hlt, hr]⟩
      have HRI := Sc.mk hr
      have hle : decide (bs + 1 + (i : Int) ≤ bs + L.length) = true := decide_eq_true (by omega)
      clear hr
      go_wp2_with fail
      refine (walRec_any _ lb row L bs (bs + 1 + i) (HL1.out.bel HB3.out) hlen' h0 h1').mono ?_
      rw [HR.out]
      rintro e w4 ⟨rfl, hb⟩
      have HB4 := Sc.mk (below_down HB3.out hb)
      clear hb HB3
      simp only [Option.getD_some]
      obtain ⟨c0, c1, c2, c3, c4, c5, c6, c7, c8, c9⟩ := cells_recs (heap_alloc_new w4 (.cells (cellsR r) 51))
      have HB5 : Sc (Below w2.heap.size w2 (w4.alloc (.cells (cellsR r) 51))) := ⟨dn_alloc HB4.out _⟩
      by_cases hc : (r.kind = 2 ∨ r.kind = 3 ∨ r.kind = 9) ∧ pages < r.page
      · have HE : Sc (res = (some (bs + 1 + (i : Int)), An.zero false)) := ⟨by rw [← HRES.out]; exact anaP_page (by rw [HBP.out, badPage_stop HRI.out hc])⟩
        have hp : decide (pages < r.page) = true := decide_eq_true hc.2
        rcases hc.1 with hk2 | hk2 | hk2
        · have e2 : (r.kind == 2) = true := by simp [hk2]
          clear hc hk2
          go_wp2_with fail
          refine (bad_any f _ _ (HS1.out.bel HB5.out)).mono ?_
          rintro e w5 ⟨b, rfl, hb, hbc, hbb⟩
          have HB6 := Sc.mk (below_down HB5.out hbb)
          have HBC := Sc.mk hbc
          have hz := up HB6.out HZ1.out
          obtain ⟨q0, q1, q2⟩ := cells_fd hz
          have z0 := unfrozen_at hz 0
          have z1 := unfrozen_at hz 1
          have z2 := unfrozen_at hz 2
          have lz := heap_lt hz
          have hne : b ≠ b6 := by have := HB5.out.size; omega
          clear hbc hbb hz c0 c1 c2 c3 c4 c5 c6 c7 c8 c9
          go_wp2
          refine bodyPost_ret (v := .tuple #[.agg fd0, errAt b]) (by simp [results, Tryd.results10, go_sem, q0, q1, q2]) rfl ⟨.inl ⟨_, b, by rw [HE.out], rfl, by have := HB5.out.size; have := HB1.out.size; omega, kp_st3.at HBC.out hne⟩, ?_⟩
          exact below_st3 (below_down HB1.out HB6.out) H6.out
        · have e2 : (r.kind == 2) = false := beq_no (by omega)
          have e3 : (r.kind == 3) = true := by simp [hk2]
          clear hc hk2
          go_wp2_with fail
          refine (bad_any f _ _ (HS1.out.bel HB5.out)).mono ?_
          rintro e w5 ⟨b, rfl, hb, hbc, hbb⟩
          have HB6 := Sc.mk (below_down HB5.out hbb)
          have HBC := Sc.mk hbc
          have hz := up HB6.out HZ1.out
          obtain ⟨q0, q1, q2⟩ := cells_fd hz
          have z0 := unfrozen_at hz 0
          have z1 := unfrozen_at hz 1
          have z2 := unfrozen_at hz 2
          have lz := heap_lt hz
          have hne : b ≠ b6 := by have := HB5.out.size; omega
          clear hbc hbb hz c0 c1 c2 c3 c4 c5 c6 c7 c8 c9
          go_wp2
          refine bodyPost_ret (v := .tuple #[.agg fd0, errAt b]) (by simp [results, Tryd.results10, go_sem, q0, q1, q2]) rfl ⟨.inl ⟨_, b, by rw [HE.out], rfl, by have := HB5.out.size; have := HB1.out.size; omega, kp_st3.at HBC.out hne⟩, ?_⟩
          exact below_st3 (below_down HB1.out HB6.out) H6.out
        · have e2 : (r.kind == 2) = false := beq_no (by omega)
          have e3 : (r.kind == 3) = false := beq_no (by omega)
          have e9 : (r.kind == 9) = true := by simp [hk2]
          clear hc hk2
          go_wp2_with fail
          refine (bad_any f _ _ (HS1.out.bel HB5.out)).mono ?_
          rintro e w5 ⟨b, rfl, hb, hbc, hbb⟩
          have HB6 := Sc.mk (below_down HB5.out hbb)
          have HBC := Sc.mk hbc
          have hz := up HB6.out HZ1.out
          obtain ⟨q0, q1, q2⟩ := cells_fd hz
          have z0 := unfrozen_at hz 0
          have z1 := unfrozen_at hz 1
          have z2 := unfrozen_at hz 2
          have lz := heap_lt hz
          have hne : b ≠ b6 := by have := HB5.out.size; omega
          clear hbc hbb hz c0 c1 c2 c3 c4 c5 c6 c7 c8 c9
          go_wp2
          refine bodyPost_ret (v := .tuple #[.agg fd0, errAt b]) (by simp [results, Tryd.results10, go_sem, q0, q1, q2]) rfl ⟨.inl ⟨_, b, by rw [HE.out], rfl, by have := HB5.out.size; have := HB1.out.size; omega, kp_st3.at HBC.out hne⟩, ?_⟩
          exact below_st3 (below_down HB1.out HB6.out) H6.out
      · have HBP2 : Sc (badPage pages (bs + 1) L = badPage pages (bs + 1 + ((i + 1 : Nat) : Int)) (L.drop (i + 1))) := ⟨by rw [HBP.out, badPage_next HRI.out hc]; congr 1; omega⟩
        by_cases hk2 : r.kind = 2
        · have e2 : (r.kind == 2) = true := by simp [hk2]
          have hp : decide (pages < r.page) = false := decide_eq_false (fun h => hc ⟨.inl hk2, h⟩)
          clear hc hk2
          go_wp2
          go_roundg (L.length - (i + 1))
          case measure => omega
          case rel => exact ⟨i + 1, rfl, by rw [show bs + 1 + ((i + 1 : Nat) : Int) = bs + 1 + ((i : Int) + 1) from by omega], by omega, Nat.le_refl _, HB5, HBP2⟩
        by_cases hk3 : r.kind = 3
        · have e2 : (r.kind == 2) = false := beq_no hk2
          have e3 : (r.kind == 3) = true := by simp [hk3]
          have hp : decide (pages < r.page) = false := decide_eq_false (fun h => hc ⟨.inr (.inl hk3), h⟩)
          clear hc hk2 hk3
          go_wp2
          go_roundg (L.length - (i + 1))
          case measure => omega
          case rel => exact ⟨i + 1, rfl, by rw [show bs + 1 + ((i + 1 : Nat) : Int) = bs + 1 + ((i : Int) + 1) from by omega], by omega, Nat.le_refl _, HB5, HBP2⟩
        by_cases hk9 : r.kind = 9
        · have e2 : (r.kind == 2) = false := beq_no hk2
          have e3 : (r.kind == 3) = false := beq_no hk3
          have e9 : (r.kind == 9) = true := by simp [hk9]
          have hp : decide (pages < r.page) = false := decide_eq_false (fun h => hc ⟨.inr (.inr hk9), h⟩)
          clear hc hk2 hk3 hk9
          go_wp2
          go_roundg (L.length - (i + 1))
          case measure => omega
          case rel => exact ⟨i + 1, rfl, by rw [show bs + 1 + ((i + 1 : Nat) : Int) = bs + 1 + ((i : Int) + 1) from by omega], by omega, Nat.le_refl _, HB5, HBP2⟩
        have e2 : (r.kind == 2) = false := beq_no hk2
        have e3 : (r.kind == 3) = false := beq_no hk3
        have e9 : (r.kind == 9) = false := beq_no hk9
        clear hc hk2 hk3 hk9
        go_wp2
        go_roundg (L.length - (i + 1))
        case measure => omega
        case rel => exact ⟨i + 1, rfl, by rw [show bs + 1 + ((i + 1 : Nat) : Int) = bs + 1 + ((i : Int) + 1) from by omega], by omega, Nat.le_refl _, HB5, HBP2⟩
    · have hle : decide (bs + 1 + (i : Int) ≤ bs + L.length) = false := decide_eq_false (by omega)
      have HI : Sc (i = L.length) := ⟨by omega⟩
      have HBN : Sc (badPage pages (bs + 1) L = none) := ⟨by rw [HBP.out, HI.out, badPage_end]⟩
      have HF0 := Sc.mk (FinP.new (B := w2.heap.size) (lb := lb) w3 HB3.out.size false)
      have HB4 : Sc (Below w2.heap.size w2 (w3.alloc (.cells #[.pointer (some ⟨lb, 0, none⟩), .slice none 0 0, .int .i64 0, .slice none 0 0, .bool false] 83))) := ⟨dn_alloc HB3.out _⟩
      clear hw1 hi hk hlt HBP
      go_wp2_with fail
      refine (walBase_any _ lb row L bs (HL1.out.bel HB4.out)).mono ?_
      obtain ⟨wf, hwf⟩ : ∃ wf, w3.alloc (.cells #[.pointer (some ⟨lb, 0, none⟩), .slice none 0 0, .int .i64 0, .slice none 0 0, .bool false] 83) = wf := ⟨_, rfl⟩
      obtain ⟨fb, hfb⟩ : ∃ fb, w3.heap.size = fb := ⟨_, rfl⟩
      rw [hwf] at HF0 HB4 ⊢
      rw [hfb] at HF0 ⊢
      rintro e w4 ⟨rfl, rfl⟩
      clear hwf hfb HB3 hle
      go_upto_if 62 with fail
      go_cut [7, 12] from 62 to 83 (fun s7 s12 wx => ∃ (i0 : Nat) (ins : Bool), s7 = .nilIface ∧ s12 = .int .i64 (bs + 1 + i0) ∧ i0 ≤ L.length ∧ Sc (FinP w2.heap.size wx fb lb none none (An.zero ins)) ∧ Sc (Below w2.heap.size w2 wx) ∧ Sc (anaP L bs pages ckpt = anaRes (bs + L.length) (runA bs (bs + 1 + i0) (L.drop i0) (An.zero ins))))
      case first =>
        by_cases hck : ckpt = 0
        · have e0 : (ckpt == 0) = true := by simp [hck]
          have HA : Sc (anaP L bs pages ckpt = anaRes (bs + L.length) (runA bs (bs + 1 + ((0 : Nat) : Int)) (L.drop 0) (An.zero false))) := ⟨by rw [hck, anaP_zero HBN.out]; simp⟩
          clear hck
          go_wp2_with fail
          go_meet
          case rel => exact ⟨0, false, rfl, by go_num, Nat.zero_le _, HF0, HB4, HA⟩
        · have e0 : (ckpt == 0) = false := beq_no hck
          have HCK : Sc (ckpt ≠ 0) := ⟨hck⟩
          clear hck
          go_wp2_with fail
          refine (walRec_any _ lb row L bs ckpt (HL1.out.bel HB4.out) hlen' h0 h1').mono ?_
          cases hrec : recAt L bs ckpt with
          | none =>
            have HE : Sc (res = (some ckpt, An.zero false)) := ⟨by rw [← HRES.out]; exact anaP_none HBN.out HCK.out hrec⟩
            simp only [Option.getD_none, Option.isSome_none]
            rintro e w5 ⟨rfl, hb⟩
            have HB5 : Sc (Below w2.heap.size w2 (w5.alloc (.cells (cellsR zeroR) 51))) := ⟨dn_alloc (below_down HB4.out hb) _⟩
            clear hb hrec
            go_wp2_with fail
            refine (bad_any f _ _ (HS1.out.bel HB5.out)).mono ?_
            rintro e w6 ⟨b, rfl, hb, hbc, hbb⟩
            have HB6 := Sc.mk (below_down HB5.out hbb)
            have HBC := Sc.mk hbc
            have hz := up HB6.out HZ1.out
            obtain ⟨q0, q1, q2⟩ := cells_fd hz
            have z0 := unfrozen_at hz 0
            have z1 := unfrozen_at hz 1
            have z2 := unfrozen_at hz 2
            have lz := heap_lt hz
            have hne : b ≠ b6 := by have := HB5.out.size; omega
            clear hbc hbb hz
            go_wp2
            refine bodyPost_ret (v := .tuple #[.agg fd0, errAt b]) (by simp [results, Tryd.results10, go_sem, q0, q1, q2]) rfl ⟨.inl ⟨_, b, by rw [HE.out], rfl, by have := HB5.out.size; have := HB1.out.size; omega, kp_st3.at HBC.out hne⟩, ?_⟩
            exact below_st3 (below_down HB1.out HB6.out) H6.out
          | some r =>
            simp only [Option.getD_some, Option.isSome_some]
            rintro e w5 ⟨rfl, hb⟩
            have HB5 : Sc (Below w2.heap.size w2 (w5.alloc (.cells (cellsR r) 51))) := ⟨dn_alloc (below_down HB4.out hb) _⟩
            have HF5 : Sc (FinP w2.heap.size (w5.alloc (.cells (cellsR r) 51)) fb lb none none (An.zero false)) := ⟨HF0.out.bel (dn_alloc hb _)⟩
            obtain ⟨c0, c1, c2, c3, c4, c5, c6, c7, c8, c9⟩ := cells_recs (heap_alloc_new w5 (.cells (cellsR r) 51))
            have HREC := Sc.mk hrec
            have y45 := (HF0.out.bel hb).unfrozen 4
            have lf5 := (HF0.out.bel hb).lt
            have ne5 : ¬ w5.heap.size = fb := by omega
            have f45 := (HF0.out.bel hb).cells.2
            have HBD : Sc (Below w2.heap.size w2 ((w5.setCell ⟨fb, 4, none⟩ (.bool true)).alloc (.cells (cellsR r) 51))) := ⟨dn_alloc ((below_down HB4.out hb).setCell HF0.out.newF _) _⟩
            have HFD : Sc (FinP w2.heap.size ((w5.setCell ⟨fb, 4, none⟩ (.bool true)).alloc (.cells (cellsR r) 51)) fb lb none none (An.zero true)) := ⟨((HF0.out.bel hb).setIns true).bel (dn_alloc (Below.refl _ _) _)⟩
            clear hb hrec
            by_cases h7 : r.kind = 7
            · have e7 : (r.kind == 7) = true := by simp [h7]
              obtain ⟨j, hj, hjl, _⟩ := recAt_some HREC.out
              have HA : Sc (anaP L bs pages ckpt = anaRes (bs + L.length) (runA bs (bs + 1 + ((j + 1 : Nat) : Int)) (L.drop (j + 1)) (An.zero true))) := ⟨anaP_ck HBN.out HCK.out HREC.out h7 hj⟩
              have hwk : IntKind.i64.wrap (ckpt + 1) = bs + 1 + ((j + 1 : Nat) : Int) := by rw [IntWalk.i64_in _ ⟨by omega, by omega⟩]; omega
              clear h7 hj
              go_wp2_with fail
              go_meet
              case rel => exact ⟨j + 1, true, rfl, rfl, by omega, HFD, HBD, HA⟩
            · have e7 : (r.kind == 7) = false := beq_no h7
              have HE : Sc (res = (some ckpt, An.zero false)) := ⟨by rw [← HRES.out]; exact anaP_not HBN.out HCK.out HREC.out h7⟩
              clear h7
              go_wp2_with fail
              refine (bad_any f _ _ (HS1.out.bel HB5.out)).mono ?_
              rintro e w6 ⟨b, rfl, hb, hbc, hbb⟩
              have HB6 := Sc.mk (below_down HB5.out hbb)
              have HBC := Sc.mk hbc
              have hz := up HB6.out HZ1.out
              obtain ⟨q0, q1, q2⟩ := cells_fd hz
              have z0 := unfrozen_at hz 0
              have z1 := unfrozen_at hz 1
              have z2 := unfrozen_at hz 2
              have lz := heap_lt hz
              have hne : b ≠ b6 := by have := HB5.out.size; omega
              clear hbc hbb hz
              go_wp2
              refine bodyPost_ret (v := .tuple #[.agg fd0, errAt b]) (by simp [results, Tryd.results10, go_sem, q0, q1, q2]) rfl ⟨.inl ⟨_, b, by rw [HE.out], rfl, by have := HB5.out.size; have := HB1.out.size; omega, kp_st3.at HBC.out hne⟩, ?_⟩
              exact below_st3 (below_down HB1.out HB6.out) H6.out
      case rest =>
        obtain ⟨i0, ins, rfl, rfl, hi0, HFX, HBX, HAX⟩ := hcut
        clear HF0 HB4
        go_wp2_with fail
        go_loopg [7, 15] L.length (fun kx s7 s15 wr => ∃ (k : Nat) (s : An) (rt rd : Option Nat), s7 = .nilIface ∧ s15 = .int .i64 (bs + 1 + k) ∧ k ≤ L.length ∧ L.length - k ≤ kx ∧ s.t.length ≤ k ∧ s.d.length ≤ k ∧ Sc (FinP w2.heap.size wr fb lb rt rd s) ∧ Sc (Below w2.heap.size w2 wr) ∧ Sc (anaP L bs pages ckpt = anaRes (bs + L.length) (runA bs (bs + 1 + k) (L.drop k) s)))
        case atStart => exact ⟨i0, An.zero ins, none, none, rfl, rfl, hi0, by omega, Nat.zero_le _, Nat.zero_le _, HFX, HBX, HAX⟩
        case round =>
          obtain ⟨k, s, rt, rd, rfl, rfl, hk, hkx, hst, hsd, HF, HB, HA⟩ := hrel
          have hw1 : IntKind.i64.wrap (bs + 1 + k + 1) = bs + 1 + (k : Int) + 1 := IntWalk.i64_in _ ⟨by omega, by omega⟩
          clear HFX HBX HAX
          go_wp2_with fail
          refine (walLast_any _ lb row L bs (HL1.out.bel HB.out) hlen' h0 h1').mono ?_
          rintro e w3 ⟨rfl, hb⟩
          have HB3 := Sc.mk (below_down HB.out hb)
          have HF3 := Sc.mk (HF.out.bel hb)
          clear hb HB HF
          by_cases hlt : k < L.length
          · obtain ⟨r, hr⟩ : ∃ r, L[k]? = some r := ⟨_, List.getElem?_eq_getElem hlt⟩
            have HR : Sc (recAt L bs (bs + 1 + k) = some r) := ⟨by rw [recAt_in rfl hlt, hr]⟩
            have HRI := Sc.mk hr
            have hle : decide (bs + 1 + (k : Int) ≤ bs + L.length) = true := decide_eq_true (by omega)
            clear hr
            go_wp2_with fail
            refine (walRec_any _ lb row L bs (bs + 1 + k) (HL1.out.bel HB3.out) hlen' h0 h1').mono ?_
            rw [HR.out]
            rintro e w4 ⟨rfl, hb⟩
            have HB4 : Sc (Below w2.heap.size w2 (w4.alloc (.cells (cellsR r) 51))) := ⟨dn_alloc (below_down HB3.out hb) _⟩
            have HF4 : Sc (FinP w2.heap.size (w4.alloc (.cells (cellsR r) 51)) fb lb rt rd s) := ⟨HF3.out.bel (dn_alloc hb _)⟩
            clear hb HB3 HF3
            simp only [Option.getD_some]
            obtain ⟨c0, c1, c2, c3, c4, c5, c6, c7, c8, c9⟩ := cells_recs (heap_alloc_new w4 (.cells (cellsR r) 51))
            go_wp2_with fail
            refine (finOne _ (bs + 1 + k) r HF4.out (HL1.out.bel HB4.out) HLB.out (by omega) (by omega)).mono ?_
            rintro e w5 ⟨rfl, hl⟩
            have HB5 : Sc (Below w2.heap.size w2 w5) := ⟨HB4.out.trans (hl.below HF4.out)⟩
            have HLN := Sc.mk (stepO_len (bs := bs) (bs + 1 + k) r s)
            have HRN : (stepO bs (bs + 1 + k) r s).1 = true → Sc (anaP L bs pages ckpt = anaRes (bs + L.length) (runA bs (bs + 1 + (k : Int) + 1) (L.drop (k + 1)) (stepO bs (bs + 1 + k) r s).2)) := fun h => ⟨by rw [HA.out, runA_next HRI.out h]⟩
            have HRS : (stepO bs (bs + 1 + k) r s).1 = false → Sc (res = (some (bs + 1 + (k : Int)), An.zero false)) := fun h => ⟨by rw [← HRES.out, HA.out]; exact anaRes_bad (runA_stop HRI.out h)⟩
            obtain ⟨rt5, rd5, hf5, _, _, _⟩ := hl
            have HF5 := Sc.mk hf5
            clear hf5
            obtain ⟨ok, hok⟩ : ∃ ok, (stepO bs (bs + 1 + k) r s).1 = ok := ⟨_, rfl⟩
            obtain ⟨s', hs'⟩ : ∃ s', (stepO bs (bs + 1 + k) r s).2 = s' := ⟨_, rfl⟩
            rw [hok] at HRN HRS ⊢
            rw [hs'] at HRN HF5 HLN
            clear hok hs' HF4 HB4 c0 c1 c2 c3 c4 c5 c6 c7 c8 c9
            cases ok with
            | true =>
              have HAN := HRN rfl
              clear HRN HRS
              obtain ⟨hl1, hl2⟩ := HLN.out
              go_wp2
              go_roundg (L.length - (k + 1))
              case measure => omega
              case rel => exact ⟨k + 1, s', rt5, rd5, rfl, by rw [show bs + 1 + ((k + 1 : Nat) : Int) = bs + 1 + (k : Int) + 1 from by omega], by omega, Nat.le_refl _, by omega, by omega, HF5, HB5, ⟨by rw [HAN.out, show bs + 1 + ((k + 1 : Nat) : Int) = bs + 1 + (k : Int) + 1 from by omega]⟩⟩
            | false =>
              have HE := HRS rfl
              clear HRN HRS
              go_wp2_with fail
              refine (bad_any f _ _ (HS1.out.bel HB5.out)).mono ?_
              rintro e w6 ⟨b, rfl, hb, hbc, hbb⟩
              have HB6 := Sc.mk (below_down HB5.out hbb)
              have HBC := Sc.mk hbc
              have hz := up HB6.out HZ1.out
              obtain ⟨q0, q1, q2⟩ := cells_fd hz
              have z0 := unfrozen_at hz 0
              have z1 := unfrozen_at hz 1
              have z2 := unfrozen_at hz 2
              have lz := heap_lt hz
              have hne : b ≠ b6 := by have := HB5.out.size; omega
              clear hbc hbb hz
              go_wp2
              refine bodyPost_ret (v := .tuple #[.agg fd0, errAt b]) (by simp [results, Tryd.results10, go_sem, q0, q1, q2]) rfl ⟨.inl ⟨_, b, by rw [HE.out], rfl, by have := HB5.out.size; have := HB1.out.size; omega, kp_st3.at HBC.out hne⟩, ?_⟩
              exact below_st3 (below_down HB1.out HB6.out) H6.out
          · have hle : decide (bs + 1 + (k : Int) ≤ bs + L.length) = false := decide_eq_false (by omega)
            have HAE : Sc (res = anaRes (bs + L.length) (none, s)) := ⟨by rw [← HRES.out, HA.out, show k = L.length from by omega, runA_end]⟩
            obtain ⟨f0, f4⟩ := HF3.out.cells
            have lf := HF3.out.lt
            clear hw1 HA
            cases hins : s.ins with
            | true =>
              rw [hins] at f4
              have HE : Sc (res = (some (bs + L.length + 1), An.zero false)) := ⟨by rw [HAE.out, anaRes_in hins]⟩
              have hwl : IntKind.i64.wrap (bs + L.length + 1) = bs + L.length + 1 := IntWalk.i64_in _ ⟨by omega, by omega⟩
              clear hins
              go_wp2_with fail
              refine (walLast_any _ lb row L bs (HL1.out.bel HB3.out) hlen' h0 h1').mono ?_
              rintro e w4 ⟨rfl, hb⟩
              have HB5 := Sc.mk (below_down HB3.out hb)
              clear hb HB3 HF3 f0 f4
              go_wp2_with fail
              refine (bad_any f _ _ (HS1.out.bel HB5.out)).mono ?_
              rintro e w6 ⟨b, rfl, hb, hbc, hbb⟩
              have HB6 := Sc.mk (below_down HB5.out hbb)
              have HBC := Sc.mk hbc
              have hz := up HB6.out HZ1.out
              obtain ⟨q0, q1, q2⟩ := cells_fd hz
              have z0 := unfrozen_at hz 0
              have z1 := unfrozen_at hz 1
              have z2 := unfrozen_at hz 2
              have lz := heap_lt hz
              have hne : b ≠ b6 := by have := HB5.out.size; omega
              clear hbc hbb hz
              go_wp2
              refine bodyPost_ret (v := .tuple #[.agg fd0, errAt b]) (by simp [results, Tryd.results10, go_sem, q0, q1, q2]) rfl ⟨.inl ⟨_, b, by rw [HE.out], rfl, by have := HB5.out.size; have := HB1.out.size; omega, kp_st3.at HBC.out hne⟩, ?_⟩
              exact below_st3 (below_down HB1.out HB6.out) H6.out
            | false =>
              rw [hins] at f4
              have HE : Sc (res = (none, s)) := ⟨by rw [HAE.out, anaRes_ok hins]⟩
              clear hins
              go_wp2_with fail
              have HZ3 := Sc.mk ((HB3.out.block b6 hl6).trans HZ1.out)
              have HB6L : Sc (b6 < w3.heap.size) := ⟨heap_lt HZ3.out⟩
              have HBW := Sc.mk (below_down HB1.out HB3.out)
              have HQ : Sc (Below w3.heap.size w3 w3) := ⟨Below.refl _ _⟩
              have CT : ∀ X, Below w3.heap.size w3 X → Calls Tryd.prog 30 #[.pointer (some ⟨fb, 1, none⟩)] X fun e w' => ∃ vt, e = .returned vt ∧ Own enc4 4 56 w3.heap.size w' vt s.t ∧ Below w3.heap.size w3 w' ∧ Below X.heap.size X w' := fun X hX => (finAllT X (HF3.out.bel hX) (by omega)).mono fun e w' ⟨vt, he, ho, hb⟩ => ⟨vt, he, ho.mono hX.size, hX.trans (hb.mono hX.size), hb⟩
              have CD : ∀ X, Below w3.heap.size w3 X → Calls Tryd.prog 31 #[.pointer (some ⟨fb, 3, none⟩)] X fun e w' => ∃ vt, e = .returned vt ∧ Own enc2 2 58 w3.heap.size w' vt s.d ∧ Below w3.heap.size w3 w' ∧ Below X.heap.size X w' := fun X hX => (finAllD X (HF3.out.bel hX) (by omega)).mono fun e w' ⟨vt, he, ho, hb⟩ => ⟨vt, he, ho.mono hX.size, hX.trans (hb.mono hX.size), hb⟩
              have CM : ∀ X, Below w3.heap.size w3 X → Calls Tryd.prog 32 #[.pointer (some ⟨fb, 1, none⟩)] X fun e w' => e = .returned (.int .i64 s.m) ∧ X = w' := fun X hX => finMost X (HF3.out.bel hX)
              clear f0 f4 hle hst hsd hkx hk hlt hi0 hl6
              go_region_law (first | (go_simp; go_at_call 30; refine (CT _ (by first | exact HQ.out | exact HQ.out.drew)).mono ?_; rintro e wt ⟨vt, rfl, ho, hq, hb⟩; obtain ⟨At, nt, ct, rfl⟩ := ho.slice3; (first | (have HVD := Sc.mk (HVD.out.below hb)) | (have HVD := Sc.mk (HVD.out.drew.below hb)) | skip); have HQ := Sc.mk hq; have HVT := Sc.mk ho; have hz := (HQ.out.block b6 HB6L.out).trans HZ3.out; obtain ⟨q0, q1, q2⟩ := cells_fd hz; have z0 := unfrozen_at hz 0; have z1 := unfrozen_at hz 1; have z2 := unfrozen_at hz 2; have lz := heap_lt hz; clear hz; clear ho hq hb) | (go_simp; go_at_call 31; refine (CD _ (by first | exact HQ.out | exact HQ.out.drew)).mono ?_; rintro e wt ⟨vd, rfl, ho, hq, hb⟩; obtain ⟨Ad, nd, cd, rfl⟩ := ho.slice3; (first | (have HVT := Sc.mk (HVT.out.below hb)) | (have HVT := Sc.mk (HVT.out.drew.below hb)) | skip); have HQ := Sc.mk hq; have HVD := Sc.mk ho; have hz := (HQ.out.block b6 HB6L.out).trans HZ3.out; obtain ⟨q0, q1, q2⟩ := cells_fd hz; have z0 := unfrozen_at hz 0; have z1 := unfrozen_at hz 1; have z2 := unfrozen_at hz 2; have lz := heap_lt hz; clear hz; clear ho hq hb) | (go_simp; go_at_call 32; refine (CM _ (by first | exact HQ.out | exact HQ.out.drew)).mono ?_; rintro e wt ⟨rfl, rfl⟩))
              all_goals
                clear CT CD CM
                go_wp2
                refine bodyPost_ret (v := .tuple #[.agg #[.slice At nt ct, .slice Ad nd cd, .int .i64 s.m], .nilIface]) (by simp [results, Tryd.results10, go_sem, q0, q1, q2]) rfl ⟨.inr ⟨.slice At nt ct, .slice Ad nd cd, by rw [HE.out], by rw [HE.out], ?_, ?_⟩, ?_⟩
                · rw [HE.out]; exact ((HVT.out.kp (S := fun q => q = b6) kp_st3 (fun q hq he => by have := (HVT.out.lt q hq).1; have := HB6L.out; omega)).mono HBW.out.size)
                · rw [HE.out]; exact ((HVD.out.kp (S := fun q => q = b6) kp_st3 (fun q hq he => by have := (HVD.out.lt q hq).1; have := HB6L.out; omega)).mono HBW.out.size)
                · first | exact below_st3 (below_down HBW.out HQ.out) H6.out | exact below_st3 (below_down HBW.out HQ.out).drew H6.out
end Go.Proofs.YtoapihepdallbaaDoor
