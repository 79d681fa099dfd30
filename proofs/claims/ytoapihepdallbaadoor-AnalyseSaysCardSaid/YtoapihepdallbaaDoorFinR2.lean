/- The document's analysis: a checkpoint. -/
import Derived.Test.YtoapihepdallbaaDoorFinRM
import Derived.Test.YtoapihepdallbaaDoorSeeAt
import Derived.Test.YtoapihepdallbaaDoorAna
namespace Go.Proofs.YtoapihepdallbaaDoor
open Go.RowKit

theorem LogR.low {B lb : Nat} {w w' : World} {row : Option Nat} {L : List RecD} {bs : Int} (h : LogR w lb row L bs) (hb : Below B w w') (h1 : lb < B) (h2 : ∀ q, row = some q → q < B) : LogR w' lb row L bs :=
  h.kp (S := fun q => B ≤ q) ⟨hb.os, hb.tape, hb.output, hb.size, fun k hk hn => hb.block k (by omega)⟩ (by omega) (fun q hq => by have := h2 q hq; omega)
/-- What the document's checkpoint comes to: the place of what can't be, or where it ends and what was found. -/
def CkOut (B fb lb : Nat) (L : List RecD) (bs pages ckpt : Int) (e : Ending) (w' : World) : Prop :=
  (∃ p, e = .returned (.tuple #[.int .i64 0, aggA 108 p]) ∧ anaP L bs pages ckpt = (some p, An.zero false)) ∨
  ∃ (i : Nat) (rt rd : Option Nat) (s : An), e = .returned (.tuple #[.int .i64 (bs + 1 + i), aggF 0]) ∧ i < L.length ∧ s.t.length ≤ i ∧ s.d.length ≤ i ∧ s.ins = false ∧ Seen s ∧ FinR B w' fb lb rt rd s ∧
    anaP L bs pages ckpt = anaRes (bs + L.length) (runA bs (bs + 1 + ((i + 1 : Nat) : Int)) (L.drop (i + 1)) s)
theorem stepO_in (bs lsn : Int) (r : RecD) {s : An} (h : s.ins = true) : stepO bs lsn r s = stepC bs lsn r s := by unfold stepO; rw [if_pos h]
theorem stepC_txn {bs lsn : Int} {r : RecD} {s : An} (h : r.kind = 8) : stepC bs lsn r s = (decide (r.prev < lsn) && decide (r.next < lsn), { s with t := setIn s.t (r.txn, r.key, r.prev, r.next), m := max s.m r.txn }) := by unfold stepC; rw [if_pos h]
theorem stepC_page {bs lsn : Int} {r : RecD} {s : An} (h : r.kind = 9) : stepC bs lsn r s = (decide (bs < r.prev) && decide (r.prev < lsn), { s with d := add s.d (r.page, r.prev) }) := by unfold stepC; rw [if_neg (by omega), if_pos h]
theorem stepC_end {bs lsn : Int} {r : RecD} {s : An} (h : r.kind = 10) : stepC bs lsn r s = (true, { s with m := max s.m r.next, ins := false }) := by unfold stepC; rw [if_neg (by omega), if_neg (by omega), if_pos h]
theorem stepC_no {bs lsn : Int} {r : RecD} {s : An} (h : r.kind ≠ 8 ∧ r.kind ≠ 9 ∧ r.kind ≠ 10) : stepC bs lsn r s = (false, s) := by unfold stepC; rw [if_neg h.1, if_neg h.2.1, if_neg h.2.2]
theorem recAt_end {L : List RecD} {bs : Int} : recAt L bs (bs + 1 + (L.length : Int)) = none := recAt_out (.inr (by omega))
/-- Two boxes of the call's own, no rows of the finder. -/
structure Two (B : Nat) (w : World) (fb b5 b6 : Nat) (rt rd : Option Nat) (r : RecD) : Prop where
  flt : w.heap[b5]? = some (.cells fz 44 (0, 0))
  rcd : w.heap[b6]? = some (.cells (cellsR r) 51 (0, 0))
  n5 : b5 ≠ fb ∧ rt ≠ some b5 ∧ rd ≠ some b5
  n6 : b6 ≠ fb ∧ rt ≠ some b6 ∧ rd ≠ some b6
  ne : b5 ≠ b6
  low : B ≤ b5 ∧ B ≤ b6
theorem Two.left {B fb lb b5 b6 : Nat} {w w' : World} {rt rd : Option Nat} {r : RecD} {s' : An} (h : Two B w fb b5 b6 rt rd r) (hl : LeftG B fb lb rt rd s' w w') : ∃ rt' rd', FinR B w' fb lb rt' rd' s' ∧ Two B w' fb b5 b6 rt' rd' r := by
  have h5 := hl.at_ h.flt h.n5
  have h6 := hl.at_ h.rcd h.n6
  obtain ⟨rt', rd', hf, _, ht, hd⟩ := hl
  have l5 := heap_lt h.flt
  have l6 := heap_lt h.rcd
  refine ⟨rt', rd', hf, h5, h6, ⟨h.n5.1, fun he => ?_, fun he => ?_⟩, ⟨h.n6.1, fun he => ?_, fun he => ?_⟩, h.ne, h.low⟩
  · rcases ht _ he with h' | h'
    · exact h.n5.2.1 h'
    · omega
  · rcases hd _ he with h' | h'
    · exact h.n5.2.2 h'
    · omega
  · rcases ht _ he with h' | h'
    · exact h.n6.2.1 h'
    · omega
  · rcases hd _ he with h' | h'
    · exact h.n6.2.2 h'
    · omega
theorem Two.bel {B fb b5 b6 : Nat} {w w' : World} {rt rd : Option Nat} {r : RecD} (h : Two B w fb b5 b6 rt rd r) (hb : Below w.heap.size w w') : Two B w' fb b5 b6 rt rd r := ⟨up hb h.flt, up hb h.rcd, h.n5, h.n6, h.ne, h.low⟩
theorem set_rec1 {w : World} {b : Nat} {t : TypeId} {r r' : RecD} (j : Nat) (u : Value) (h : w.heap[b]? = some (.cells (cellsR r) t (0, 0))) (he : (cellsR r).setIfInBounds j u = cellsR r') : (w.setCell ⟨b, j, none⟩ u).heap[b]? = some (.cells (cellsR r') t (0, 0)) := by rw [set_one h j u, he]
set_option maxHeartbeats 2000000 in
theorem set_recs {w : World} {b : Nat} {t : TypeId} {r x : RecD} (h : w.heap[b]? = some (.cells (cellsR r) t (0, 0))) :
    ((((((((((w.setCell ⟨b, 0, none⟩ (.int .i64 x.kind)).setCell ⟨b, 1, none⟩ (.int .i64 x.txn)).setCell ⟨b, 2, none⟩ (.int .i64 x.page)).setCell ⟨b, 3, none⟩ (.int .i64 x.prev)).setCell ⟨b, 4, none⟩ (.int .i64 x.next)).setCell ⟨b, 5, none⟩ (.int .i64 x.key)).setCell ⟨b, 6, none⟩ (.bool x.had)).setCell ⟨b, 7, none⟩ (.bool x.has)).setCell ⟨b, 8, none⟩ (.int .i64 x.old)).setCell ⟨b, 9, none⟩ (.int .i64 x.new)).heap[b]? = some (.cells (cellsR x) t (0, 0)) := by
  have h0 := set_rec1 (r' := { r with kind := x.kind }) 0 (.int .i64 x.kind) h rfl
  have h1 := set_rec1 (r' := { r with kind := x.kind, txn := x.txn }) 1 (.int .i64 x.txn) h0 rfl
  have h2 := set_rec1 (r' := { r with kind := x.kind, txn := x.txn, page := x.page }) 2 (.int .i64 x.page) h1 rfl
  have h3 := set_rec1 (r' := { r with kind := x.kind, txn := x.txn, page := x.page, prev := x.prev }) 3 (.int .i64 x.prev) h2 rfl
  have h4 := set_rec1 (r' := { r with kind := x.kind, txn := x.txn, page := x.page, prev := x.prev, next := x.next }) 4 (.int .i64 x.next) h3 rfl
  have h5 := set_rec1 (r' := { r with kind := x.kind, txn := x.txn, page := x.page, prev := x.prev, next := x.next, key := x.key }) 5 (.int .i64 x.key) h4 rfl
  have h6 := set_rec1 (r' := { r with kind := x.kind, txn := x.txn, page := x.page, prev := x.prev, next := x.next, key := x.key, had := x.had }) 6 (.bool x.had) h5 rfl
  have h7 := set_rec1 (r' := { r with kind := x.kind, txn := x.txn, page := x.page, prev := x.prev, next := x.next, key := x.key, had := x.had, has := x.has }) 7 (.bool x.has) h6 rfl
  have h8 := set_rec1 (r' := { r with kind := x.kind, txn := x.txn, page := x.page, prev := x.prev, next := x.next, key := x.key, had := x.had, has := x.has, old := x.old }) 8 (.int .i64 x.old) h7 rfl
  have h9 := set_rec1 (r' := x) 9 (.int .i64 x.new) h8 rfl
  exact h9
theorem kp_set10 {w : World} {b : Nat} {u0 u1 u2 u3 u4 u5 u6 u7 u8 u9 : Value} : Kp (fun q => q = b) w ((((((((((w.setCell ⟨b, 0, none⟩ u0).setCell ⟨b, 1, none⟩ u1).setCell ⟨b, 2, none⟩ u2).setCell ⟨b, 3, none⟩ u3).setCell ⟨b, 4, none⟩ u4).setCell ⟨b, 5, none⟩ u5).setCell ⟨b, 6, none⟩ u6).setCell ⟨b, 7, none⟩ u7).setCell ⟨b, 8, none⟩ u8).setCell ⟨b, 9, none⟩ u9) :=
  (((((((((Kp.setCell w ⟨b, 0, none⟩ u0).trans (Kp.setCell _ ⟨b, 1, none⟩ u1) (fun _ hq => .inl hq)).trans (Kp.setCell _ ⟨b, 2, none⟩ u2) (fun _ hq => .inl hq)).trans (Kp.setCell _ ⟨b, 3, none⟩ u3) (fun _ hq => .inl hq)).trans (Kp.setCell _ ⟨b, 4, none⟩ u4) (fun _ hq => .inl hq)).trans (Kp.setCell _ ⟨b, 5, none⟩ u5) (fun _ hq => .inl hq)).trans (Kp.setCell _ ⟨b, 6, none⟩ u6) (fun _ hq => .inl hq)).trans (Kp.setCell _ ⟨b, 7, none⟩ u7) (fun _ hq => .inl hq)).trans (Kp.setCell _ ⟨b, 8, none⟩ u8) (fun _ hq => .inl hq)).trans (Kp.setCell _ ⟨b, 9, none⟩ u9) (fun _ hq => .inl hq)
theorem low_st3 {B b : Nat} {w0 w : World} {u0 u1 u2 : Value} (h : Below B w0 w) (hb : B ≤ b) : Below B w0 (((w.setCell ⟨b, 0, none⟩ u0).setCell ⟨b, 1, none⟩ u1).setCell ⟨b, 2, none⟩ u2) := ((h.setCell hb _).setCell hb _).setCell hb _
theorem Two.turn {B fb b5 b6 : Nat} {w w' : World} {rt rd : Option Nat} {r x : RecD} (h : Two B w fb b5 b6 rt rd r) (hk : Kp (fun q => q = b6) w w') (hx : w'.heap[b6]? = some (.cells (cellsR x) 51 (0, 0))) : Two B w' fb b5 b6 rt rd x := ⟨hk.at h.flt h.ne, hx, h.n5, h.n6, h.ne, h.low⟩

variable {B fb lb : Nat} {row : Option Nat} {L : List RecD} {bs : Int}
set_option maxRecDepth 8000 in
set_option maxHeartbeats 8000000 in
theorem rfinCkpt (w : World) (pages ckpt : Int) (h : FinR B w fb lb none none (An.zero true)) (hl : LogR w lb row L bs) (hlb : lb < B ∧ ∀ q, row = some q → q < B) (hlen : L.length ≤ 1000) (h0 : 0 ≤ bs) (h1 : bs ≤ 1000) (hbn : badPage pages (bs + 1) L = none) (hck : ckpt ≠ 0) :
    Calls Tryd.prog 35 #[.pointer (some ⟨fb, 0, none⟩), .int .i64 ckpt] w fun e w' => CkOut B fb lb L bs pages ckpt e w' ∧ Below B w w' := by
  have hBw : B ≤ w.heap.size := Nat.le_trans h.newF (Nat.le_of_lt h.lt)
  have HBW := Sc.mk hBw
  have HB1 : Sc (Below w.heap.size w (w.alloc (.cells fz 44))) := ⟨dn_alloc (Below.refl _ _) _⟩
  have HF1 := Sc.mk (h.bel HB1.out)
  have HL0 := Sc.mk hl
  have HL1 := Sc.mk (hl.bel HB1.out)
  have HLB := Sc.mk hlb
  have HFR := Sc.mk h.fresh
  have HBN := Sc.mk hbn
  have HCK := Sc.mk hck
  have HZ1 := Sc.mk (heap_alloc_new w (.cells fz 44))
  obtain ⟨w1, hw1⟩ : ∃ w1, w.alloc (.cells fz 44) = w1 := ⟨_, rfl⟩
  rw [hw1] at HB1 HF1 HL1 HZ1
  obtain ⟨b5, hb5⟩ : ∃ b, w.heap.size = b := ⟨_, rfl⟩
  have H5 : Sc (w.heap.size ≤ b5) := ⟨by omega⟩
  rw [hb5] at HZ1 HFR
  have hlen' : L.length ≤ 1000000 := by omega
  have h1' : bs ≤ 1000000 := by omega
  have lz0 := heap_lt HZ1.out
  have lf0 := HF1.out.lt
  have f0 := HF1.out.cells
  have HLOW : Sc (∀ X, Below w1.heap.size w1 X → Below B w X) := ⟨fun X hX => (HB1.out.mono hBw).trans (hX.mono (Nat.le_trans hBw HB1.out.size))⟩
  clear h hl hlb hbn hck hBw
  go_enter Tryd.func35, Tryd.ntmps35
  go_wp2_with fail
  clear hw1 hb5
  refine (refRec_any w1 lb row L bs ckpt HL1.out hlen' h0 h1').mono ?_
  rintro e w2 ⟨rfl, hb⟩
  have HB2 : Sc (Below w1.heap.size w1 (w2.alloc (.cells (cellsR ((recAt L bs ckpt).getD zeroR)) 51))) := ⟨dn_alloc hb _⟩
  have HZ2 := Sc.mk (up HB2.out HZ1.out)
  have HX2 := Sc.mk (heap_alloc_new w2 (.cells (cellsR ((recAt L bs ckpt).getD zeroR)) 51))
  have H6 : Sc (w1.heap.size ≤ w2.heap.size) := ⟨hb.size⟩
  clear hb
  by_cases hgo : ∃ r, recAt L bs ckpt = some r ∧ r.kind = 7
  case neg =>
    have HE : Sc (anaP L bs pages ckpt = (some ckpt, An.zero false)) := ⟨by
      cases hrec : recAt L bs ckpt with
      | none => exact anaP_none HBN.out HCK.out hrec
      | some r => exact anaP_not HBN.out HCK.out hrec (fun h7 => hgo ⟨r, hrec, h7⟩)⟩
    obtain ⟨x, hx⟩ : ∃ x, (recAt L bs ckpt).getD zeroR = x := ⟨_, rfl⟩
    obtain ⟨q, hq⟩ : ∃ q, (recAt L bs ckpt).isSome = q := ⟨_, rfl⟩
    have hnk : q = false ∨ (x.kind == 7) = false := by
      cases hrec : recAt L bs ckpt with
      | none => exact .inl (by rw [← hq, hrec]; rfl)
      | some r => exact .inr (beq_no (fun h7 => hgo ⟨r, hrec, by rw [← h7, ← hx, hrec]; rfl⟩))
    rw [hx] at HB2 HZ2 HX2 ⊢
    rw [hq]
    have hz0 : x.kind = x.kind := rfl
    clear hgo hx hq f0
    obtain ⟨c0, c1, c2, c3, c4, c5, c6, c7, c8, c9⟩ := cells_recs HX2.out
    have lc := heap_lt HX2.out
    have HN : Sc (q = true → (x.kind == 7) = false) := ⟨fun h => hnk.elim (fun h' => by rw [h'] at h; cases h) id⟩
    clear hnk hz0
    cases q
    case false =>
      go_wp2_with fail
      refine (placed_any _ 108 ckpt (by omega)).mono ?_
      rintro e w3 ⟨rfl, hb3⟩
      have HB3 := Sc.mk (below_down HB2.out hb3)
      have hz := up HB3.out HZ1.out
      obtain ⟨q0, q1, q2, y0, y1, y2, lz⟩ := cells_fz hz
      clear hz hb3 c0 c1 c2 c3 c4 c5 c6 c7 c8 c9
      go_wp2
      refine bodyPost_ret (v := .tuple #[.int .i64 0, aggA 108 ckpt]) (by simp [results, Tryd.results35, go_sem, q0, q1, q2]) rfl ⟨.inl ⟨ckpt, rfl, HE.out⟩, ?_⟩
      exact low_st3 (HLOW.out _ HB3.out) (Nat.le_trans HBW.out H5.out)
    case true =>
      have e7 := HN.out rfl
      go_wp2_with fail
      refine (placed_any _ 108 ckpt (by omega)).mono ?_
      rintro e w3 ⟨rfl, hb3⟩
      have HB3 := Sc.mk (below_down HB2.out hb3)
      have hz := up HB3.out HZ1.out
      obtain ⟨q0, q1, q2, y0, y1, y2, lz⟩ := cells_fz hz
      clear hz hb3 c0 c1 c2 c3 c4 c5 c6 c7 c8 c9
      go_wp2
      refine bodyPost_ret (v := .tuple #[.int .i64 0, aggA 108 ckpt]) (by simp [results, Tryd.results35, go_sem, q0, q1, q2]) rfl ⟨.inl ⟨ckpt, rfl, HE.out⟩, ?_⟩
      exact low_st3 (HLOW.out _ HB3.out) (Nat.le_trans HBW.out H5.out)
  obtain ⟨r, hrec, h7⟩ := hgo
  have e7 : (r.kind == 7) = true := by simp [h7]
  have n7 : (r.kind != 7) = false := by simp [h7]
  obtain ⟨j, hj, hjl, _⟩ := recAt_some hrec
  have HA : Sc (anaP L bs pages ckpt = anaRes (bs + L.length) (runA bs (bs + 1 + ((j + 1 : Nat) : Int)) (L.drop (j + 1)) (An.zero true))) := ⟨anaP_ck HBN.out HCK.out hrec h7 hj⟩
  have hwk : IntKind.i64.wrap (ckpt + 1) = bs + 1 + ((j + 1 : Nat) : Int) := by rw [IntWalk.i64_in _ ⟨by omega, by omega⟩]; omega
  rw [hrec] at HB2 HZ2 HX2 ⊢
  simp only [Option.getD_some, Option.isSome_some] at HB2 HZ2 HX2 ⊢
  obtain ⟨c0, c1, c2, c3, c4, c5, c6, c7, c8, c9⟩ := cells_recs HX2.out
  have lc := heap_lt HX2.out
  have HF2 := Sc.mk (HF1.out.bel HB2.out)
  have HT2 : Sc (Two B (w2.alloc (.cells (cellsR r) 51)) fb b5 w2.heap.size none none r) := ⟨⟨HZ2.out, HX2.out, ⟨HFR.out.1, by simp, by simp⟩, ⟨by have := H6.out; omega, by simp, by simp⟩, by have := H6.out; omega, ⟨Nat.le_trans HBW.out H5.out, Nat.le_trans HBW.out (Nat.le_trans HB1.out.size H6.out)⟩⟩⟩
  have HBX := Sc.mk (HLOW.out _ HB2.out)
  clear hrec h7 hj HB2 HZ2 HX2 f0 lz0 lf0
  go_wp2_with fail
  obtain ⟨b6, hb6⟩ : ∃ b, w2.heap.size = b := ⟨_, rfl⟩
  rw [hb6] at HT2 ⊢
  clear c0 c1 c2 c3 c4 c5 c6 c7 c8 c9 lc e7 n7 hwk hb6
  go_loopg [4, 7, 8] (L.length + 1) (fun kx s4 s7 s8 wr => ∃ (i : Nat) (s : An) (rt rd : Option Nat) (x : RecD) (q : Bool), s4 = .int .i64 0 ∧ s7 = .bool q ∧ s8 = .int .i64 (bs + 1 + i) ∧ i ≤ L.length ∧ L.length + 1 - i ≤ kx ∧ s.t.length ≤ i ∧ s.d.length ≤ i ∧ s.ins = true ∧ Sc (Seen s) ∧ Sc (FinR B wr fb lb rt rd s) ∧ Sc (Two B wr fb b5 b6 rt rd x) ∧ Sc (Below B w wr) ∧ Sc (anaP L bs pages ckpt = anaRes (bs + L.length) (runA bs (bs + 1 + i) (L.drop i) s)))
  case atStart => exact ⟨j + 1, An.zero true, none, none, r, true, rfl, rfl, rfl, by omega, by omega, Nat.zero_le _, Nat.zero_le _, rfl, ⟨seen_zero true⟩, HF2, HT2, HBX, HA⟩
  case round =>
    obtain ⟨i, s, rt, rd, x, q, rfl, rfl, rfl, hi, hkx, hst, hsd, hins, HSN, HF, HT, HB, HAI⟩ := hrel
    have HINS := Sc.mk hins
    have HLR := Sc.mk (HL0.out.low HB.out HLB.out.1 HLB.out.2)
    have f0 := HF.out.cells
    have lf := HF.out.lt
    have hw1 : IntKind.i64.wrap (bs + 1 + i + 1) = bs + 1 + (i : Int) + 1 := IntWalk.i64_in _ ⟨by omega, by omega⟩
    obtain ⟨y, hy⟩ : ∃ y, (recAt L bs (bs + 1 + i)).getD zeroR = y := ⟨_, rfl⟩
    obtain ⟨z, hz⟩ : ∃ z, (recAt L bs (bs + 1 + i)).isSome = z := ⟨_, rfl⟩
    have HYZ := Sc.mk (And.intro hy hz)
    clear hins hy hz
    go_upto_region 6 with fail
    go_cut [7] from 32 to 40 (fun s7 wx => s7 = .bool z ∧ Sc (wx.heap[b6]? = some (.cells (cellsR y) 51 (0, 0))) ∧ Sc (Kp (fun q => q = b6) wr wx))
    case first =>
      go_wp2_with fail
      refine (refRec_any _ lb row L bs (bs + 1 + i) HLR.out hlen' h0 h1').mono ?_
      rw [HYZ.out.1, HYZ.out.2]
      rintro e w3 ⟨rfl, hb⟩
      have hz6 := up hb HT.out.rcd
      have HZ6 := Sc.mk hz6
      have HKB := Sc.mk hb
      obtain ⟨c0, c1, c2, c3, c4, c5, c6, c7, c8, c9⟩ := cells_recs hz6
      have g0 := unfrozen_at hz6 0
      have g1 := unfrozen_at hz6 1
      have g2 := unfrozen_at hz6 2
      have g3 := unfrozen_at hz6 3
      have g4 := unfrozen_at hz6 4
      have g5 := unfrozen_at hz6 5
      have g6 := unfrozen_at hz6 6
      have g7 := unfrozen_at hz6 7
      have g8 := unfrozen_at hz6 8
      have g9 := unfrozen_at hz6 9
      have l6 := heap_lt hz6
      clear hb hz6 f0 lf
      go_wp2_with fail
      go_meet
      case rel => exact ⟨rfl, ⟨set_recs HZ6.out⟩, ⟨(Kp.of_below HKB.out _).trans kp_set10 (fun _ h => .inl h)⟩⟩
    case rest =>
      obtain ⟨rfl, HX, HK⟩ := hcut
      have HF3 := Sc.mk (HF.out.kp HK.out (fun h => HT.out.n6.1 h.symm) (fun q hq h => HT.out.n6.2.1 (by rw [hq, h])) (fun q hq h => HT.out.n6.2.2 (by rw [hq, h])))
      have HT3 := Sc.mk (HT.out.turn HK.out HX.out)
      have HB3 : Sc (Below B w wc) := ⟨HB.out.trans (HK.out.below (Nat.le_trans HBW.out HB.out.size) (fun q hq => by rw [hq]; exact HT.out.low.2))⟩
      have HQ : Sc (Below wc.heap.size wc wc) := ⟨Below.refl _ _⟩
      obtain ⟨c0, c1, c2, c3, c4, c5, c6, c7, c8, c9⟩ := cells_recs HX.out
      have l6 := heap_lt HX.out
      have f1 := HF3.out.cells
      have lf1 := HF3.out.lt
      clear f0 lf HLR
      by_cases hlt : i < L.length
      case neg =>
        have hin : i = L.length := by omega
        have hrn : recAt L bs (bs + 1 + (i : Int)) = none := by rw [hin]; exact recAt_end
        obtain rfl : zeroR = y := by rw [← HYZ.out.1, hrn]; rfl
        obtain rfl : false = z := by rw [← HYZ.out.2, hrn]; rfl
        have HE : Sc (anaP L bs pages ckpt = (some (bs + 1 + (i : Int)), An.zero false)) := ⟨by rw [HAI.out, hin, runA_end, anaRes_in HINS.out, show bs + (L.length : Int) + 1 = bs + 1 + (L.length : Int) from by omega]⟩
        have HT4 := HT3
        have HB4 := HB3
        clear hin hrn
        go_wp2_with fail
        refine (placed_any _ 108 (bs + 1 + i) (by omega)).mono ?_
        rintro e w5 ⟨rfl, hb5⟩
        have HB5 : Sc (Below B w w5) := ⟨by first | exact HB4.out.trans (hb5.mono (Nat.le_trans HBW.out HB4.out.size)) | exact (HB4.out.trans ((below_drewQ (Below.refl _ _) _).trans hb5 |>.mono (Nat.le_trans HBW.out HB4.out.size)))⟩
        obtain ⟨q0, q1, q2, y0, y1, y2, lz⟩ := cells_fz (up hb5 HT4.out.flt)
        clear hb5
        go_wp2
        refine bodyPost_ret (v := .tuple #[.int .i64 0, aggA 108 (bs + 1 + i)]) (by simp [results, Tryd.results35, go_sem, q0, q1, q2]) rfl ⟨.inl ⟨_, rfl, HE.out⟩, low_st3 HB5.out HT4.out.low.1⟩
      obtain ⟨r, hr⟩ : ∃ r, L[i]? = some r := ⟨_, List.getElem?_eq_getElem hlt⟩
      have hra : recAt L bs (bs + 1 + (i : Int)) = some r := by rw [recAt_in rfl hlt, hr]
      obtain rfl : r = y := by rw [← HYZ.out.1, hra]; rfl
      obtain rfl : true = z := by rw [← HYZ.out.2, hra]; rfl
      have HRI := Sc.mk hr
      have HSO := Sc.mk (stepO_in bs (bs + 1 + i) r HINS.out)
      have HNX : ∀ s', stepC bs (bs + 1 + i) r s = (true, s') → Sc (anaP L bs pages ckpt = anaRes (bs + L.length) (runA bs (bs + 1 + (i : Int) + 1) (L.drop (i + 1)) s')) := fun s' h => ⟨by rw [HAI.out, runA_next HRI.out (by rw [HSO.out, h]), HSO.out, h]⟩
      have HST : ∀ s', stepC bs (bs + 1 + i) r s = (false, s') → Sc (anaP L bs pages ckpt = (some (bs + 1 + (i : Int)), An.zero false)) := fun s' h => ⟨by rw [HAI.out]; exact anaRes_bad (runA_stop HRI.out (by rw [HSO.out, h]))⟩
      have HNX := Sc.mk HNX
      have HST := Sc.mk HST
      clear hr hra
      by_cases h8 : r.kind = 8
      · have e8 : (r.kind == 8) = true := by simp [h8]
        have HSC := Sc.mk (stepC_txn (bs := bs) (lsn := bs + 1 + i) (s := s) h8)
        have CA : ∀ X, Below wc.heap.size wc X → Calls Tryd.prog 53 #[.pointer (some ⟨fb, 1, none⟩), .agg #[.int .i64 r.txn, .int .i64 r.key, .int .i64 r.prev, .int .i64 r.next]] X fun e w2 => e = .returned (.tuple #[]) ∧ LeftG B fb lb rt rd { s with t := setIn s.t (r.txn, r.key, r.prev, r.next), m := max s.m r.txn } wc w2 := fun X hX => (rfinAddT X (r.txn, r.key, r.prev, r.next) (HF3.out.bel hX) (by omega)).mono fun e w' ⟨he, hl⟩ => ⟨he, hl.from_ hX⟩
        obtain ⟨p1, d1⟩ : ∃ p1, decide (r.prev < bs + 1 + (i : Int)) = p1 := ⟨_, rfl⟩
        obtain ⟨p2, d2⟩ : ∃ p2, decide (r.next < bs + 1 + (i : Int)) = p2 := ⟨_, rfl⟩
        rw [d1, d2] at HSC
        obtain ⟨g, hg⟩ : ∃ g, (p1 && p2) = g := ⟨_, rfl⟩
        rw [hg] at HSC
        have HGG := Sc.mk hg
        clear h8 hg
        obtain ⟨wa, rfl⟩ : ∃ wa : World, wa = wc := ⟨_, rfl⟩
        go_upto_region 11 with fail
        go_cut [9] from 46 to 58 (fun s9 wx => s9 = .bool g ∧ wa = wx)
        case first =>
          cases p1 <;> cases p2
          all_goals
            go_wp2_with fail
            go_meet
            case rel => exact ⟨by rw [← HGG.out]; rfl, rfl⟩
        case rest =>
          obtain ⟨rfl, rfl⟩ := hcut
          clear d1 d2
          go_wp2_with fail
          go_region_law (first | (go_simp; go_at_call 53; refine (CA _ (by first | exact HQ.out | exact HQ.out.drew | exact below_drewQ HQ.out _ | exact (below_drewQ HQ.out _).drew)).mono ?_; rintro e w4 ⟨rfl, hl⟩; have HLF := Sc.mk hl; clear hl))
          all_goals
            have HB4 : Sc (Below B w w4) := ⟨HB3.out.trans (HLF.out.below HF3.out)⟩
            obtain ⟨rt4, rd4, hf4, ht4⟩ := HT3.out.left HLF.out
            have HF4 := Sc.mk hf4
            have HT4 := Sc.mk ht4
            clear CA hf4 ht4 HLF c0 c1 c2 c3 c4 c5 c6 c7 c8 c9 l6 f1 lf1
            cases g
            · have HE := HST.out _ HSC.out
              go_wp2_with fail
              refine (placed_any _ 108 (bs + 1 + i) (by omega)).mono ?_
              rintro e w5 ⟨rfl, hb5⟩
              have HB5 : Sc (Below B w w5) := ⟨by first | exact HB4.out.trans (hb5.mono (Nat.le_trans HBW.out HB4.out.size)) | exact (HB4.out.trans ((below_drewQ (Below.refl _ _) _).trans hb5 |>.mono (Nat.le_trans HBW.out HB4.out.size)))⟩
              obtain ⟨q0, q1, q2, y0, y1, y2, lz⟩ := cells_fz (up hb5 HT4.out.flt)
              clear hb5
              go_wp2
              refine bodyPost_ret (v := .tuple #[.int .i64 0, aggA 108 (bs + 1 + i)]) (by simp [results, Tryd.results35, go_sem, q0, q1, q2]) rfl ⟨.inl ⟨_, rfl, HE.out⟩, low_st3 HB5.out HT4.out.low.1⟩
            · have HA4 := HNX.out _ HSC.out
              have hln := setIn_length s.t (r.txn, r.key, r.prev, r.next)
              have hse : Seen _ := seen_setIn HSN.out (r.txn, r.key, r.prev, r.next) s.d
              have HSE := Sc.mk hse
              have hl1 : (setIn s.t (r.txn, r.key, r.prev, r.next)).length ≤ i + 1 := by omega
              clear hse hln
              go_wp2
              go_roundg (L.length + 1 - (i + 1))
              case measure => omega
              case rel => exact ⟨i + 1, { s with t := setIn s.t (r.txn, r.key, r.prev, r.next), m := max s.m r.txn }, rt4, rd4, r, true, rfl, rfl, by rw [show bs + 1 + ((i + 1 : Nat) : Int) = bs + 1 + (i : Int) + 1 from by omega], by omega, Nat.le_refl _, hl1, Nat.le_succ_of_le hsd, HINS.out, ⟨HSE.out⟩, HF4, HT4, HB4, ⟨by rw [HA4.out, show bs + 1 + ((i + 1 : Nat) : Int) = bs + 1 + (i : Int) + 1 from by omega]⟩⟩
      have e8 : (r.kind == 8) = false := beq_no h8
      by_cases h9 : r.kind = 9
      · have e9 : (r.kind == 9) = true := by simp [h9]
        have HSC := Sc.mk (stepC_page (bs := bs) (lsn := bs + 1 + i) (s := s) h9)
        have CA : ∀ X, Below wc.heap.size wc X → Calls Tryd.prog 54 #[.pointer (some ⟨fb, 3, none⟩), .int .i64 r.page, .int .i64 r.prev] X fun e w2 => e = .returned (.tuple #[]) ∧ LeftG B fb lb rt rd { s with d := add s.d (r.page, r.prev) } wc w2 := fun X hX => (rfinAddD X r.page r.prev (HF3.out.bel hX) (by omega)).mono fun e w' ⟨he, hl⟩ => ⟨he, hl.from_ hX⟩
        have HLR3 := Sc.mk (HL0.out.low HB3.out HLB.out.1 HLB.out.2)
        obtain ⟨⟨dp, A, sz, cp, hv, hcl, hown⟩, hap⟩ := HLR3.out
        obtain ⟨k2, k3, k5⟩ := cells_rlog hcl
        have ll := heap_lt hcl
        obtain ⟨p1, d1⟩ : ∃ p1, decide (bs < r.prev) = p1 := ⟨_, rfl⟩
        obtain ⟨p2, d2⟩ : ∃ p2, decide (r.prev < bs + 1 + (i : Int)) = p2 := ⟨_, rfl⟩
        rw [d1, d2] at HSC
        clear h8 h9 hv hcl hown hap k2 k5
        cases p1 <;> cases p2
        all_goals
          go_wp2_with fail
          go_quiet (fail)
          go_wp2_with fail
          go_region_law (first | (go_simp; go_at_call 54; refine (CA _ (by first | exact HQ.out | exact HQ.out.drew | exact below_drewQ HQ.out _ | exact (below_drewQ HQ.out _).drew)).mono ?_; rintro e w4 ⟨rfl, hl⟩; have HLF := Sc.mk hl; clear hl))
        all_goals
          have HB4 : Sc (Below B w w4) := ⟨HB3.out.trans (HLF.out.below HF3.out)⟩
          obtain ⟨rt4, rd4, hf4, ht4⟩ := HT3.out.left HLF.out
          have HF4 := Sc.mk hf4
          have HT4 := Sc.mk ht4
          clear CA hf4 ht4 HLF c0 c1 c2 c3 c4 c5 c6 c7 c8 c9 l6 f1 lf1 k3 ll
        all_goals first
          | (have HE := HST.out _ HSC.out
             go_wp2_with fail
             refine (placed_any _ 108 (bs + 1 + i) (by omega)).mono ?_
             rintro e w5 ⟨rfl, hb5⟩
             have HB5 : Sc (Below B w w5) := ⟨by first | exact HB4.out.trans (hb5.mono (Nat.le_trans HBW.out HB4.out.size)) | exact (HB4.out.trans ((below_drewQ (Below.refl _ _) _).trans hb5 |>.mono (Nat.le_trans HBW.out HB4.out.size)))⟩
             obtain ⟨q0, q1, q2, y0, y1, y2, lz⟩ := cells_fz (up hb5 HT4.out.flt)
             clear hb5
             go_wp2
             refine bodyPost_ret (v := .tuple #[.int .i64 0, aggA 108 (bs + 1 + i)]) (by simp [results, Tryd.results35, go_sem, q0, q1, q2]) rfl ⟨.inl ⟨_, rfl, HE.out⟩, low_st3 HB5.out HT4.out.low.1⟩)
          | (have HA4 := HNX.out _ HSC.out
             have hln := add_length s.d (r.page, r.prev)
             have hl1 : (add s.d (r.page, r.prev)).length ≤ i + 1 := by omega
             clear hln
             go_wp2
             go_roundg (L.length + 1 - (i + 1))
             case measure => omega
             case rel => exact ⟨i + 1, { s with d := add s.d (r.page, r.prev) }, rt4, rd4, r, true, rfl, rfl, by rw [show bs + 1 + ((i + 1 : Nat) : Int) = bs + 1 + (i : Int) + 1 from by omega], by omega, Nat.le_refl _, Nat.le_succ_of_le hst, hl1, HINS.out, ⟨HSN.out⟩, HF4, HT4, HB4, ⟨by rw [HA4.out, show bs + 1 + ((i + 1 : Nat) : Int) = bs + 1 + (i : Int) + 1 from by omega]⟩⟩)
      have e9 : (r.kind == 9) = false := beq_no h9
      by_cases h10 : r.kind = 10
      · have e10 : (r.kind == 10) = true := by simp [h10]
        have HSC := Sc.mk (stepC_end (bs := bs) (lsn := bs + 1 + i) (s := s) h10)
        have CA : ∀ X, Below wc.heap.size wc X → Calls Tryd.prog 55 #[.pointer (some ⟨fb, 1, none⟩), .int .i64 r.next] X fun e w2 => e = .returned (.tuple #[]) ∧ LeftG B fb lb rt rd { s with m := max s.m r.next } wc w2 := fun X hX => (rfinSeen X r.next (HF3.out.bel hX)).mono fun e w' ⟨he, hl⟩ => ⟨he, hl.from_ hX⟩
        clear h8 h9 h10
        go_wp2_with fail
        go_region_law (first | (go_simp; go_at_call 55; refine (CA _ (by first | exact HQ.out | exact HQ.out.drew | exact below_drewQ HQ.out _ | exact (below_drewQ HQ.out _).drew)).mono ?_; rintro e w4 ⟨rfl, hl⟩; have HLF := Sc.mk hl; clear hl))
        all_goals
          have HB4 : Sc (Below B w w4) := ⟨HB3.out.trans (HLF.out.below HF3.out)⟩
          obtain ⟨rt4, rd4, hf4, ht4⟩ := HT3.out.left HLF.out
          have HF4 := Sc.mk hf4
          have HT4 := Sc.mk ht4
          have HA4 := HNX.out _ HSC.out
          clear CA hf4 ht4 HLF c0 c1 c2 c3 c4 c5 c6 c7 c8 c9 l6 f1 lf1
          go_wp2_with fail
          refine (none_any _).mono ?_
          rintro e w5 ⟨rfl, hb5⟩
          have HB5 : Sc (Below B w w5) := ⟨HB4.out.trans (hb5.mono (Nat.le_trans HBW.out HB4.out.size))⟩
          have HF5 := Sc.mk (HF4.out.bel hb5)
          have HT5 := Sc.mk (HT4.out.bel hb5)
          obtain ⟨q0, q1, q2, y0, y1, y2, lz⟩ := cells_fz HT5.out.flt
          clear hb5
          go_wp2
          refine bodyPost_ret (v := .tuple #[.int .i64 (bs + 1 + i), aggF 0]) (by simp [results, Tryd.results35, go_sem, q0, q1, q2]) rfl ⟨.inr ⟨i, rt4, rd4, { s with m := max s.m r.next, ins := false }, rfl, hlt, hst, hsd, rfl, fun x hx => ?_, ?_, ?_⟩, low_st3 HB5.out HT5.out.low.1⟩
          · show x.1 ≤ max s.m r.next
            have := HSN.out x hx; omega
          · have hk : Kp (fun q => q = b5) w5 (((w5.setCell ⟨b5, 0, none⟩ (.int .i64 0)).setCell ⟨b5, 1, none⟩ (.bool false)).setCell ⟨b5, 2, none⟩ (.int .i64 0)) := kp_st3
            obtain ⟨a1, a2, a3, a4, a5, a6, a7, a8, a9⟩ := HF5.out.kp hk (fun h => HT5.out.n5.1 h.symm) (fun q hq h => HT5.out.n5.2.1 (by rw [hq, h])) (fun q hq h => HT5.out.n5.2.2 (by rw [hq, h]))
            exact ⟨a1, a2, a3, a4, a5, a6, a7, a8, a9⟩
          · rw [HA4.out, show bs + 1 + ((i + 1 : Nat) : Int) = bs + 1 + (i : Int) + 1 from by omega]
      have e10 : (r.kind == 10) = false := beq_no h10
      have HE := HST.out _ (stepC_no (bs := bs) (lsn := bs + 1 + i) (s := s) ⟨h8, h9, h10⟩)
      have HT4 := HT3
      have HB4 := HB3
      clear h8 h9 h10
      go_wp2_with fail
      refine (placed_any _ 108 (bs + 1 + i) (by omega)).mono ?_
      rintro e w5 ⟨rfl, hb5⟩
      have HB5 : Sc (Below B w w5) := ⟨by first | exact HB4.out.trans (hb5.mono (Nat.le_trans HBW.out HB4.out.size)) | exact (HB4.out.trans ((below_drewQ (Below.refl _ _) _).trans hb5 |>.mono (Nat.le_trans HBW.out HB4.out.size)))⟩
      obtain ⟨q0, q1, q2, y0, y1, y2, lz⟩ := cells_fz (up hb5 HT4.out.flt)
      clear hb5
      go_wp2
      refine bodyPost_ret (v := .tuple #[.int .i64 0, aggA 108 (bs + 1 + i)]) (by simp [results, Tryd.results35, go_sem, q0, q1, q2]) rfl ⟨.inl ⟨_, rfl, HE.out⟩, low_st3 HB5.out HT4.out.low.1⟩
end Go.Proofs.YtoapihepdallbaaDoor
