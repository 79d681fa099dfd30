/- AnalyseSays: the walk. -/
import Derived.Test.YtoapihepdallbaaDoorAnaR
import Derived.Test.YtoapihepdallbaaDoorMkM
import Derived.Test.YtoapihepdallbaaDoorLogs
namespace Go.Proofs.YtoapihepdallbaaDoor
open Go.RowKit

set_option maxRecDepth 4000 in
set_option maxHeartbeats 2000000 in
theorem sameFound_any (w : World) (ba bb bc bd : Nat) (vt vd ut ud : Value) (t : List TX) (d : List (Int × Int)) (m : Int) (h1 : Own enc4 4 56 ba w vt t) (h2 : Own enc2 2 58 bb w vd d) (h3 : Own enc4 4 56 bc w ut t) (h4 : Own enc2 2 58 bd w ud d) (ht : t.length ≤ 1000000) (hd : d.length ≤ 1000000) :
    Calls Tryd.prog 12 #[.agg #[vt, vd, .int .i64 m], .agg #[ut, ud, .int .i64 m]] w fun e w' => e = .returned (.bool true) ∧ Below w.heap.size w w' := by
  obtain ⟨A1, n1, c1, rfl⟩ := h1.slice3
  obtain ⟨A2, n2, c2, rfl⟩ := h2.slice3
  obtain ⟨A3, n3, c3, rfl⟩ := h3.slice3
  obtain ⟨A4, n4, c4, rfl⟩ := h4.slice3
  have HB1 : Sc (Below w.heap.size w ((w.alloc (.cells #[.slice A1 n1 c1, .slice A2 n2 c2, .int .i64 m] 37)).alloc (.cells #[.slice A3 n3 c3, .slice A4 n4 c4, .int .i64 m] 42))) := ⟨dn_alloc (dn_alloc (Below.refl _ _) _) _⟩
  have HC1 := Sc.mk (upa (heap_alloc_new w (.cells #[.slice A1 n1 c1, .slice A2 n2 c2, .int .i64 m] 37)) (.cells #[.slice A3 n3 c3, .slice A4 n4 c4, .int .i64 m] 42))
  have HC2 : Sc (((w.alloc (.cells #[.slice A1 n1 c1, .slice A2 n2 c2, .int .i64 m] 37)).alloc (.cells #[.slice A3 n3 c3, .slice A4 n4 c4, .int .i64 m] 42)).heap[w.heap.size + 1]? = some (.cells #[.slice A3 n3 c3, .slice A4 n4 c4, .int .i64 m] 42 (0, 0))) := ⟨by have := heap_alloc_new (w.alloc (.cells #[.slice A1 n1 c1, .slice A2 n2 c2, .int .i64 m] 37)) (.cells #[.slice A3 n3 c3, .slice A4 n4 c4, .int .i64 m] 42); simpa using this⟩
  have H1 := Sc.mk (h1.below HB1.out)
  have H2 := Sc.mk (h2.below HB1.out)
  have H3 := Sc.mk (h3.below HB1.out)
  have H4 := Sc.mk (h4.below HB1.out)
  have HL := Sc.mk (And.intro ht hd)
  clear h1 h2 h3 h4 ht hd
  go_enter Tryd.func12, Tryd.ntmps12
  go_wp2_with fail
  refine (txnSame_refl _ ba bc _ _ t H1.out H3.out HL.out.1).mono ?_
  obtain ⟨w1, hw1⟩ : ∃ w1, (w.alloc (.cells #[.slice A1 n1 c1, .slice A2 n2 c2, .int .i64 m] 37)).alloc (.cells #[.slice A3 n3 c3, .slice A4 n4 c4, .int .i64 m] 42) = w1 := ⟨_, rfl⟩
  obtain ⟨b1, hb1⟩ : ∃ b, w.heap.size = b := ⟨_, rfl⟩
  obtain ⟨b2, hb2⟩ : ∃ b, b1 + 1 = b := ⟨_, rfl⟩
  rw [hw1] at HB1 HC1 HC2 H2 H4 ⊢
  rw [hb1] at HC1
  rw [hb1, hb2] at HC2
  simp only [hb1, hb2]
  rintro e w2 ⟨rfl, hb⟩
  have HB2 := Sc.mk (below_down HB1.out hb)
  have HQ2 := Sc.mk hb
  obtain ⟨p0, p1, p2⟩ := cells_fd (up hb HC1.out)
  obtain ⟨q0, q1, q2⟩ := cells_fd (up hb HC2.out)
  have lp := heap_lt (up hb HC1.out)
  have lq := heap_lt (up hb HC2.out)
  clear hb hw1 hb1 hb2 H1 H3
  go_wp2_with fail
  refine (dirtySame_refl w2 bb bd _ _ d (H2.out.below HQ2.out) (H4.out.below HQ2.out) HL.out.2).mono ?_
  rintro e w3 ⟨rfl, hb⟩
  have HB3 := Sc.mk (below_down HB2.out hb)
  have HQ3 := Sc.mk (below_down HQ2.out hb)
  clear hb p0 p1 p2 q0 q1 q2 lp lq
  obtain ⟨p0, p1, p2⟩ := cells_fd (up HQ3.out HC1.out)
  obtain ⟨q0, q1, q2⟩ := cells_fd (up HQ3.out HC2.out)
  have lp := heap_lt (up HQ3.out HC1.out)
  have lq := heap_lt (up HQ3.out HC2.out)
  go_wp2
  go_ret
  exact ⟨rfl, HB3.out⟩

theorem anaP_len (L : List RecD) (bs pages ckpt : Int) : (anaP L bs pages ckpt).2.t.length ≤ L.length ∧ (anaP L bs pages ckpt).2.d.length ≤ L.length := by
  have hrun : ∀ (l : List RecD) (lsn : Int) (s : An), (runA bs lsn l s).2.t.length ≤ s.t.length + l.length ∧ (runA bs lsn l s).2.d.length ≤ s.d.length + l.length := by
    intro l
    induction l with
    | nil => intro lsn s; exact ⟨Nat.le_refl _, Nat.le_refl _⟩
    | cons r rs ih =>
      intro lsn s
      have h1 := stepO_len (bs := bs) lsn r s
      have h2 := ih (lsn + 1) (stepO bs lsn r s).2
      rw [runA]
      split
      · rw [List.length_cons]; omega
      · rw [List.length_cons]; show (stepO bs lsn r s).2.t.length ≤ _ ∧ (stepO bs lsn r s).2.d.length ≤ _; omega
  have hres : ∀ (last : Int) (x : Option Int × An) (n : Nat), x.2.t.length ≤ n ∧ x.2.d.length ≤ n → (anaRes last x).2.t.length ≤ n ∧ (anaRes last x).2.d.length ≤ n := by
    intro last x n h
    unfold anaRes
    split
    · exact ⟨Nat.zero_le _, Nat.zero_le _⟩
    · split
      · exact ⟨Nat.zero_le _, Nat.zero_le _⟩
      · exact h
  unfold anaP
  split
  · exact ⟨Nat.zero_le _, Nat.zero_le _⟩
  split
  · refine hres _ _ _ ?_
    have := hrun L (bs + 1) (An.zero false)
    simpa using this
  split
  · split
    · refine hres _ _ _ ?_
      have := hrun (L.drop (ckpt - bs).toNat) (ckpt + 1) (An.zero true)
      simp at this
      omega
    · exact ⟨Nat.zero_le _, Nat.zero_le _⟩
  · exact ⟨Nat.zero_le _, Nat.zero_le _⟩

set_option maxRecDepth 8000 in
set_option maxHeartbeats 8000000 in
theorem lawSays (f : Nat → Addr) (w : World) (a : Option Addr) (len cap : Nat) (zs : List Int) (base pages ckpt : Int) (hr : IsRow .i64 w a len cap zs) (hS : Sents w f) :
    Calls Tryd.prog 3 #[.slice a len cap, .int .i64 base, .int .i64 pages, .int .i64 ckpt] w fun e w' => e = .returned (.bool true) ∧ Below w.heap.size w w' := by
  have HS := Sc.mk hS
  have HR := Sc.mk hr
  obtain ⟨bs, hbs⟩ : ∃ bs, base % 6 = bs := ⟨_, rfl⟩
  obtain ⟨pg, hpg⟩ : ∃ pg, pages % 5 = pg := ⟨_, rfl⟩
  obtain ⟨ck, hck⟩ : ∃ ck, ckpt % 34 = ck := ⟨_, rfl⟩
  have b0 : 0 ≤ bs := by omega
  have b1 : bs < 6 := by omega
  have g0 : 0 ≤ pg := by omega
  have g1 : pg < 5 := by omega
  have k0 : 0 ≤ ck := by omega
  have k1 : ck < 34 := by omega
  have HN := Sc.mk (And.intro hbs (And.intro hpg hck))
  have hwp : IntKind.i64.wrap (pg + 1) = pg + 1 := IntWalk.i64_in _ ⟨by omega, by omega⟩
  clear hS hr hbs hpg hck
  go_enter Tryd.func3, Tryd.ntmps3
  go_wp2_with fail
  refine (first20_any f _ HS.out).mono ?_
  rintro e w1 ⟨rfl, hb⟩
  have HB1 := Sc.mk hb
  clear hb
  by_cases hbig : (300 : Int) < len
  · have hd : decide ((300 : Int) < len) = true := decide_eq_true hbig
    clear hbig
    go_wp2
    go_ret
    exact ⟨rfl, HB1.out⟩
  have hd : decide ((300 : Int) < len) = false := decide_eq_false hbig
  clear hbig
  go_wp2_with fail
  refine (number_is base 6 bs _ HN.out.1 (by omega) (by omega)).mono ?_
  rintro e w1' ⟨rfl, rfl⟩
  go_wp2_with fail
  refine (number_is pages 5 pg _ HN.out.2.1 (by omega) (by omega)).mono ?_
  rintro e w1' ⟨rfl, rfl⟩
  have HSQ := Sc.mk (SeqIs.made HR.out HB1.out)
  go_wp2_with fail
  refine (makeRecs_any w _ _ a len cap zs 30 HSQ.out (by omega)).mono ?_
  rintro e w2 ⟨v, l, rfl, hl, ho, hb⟩
  obtain ⟨A, n, c, rfl⟩ := ho.slice3
  have HO := Sc.mk ho
  have HB2 := Sc.mk hb
  clear ho hb HSQ
  go_wp2_with fail
  refine (number_is ckpt 34 ck _ HN.out.2.2 (by omega) (by omega)).mono ?_
  rintro e w2' ⟨rfl, rfl⟩
  go_wp2_with fail
  refine (logs_any f w2 _ _ l bs (HS.out.bel HB2.out) HO.out (by omega) b0 (by omega)).mono ?_
  rintro e w3 ⟨lb, lg, rw3, rr3, rfl, hpp, hrr, hb⟩
  have HB3 := Sc.mk (below_down HB2.out hb)
  have HP := Sc.mk hpp
  have HRR := Sc.mk hrr
  have HG : Sc (∀ r ∈ good l, goodR r = true) := ⟨fun r hr => (List.mem_filter.1 hr).2⟩
  have hgl : (good l).length ≤ 1000 := by have := List.length_filter_le goodR l; show (l.filter goodR).length ≤ 1000; omega
  obtain ⟨L, hL⟩ : ∃ L, good l = L := ⟨_, rfl⟩
  rw [hL] at HP HRR HG hgl
  clear hb hpp hrr hL HO hl
  go_wp2_with fail
  go_loopg [14] 2 (fun kx s14 wr => ∃ k : Nat, s14 = .int .i64 k ∧ k ≤ 2 ∧ 2 - k ≤ kx ∧ Sc (Below w3.heap.size w3 wr))
  case atStart => exact ⟨0, rfl, by omega, by omega, ⟨Below.refl _ _⟩⟩
  case round =>
    obtain ⟨k, rfl, hk, hkx, HQ⟩ := hrel
    by_cases hlt : k < 2
    case neg =>
      have hd2 : decide ((k : Int) < 2) = false := decide_eq_false (by omega)
      have HB4 := Sc.mk (below_down HB3.out HQ.out)
      clear hlt
      go_wp2
      go_ret
      exact ⟨rfl, HB4.out⟩
    have hd2 : decide ((k : Int) < 2) = true := decide_eq_true (by omega)
    have hwk : IntKind.i64.wrap ((k : Int) + 1) = ((k + 1 : Nat) : Int) := by rw [IntWalk.i64_in _ ⟨by omega, by omega⟩]; omega
    obtain ⟨x, hx⟩ : ∃ x, ck * (k : Int) = x := ⟨_, rfl⟩
    have hwx : IntKind.i64.wrap (ck * (k : Int)) = x := by
      rw [hx]
      rcases (by omega : k = 0 ∨ k = 1) with rfl | rfl
      · exact IntWalk.i64_in _ ⟨by omega, by omega⟩
      · exact IntWalk.i64_in _ ⟨by omega, by omega⟩
    have HB4 := Sc.mk (below_down HB3.out HQ.out)
    obtain ⟨res, hres⟩ : ∃ res, anaP L bs (pg + 1) x = res := ⟨_, rfl⟩
    have HRES := Sc.mk hres
    have HLN : Sc (res.2.t.length ≤ 1000000 ∧ res.2.d.length ≤ 1000000) := ⟨by have := anaP_len L bs (pg + 1) x; rw [hres] at this; omega⟩
    clear hx hres
    go_wp2_with fail
    refine (anaLog_any (f := f) wr (pg + 1) x (HP.out.bel HQ.out) (HS.out.bel HB4.out) hgl b0 (by omega)).mono ?_
    rw [HRES.out]
    rintro e w5 ⟨hout, hb⟩
    have HQ5 := Sc.mk (below_down HQ.out hb)
    clear hb
    rcases hout with ⟨p, b, hp, rfl, hbb, hbc⟩ | ⟨vt, vd, hp, rfl, ot, od⟩
    · have HPE := Sc.mk hp
      have HBC := Sc.mk hbc
      clear hp hbb hbc
      have HQ6 : Sc (Below w3.heap.size w3 (w5.alloc (.cells fd0 37))) := ⟨dn_alloc HQ5.out _⟩
      have HBa : Sc (Below w5.heap.size w5 (w5.alloc (.cells fd0 37))) := ⟨dn_alloc (Below.refl _ _) _⟩
      have HZ := Sc.mk (heap_alloc_new w5 (.cells fd0 37))
      go_wp2_with fail
      refine (anaRef_any _ (pg + 1) x (HRR.out.bel HQ6.out) hgl b0 (by omega) (by omega) HG.out).mono ?_
      rw [HRES.out]
      rintro e w7 ⟨⟨p', hp', rfl⟩ | ⟨ut, ud, hp', _⟩, hb⟩
      case inr => have := HPE.out; rw [hp'] at this; cases this
      obtain rfl : p = p' := by have := HPE.out; rw [hp'] at this; injection this with this; exact this.symm
      have HQ57 := Sc.mk (below_down HBa.out hb)
      have HZ7 := Sc.mk (up hb HZ.out)
      have HQ7 := Sc.mk (below_down HQ6.out hb)
      have HQ78 : Sc (Below w7.heap.size w7 ((w7.alloc (.cells fd0 42)).alloc (.cells #[.int .i64 108, .bool true, .int .i64 p] 44))) := ⟨dn_alloc (dn_alloc (Below.refl _ _) _) _⟩
      have HX17 := Sc.mk (upa (heap_alloc_new w7 (.cells fd0 42)) (.cells #[.int .i64 108, .bool true, .int .i64 p] 44))
      have HX18 : Sc (((w7.alloc (.cells fd0 42)).alloc (.cells #[.int .i64 108, .bool true, .int .i64 p] 44)).heap[w7.heap.size + 1]? = some (.cells #[.int .i64 108, .bool true, .int .i64 p] 44 (0, 0))) := ⟨by have := heap_alloc_new (w7.alloc (.cells fd0 42)) (.cells #[.int .i64 108, .bool true, .int .i64 p] 44); simpa using this⟩
      have HZ8 := Sc.mk (up HQ78.out HZ7.out)
      obtain ⟨q0, q1, q2⟩ := cells_fd HZ8.out
      obtain ⟨u0, u1, u2⟩ := cells_fd HZ7.out
      obtain ⟨r0, r1, r2⟩ := cells_fd HX17.out
      obtain ⟨s0, s1, s2, _, _, _, ls⟩ := cells_fz HX18.out
      have lq := heap_lt HZ7.out
      have lq1 : w5.heap.size < w7.heap.size + 1 := by omega
      clear hp' hb
      go_wp2_with fail
      refine (sameFound_any _ 0 0 0 0 _ _ _ _ [] [] 0 Own.nil Own.nil Own.nil Own.nil (by simp) (by simp)).mono ?_
      clear q0 q1 q2 u0 u1 u2 r0 r1 r2 s0 s1 s2 ls lq lq1
      obtain ⟨w8, hw8⟩ : ∃ w8, (w7.alloc (.cells fd0 42)).alloc (.cells #[.int .i64 108, .bool true, .int .i64 p] 44) = w8 := ⟨_, rfl⟩
      rw [hw8] at HQ78 HX18 ⊢
      obtain ⟨b18, hb18⟩ : ∃ b18, w7.heap.size + 1 = b18 := ⟨_, rfl⟩
      rw [hb18] at HX18 ⊢
      rintro e w9 ⟨rfl, hb⟩
      have HQ79 := Sc.mk (below_down HQ78.out hb)
      have HQ9 := Sc.mk (below_down HQ7.out HQ79.out)
      have HB9 := Sc.mk (below_down HB3.out HQ9.out)
      obtain ⟨s0, s1, s2, _, _, _, ls⟩ := cells_fz (up hb HX18.out)
      clear hb hw8 hb18 HX17 HZ8
      go_wp2_with fail
      refine (sameAt_any f w9 b p (HS.out.bel HB9.out) (up (below_down HQ57.out HQ79.out) HBC.out)).mono ?_
      rintro e w10 ⟨rfl, hb⟩
      have HQ10 := Sc.mk (below_down HQ9.out hb)
      clear hb s0 s1 s2 ls
      go_wp2
      go_roundg (2 - (k + 1))
      case measure => omega
      case rel => exact ⟨k + 1, rfl, by omega, Nat.le_refl _, HQ10⟩
    · obtain ⟨A1, n1, c1, rfl⟩ := ot.slice3
      obtain ⟨A2, n2, c2, rfl⟩ := od.slice3
      have HPE := Sc.mk hp
      have OT := Sc.mk ot
      have OD := Sc.mk od
      clear hp ot od
      have HQ6 : Sc (Below w3.heap.size w3 (w5.alloc (.cells #[.slice A1 n1 c1, .slice A2 n2 c2, .int .i64 res.2.m] 37))) := ⟨dn_alloc HQ5.out _⟩
      have HBa : Sc (Below w5.heap.size w5 (w5.alloc (.cells #[.slice A1 n1 c1, .slice A2 n2 c2, .int .i64 res.2.m] 37))) := ⟨dn_alloc (Below.refl _ _) _⟩
      have HZ := Sc.mk (heap_alloc_new w5 (.cells #[.slice A1 n1 c1, .slice A2 n2 c2, .int .i64 res.2.m] 37))
      go_wp2_with fail
      refine (anaRef_any _ (pg + 1) x (HRR.out.bel HQ6.out) hgl b0 (by omega) (by omega) HG.out).mono ?_
      rw [HRES.out]
      rintro e w7 ⟨⟨p', hp', _⟩ | ⟨ut, ud, hp', rfl, ou, ov⟩, hb⟩
      case inl => have := HPE.out; rw [hp'] at this; cases this
      obtain ⟨A3, n3, c3, rfl⟩ := ou.slice3
      obtain ⟨A4, n4, c4, rfl⟩ := ov.slice3
      have OU := Sc.mk ou
      have OV := Sc.mk ov
      have HQ57 := Sc.mk (below_down HBa.out hb)
      have HZ7 := Sc.mk (up hb HZ.out)
      have HQ7 := Sc.mk (below_down HQ6.out hb)
      have HQ78 : Sc (Below w7.heap.size w7 ((w7.alloc (.cells #[.slice A3 n3 c3, .slice A4 n4 c4, .int .i64 res.2.m] 42)).alloc (.cells #[.int .i64 0, .bool false, .int .i64 0] 44))) := ⟨dn_alloc (dn_alloc (Below.refl _ _) _) _⟩
      have HX17 := Sc.mk (upa (heap_alloc_new w7 (.cells #[.slice A3 n3 c3, .slice A4 n4 c4, .int .i64 res.2.m] 42)) (.cells #[.int .i64 0, .bool false, .int .i64 0] 44))
      have HX18 : Sc (((w7.alloc (.cells #[.slice A3 n3 c3, .slice A4 n4 c4, .int .i64 res.2.m] 42)).alloc (.cells #[.int .i64 0, .bool false, .int .i64 0] 44)).heap[w7.heap.size + 1]? = some (.cells #[.int .i64 0, .bool false, .int .i64 0] 44 (0, 0))) := ⟨by have := heap_alloc_new (w7.alloc (.cells #[.slice A3 n3 c3, .slice A4 n4 c4, .int .i64 res.2.m] 42)) (.cells #[.int .i64 0, .bool false, .int .i64 0] 44); simpa using this⟩
      have HZ8 := Sc.mk (up HQ78.out HZ7.out)
      obtain ⟨q0, q1, q2⟩ := cells_fd HZ8.out
      obtain ⟨u0, u1, u2⟩ := cells_fd HZ7.out
      obtain ⟨r0, r1, r2⟩ := cells_fd HX17.out
      obtain ⟨s0, s1, s2, _, _, _, ls⟩ := cells_fz HX18.out
      have lq := heap_lt HZ7.out
      have lq1 : w5.heap.size < w7.heap.size + 1 := by omega
      clear hp' hb ou ov
      go_wp2_with fail
      refine (sameFound_any _ _ _ _ _ _ _ _ _ res.2.t res.2.d res.2.m (OT.out.below (below_down HQ57.out HQ78.out)) (OD.out.below (below_down HQ57.out HQ78.out)) (OU.out.below HQ78.out) (OV.out.below HQ78.out) HLN.out.1 HLN.out.2).mono ?_
      clear q0 q1 q2 u0 u1 u2 r0 r1 r2 s0 s1 s2 ls lq lq1
      obtain ⟨w8, hw8⟩ : ∃ w8, (w7.alloc (.cells #[.slice A3 n3 c3, .slice A4 n4 c4, .int .i64 res.2.m] 42)).alloc (.cells #[.int .i64 0, .bool false, .int .i64 0] 44) = w8 := ⟨_, rfl⟩
      rw [hw8] at HQ78 HX18 ⊢
      obtain ⟨b18, hb18⟩ : ∃ b18, w7.heap.size + 1 = b18 := ⟨_, rfl⟩
      rw [hb18] at HX18 ⊢
      rintro e w9 ⟨rfl, hb⟩
      have HQ79 := Sc.mk (below_down HQ78.out hb)
      have HQ9 := Sc.mk (below_down HQ7.out HQ79.out)
      have HB9 := Sc.mk (below_down HB3.out HQ9.out)
      obtain ⟨s0, s1, s2, _, _, _, ls⟩ := cells_fz (up hb HX18.out)
      clear hb hw8 hb18 HX17 HZ8
      go_wp2_with fail
      refine (same_any (f := f) (w := w9) .ok).mono ?_
      rintro e w10 ⟨rfl, hb⟩
      have HQ10 := Sc.mk (below_down HQ9.out hb)
      clear hb s0 s1 s2 ls
      go_wp2
      go_roundg (2 - (k + 1))
      case measure => omega
      case rel => exact ⟨k + 1, rfl, by omega, Nat.le_refl _, HQ10⟩
end Go.Proofs.YtoapihepdallbaaDoor
