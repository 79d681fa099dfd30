/- The walk of ChangeRows: gone through again from wherever it was, a row of records comes to the same page. -/
import Derived.Test.YtmafogagkjafbaaDoorRows8
import Derived.IntWalk
namespace Go.Proofs.YtmafogagkjafbaaDoor
open Go.RowKit

/-- A record of the row gone through again, from page K on. -/
theorem rowsRedo_any (w : World) (base : Nat) (v : Value) (rs : List RecD) (K i : Nat) (r : RecD) (hr : rs[i]? = some r) (hg : ∀ q ∈ rs, q.kind = 2 ∧ 0 ≤ q.key ∧ q.key < 19) (hown : Own enc2 2 56 base w v (play rs (max K i))) :
    Calls Tryd.prog 18 #[aggP (max K i : Nat) v, .int .i64 ((i : Int) + 1), aggR r] w (RedoLeft (max K (i + 1) : Nat) (play rs (max K (i + 1))) (decide (K ≤ i)) w) := by
  have hroom := play_room (fun q hq => (hg q hq).2) (max K i)
  by_cases h : K ≤ i
  · have h1 : max K i = i := by omega
    have h2 : max K (i + 1) = i + 1 := by omega
    rw [h1] at hown hroom ⊢
    rw [h2, decide_eq_true h, play_succ hr]
    exact redoChange_any w base i v (play rs i) ((i : Int) + 1) r hown (play_rising _ _) hroom (.inl (hg r (List.mem_of_getElem? hr)).1) (by omega)
  · have h1 : max K i = K := by omega
    have h2 : max K (i + 1) = K := by omega
    rw [h1] at hown hroom ⊢
    rw [h2, decide_eq_false h]
    exact redoSkip_any w base K v (play rs K) ((i : Int) + 1) r hown (by omega) (.inr (by omega))

/-- The record of a round. -/
abbrev rowR (key : Int) (has1 : Bool) (v : Int) : RecD := ⟨2, 1, 1, 0, 0, key, false, has1, 0, v⟩
set_option maxRecDepth 10000 in
set_option maxHeartbeats 8000000 in
theorem changeRows_walk (a : Option Addr) (len cap : Nat) (zs : List Int) (from0 : Int) (w : World) (hrow : IsRow .i64 w a len cap zs) :
    Calls Tryd.prog 5 #[.slice a len cap, .int .i64 from0] w fun e w' => e = .returned (.bool true) ∧ Below w.heap.size w w' := by
  obtain ⟨i0, hi, hz0, hz1, hz2⟩ := info_parts infoRec
  obtain ⟨i1, gi, gz0, gz1, gz2⟩ := info_parts infoPage
  have HW := Sc.mk hrow
  clear hrow
  by_cases hbig : 200 < len
  · have hbig' : (200 : Int) < len := by omega
    clear HW
    go_enter Tryd.func5, Tryd.ntmps5
    go_wp2_with (go_at_call 14; refine (first8_any _).mono ?_; rintro e w1 ⟨rfl, hb⟩)
    go_ret
    exact ⟨rfl, hb⟩
  · have hbig' : ¬ (200 : Int) < len := by omega
    go_enter Tryd.func5, Tryd.ntmps5
    go_wp2_with fail
    refine (first8_any _).mono ?_
    rintro e w1 ⟨rfl, hb⟩
    have HB1 := Sc.mk hb
    clear hb
    go_wp2_with fail
    refine (next_any w _ _ a len cap zs 0 40 (SeqIs.made HW.out HB1.out) (by omega) (by omega) (by omega)).mono ?_
    rintro e w2 ⟨nn, hn0, hn1, rfl, hs2, hk2⟩
    obtain ⟨N, rfl⟩ := Int.eq_ofNat_of_zero_le hn0
    have hN : N < 40 := by omega
    have HR0 : Sc (RowsSt w (w2.alloc (.cells #[.int .i64 0, .slice none 0 0] 29)) (w2.heap.size + 1) w1.heap.size w2.heap.size a len cap zs 1 0 (none, 0, 0) [] [] [] (none, 0, 0) (none, 0, 0)) := ⟨by
      have h1 := hk2.size
      have h2 := HB1.out.size
      simp at h1
      exact ⟨hs2.bel (dn_alloc (Below.refl _ _) _), heap_alloc_new w2 _, Own.nil, Own.nil, Own.nil, (fun j x hx => by simp at hx), Nat.le_refl _, (fun r hr => by simp at hr), (fun q hq => by simp [Value.ownBlock] at hq), (fun q hq => by simp [Value.ownBlock] at hq), by omega, by omega, by omega, by simp, by omega⟩⟩
    obtain ⟨b, hb⟩ : ∃ b, w1.heap.size = b := ⟨_, rfl⟩
    obtain ⟨b9, hb9⟩ : ∃ b, w2.heap.size = b := ⟨_, rfl⟩
    rw [hb, hb9] at HR0
    have HB := Sc.mk (And.intro hb hb9)
    clear hs2 hk2 hn0 hn1
    go_wp2_with fail
    clear hb hb9
    go_loopg [4, 8, 10, 11] N (fun kx u4 u8 u10 u11 wr => ∃ (i k : Nat) (sl s8 s10 : Option Addr × Nat × Nat) (rs : List RecD) (pgs : List PgT), u4 = .bool false ∧ u8 = slv s8 ∧ u10 = slv s10 ∧ u11 = .int .i64 i ∧ i ≤ N ∧ N - i ≤ kx ∧
      Sc (RowsSt w wr (b9 + 1) b b9 a len cap zs k i sl (play rs i) rs pgs s8 s10) ∧ Sc (rs.length = i ∧ pgs.length = i ∧ k ≤ 1 + 3 * i))
    case atStart => exact ⟨0, 1, (none, 0, 0), (none, 0, 0), (none, 0, 0), [], [], rfl, rfl, rfl, rfl, by omega, by omega, HR0, ⟨rfl, rfl, by omega⟩⟩
    case round =>
      obtain ⟨i, k, sl, s8, s10, rs, pgs, rfl, rfl, rfl, rfl, hin, hg, HR, HC⟩ := hrel
      by_cases hlt : i < N
      · have hil : (i : Int) < N := by omega
        obtain ⟨e0, e1⟩ := cells_page HR.out.page
        go_wp2_with fail
        refine (next_any w _ b a len cap zs k 19 HR.out.seq (by have := HC.out.2.2; omega) (by omega) (by omega)).mono ?_
        rintro e w3 ⟨r3, h30, h31, rfl, hs3, hk3⟩
        have HR3 := Sc.mk (HR.out.next hs3 hk3)
        clear hs3 hk3
        go_wp2_with fail
        refine (next_any w _ b a len cap zs (k + 1) 3 HR3.out.seq (by have := HC.out.2.2; omega) (by omega) (by omega)).mono ?_
        rintro e w4 ⟨r4, h40, h41, rfl, hs4, hk4⟩
        have HR4 := Sc.mk (HR3.out.next hs4 hk4)
        clear hs4 hk4
        go_upto_if 47 with fail
        generalize (decide (0 < r4)) = hs
        have HX := Sc.mk (HR4.out.bel (dn_alloc (Below.refl _ _) (.cells (cellsR (rowR r3 hs 0)) 32)))
        have HXR := Sc.mk (heap_alloc_new w4 (.cells (cellsR (rowR r3 hs 0)) 32))
        go_cut [] from 48 to 50 (fun wx => ∃ (r : RecD) (kx : Nat), Sc (r.kind = 2 ∧ 0 ≤ r.key ∧ r.key < 19) ∧ Sc (wx.heap[w4.heap.size]? = some (.cells (cellsR r) 32 (0, 0))) ∧ Sc (RowsSt w wx (b9 + 1) b b9 a len cap zs kx i sl (play rs i) rs pgs s8 s10) ∧ Sc (kx ≤ k + 3))
        case first =>
          cases hs with
          | false =>
            go_wp2_with fail
            go_meet
            case rel => exact ⟨_, k + 1 + 1, ⟨rfl, h30, h31⟩, HXR, HX, ⟨by omega⟩⟩
          | true =>
            go_wp2_with fail
            refine (next_any w _ b a len cap zs (k + 1 + 1) 100 HX.out.seq (by have := HC.out.2.2; omega) (by omega) (by omega)).mono ?_
            rintro e w5 ⟨r5, h50, h51, rfl, hs5, hk5⟩
            have HR5 := Sc.mk (HX.out.next hs5 hk5)
            have hc5 : w5.heap[w4.heap.size]? = some (.cells (cellsR (rowR r3 true 0)) 32 (0, 0)) := hk5.at HXR.out (by have := HX.out.low; have := HR4.out.base; omega)
            obtain ⟨q0, q1, q2, q3, q4, q5, q6, q7, q8, q9⟩ := cells_recs hc5
            have qf := unfrozen_at hc5 9
            have HZ := Sc.mk (HR5.out.far HR4.out (Nat.le_refl _) (Kp.setCell w5 ⟨w4.heap.size, 9, none⟩ (.int .i64 r5)))
            have HZR : Sc ((w5.setCell ⟨w4.heap.size, 9, none⟩ (.int .i64 r5)).heap[w4.heap.size]? = some (.cells (cellsR (rowR r3 true r5)) 32 (0, 0))) := ⟨by rw [set_one hc5 9 _]; rfl⟩
            clear hs5 hk5 hc5
            go_wp2_with fail
            go_meet
            case rel => exact ⟨_, k + 1 + 1 + 1, ⟨rfl, h30, h31⟩, HZR, HZ, ⟨by omega⟩⟩
        case rest =>
          obtain ⟨r, kx, HG, HRC, HRW, HKX⟩ := hcut
          clear HX HXR
          obtain ⟨q0, q1, q2, q3, q4, q5, q6, q7, q8, q9⟩ := cells_recs HRC.out
          have lr := heap_lt HRC.out
          have HL8 : Sc (rs.length = i ∧ pgs.length = i) := ⟨HC.out.1, HC.out.2.1⟩
          clear e0 e1
          go_wp2_with (at_builtin; go_loud (refine wpList_append_lies _ rfl (.tmp 51) (.tmp 53) 52 rfl (b9 + 1) 32 i0 (aggR zeroR) 10 72 Tryd.underlying52 hi hz0 hz1 hz2 rfl (by decide) (slv s8) rs.length (flat encR rs) rfl (HRW.out.recs.alloc _) ⟨wc.heap.size, 0, none⟩ 1 1 (encR r) rfl rfl (World.news_of_block (heap_alloc_new wc (.cells (cellsR r) 32))) (kindR.one r) Nat.one_pos ?c1 ?c2 (by have := HRW.out.base; simp; omega) (wc.heap.size + 1) (by simp) ?_))
          case c1 => have := HL8.out.1; unfold maxLen; omega
          case c2 => have := HL8.out.1; omega
          intro ga ca wa h1 h2 h3 h4
          have HA := Sc.mk (HRW.out.addRec h1 h2 h3 HG.out)
          have HRA := Sc.mk (up_gr HRC.out h2 (fun he => by have := (HR4.out.recs.lt _ he).2; omega))
          obtain ⟨rs', hrs⟩ : ∃ rs', rs ++ [r] = rs' := ⟨_, rfl⟩
          obtain ⟨s8', hs8⟩ : ∃ s8' : Option Addr × Nat × Nat, (some (⟨ga, 0, none⟩ : Addr), rs.length + 1, ca) = s8' := ⟨_, rfl⟩
          have HQ : Sc (rs'.length = i + 1 ∧ play rs i = play rs' i ∧ play rs' (i + 1) = chg (play rs' i) r ∧ .slice (some ⟨ga, 0, none⟩) (rs.length + 1) ca = slv s8') := ⟨by
            rw [← hrs, ← hs8]
            have hl := HL8.out.1
            refine ⟨by simp [hl], (play_append rs r (by omega)).symm, ?_, rfl⟩
            exact play_succ (by rw [List.getElem?_append_right (by omega), hl]; simp)⟩
          rw [hrs, hs8, HQ.out.2.1] at HA
          rw [HQ.out.2.2.2]
          clear h1 h2 h3 h4 hrs hs8 q0 q1 q2 q3 q4 q5 q6 q7 q8 q9 lr HR
          obtain ⟨e0, e1⟩ := cells_page HA.out.page
          go_wp2_with (at_builtin; go_loud (refine wpList_append_lies _ rfl (.tmp 55) (.tmp 57) 53 rfl (b9 + 1) 29 i1 (aggP 0 (.slice none 0 0)) 2 32 Tryd.underlying53 gi gz0 gz1 gz2 rfl (by decide) (slv s10) pgs.length (flat encG pgs) rfl (HA.out.pags.alloc _) ⟨wa.heap.size, 0, none⟩ 1 1 (encG ((i : Int), sl)) rfl rfl (World.news_of_block (heap_alloc_new wa (.cells #[.int .i64 i, slv sl] 29))) (kindG.one _) Nat.one_pos ?d1 ?d2 (by have := HA.out.base; simp; omega) (wa.heap.size + 1) (by simp) ?_))
          case d1 => have := HL8.out.2; unfold maxLen; omega
          case d2 => have := HL8.out.2; omega
          intro gb cb wb h1 h2 h3 h4
          have HP := Sc.mk (HA.out.addPage h1 h2 h3 (by rw [HL8.out.2]) (by rw [HL8.out.2]) (by rw [HL8.out.2, HQ.out.1]; omega))
          have HRB := Sc.mk (up_gr HRA.out h2 (fun he => by have := (HR4.out.pags.lt _ he).2; omega))
          obtain ⟨pgs', hpgs⟩ : ∃ pgs', pgs ++ [((i : Int), sl)] = pgs' := ⟨_, rfl⟩
          obtain ⟨s10', hs10⟩ : ∃ s10' : Option Addr × Nat × Nat, (some (⟨gb, 0, none⟩ : Addr), pgs.length + 1, cb) = s10' := ⟨_, rfl⟩
          have HQ2 : Sc (pgs'.length = i + 1 ∧ .slice (some ⟨gb, 0, none⟩) (pgs.length + 1) cb = slv s10') := ⟨by rw [← hpgs, ← hs10]; exact ⟨by simp [HL8.out.2], rfl⟩⟩
          rw [hpgs, hs10] at HP
          rw [HQ2.out.2]
          clear h1 h2 h3 h4 hpgs hs10 e0 e1
          obtain ⟨e0, e1⟩ := cells_page HP.out.page
          obtain ⟨q0, q1, q2, q3, q4, q5, q6, q7, q8, q9⟩ := cells_recs HRB.out
          have i40 : i < 40 := by omega
          go_wp2_with fail
          refine (redoChange_any _ (b9 + 1) i _ (play rs' i) ((i : Int) + 1) r HP.out.own (play_rising _ _) (play_room (fun q hq => (HP.out.good q hq).2) i) (.inl HG.out.1) (by omega)).mono ?_
          rintro e w6 ⟨A6, s6, c6, rfl, ho6, hb6⟩
          have HT := Sc.mk ((HP.out.turn (sl' := (A6, s6, c6)) (n9' := (i : Int) + 1) hb6 ho6).bel (dn_alloc (Below.refl _ _) (.cells #[.int .i64 ((i : Int) + 1), .slice A6 s6 c6] 29)))
          obtain ⟨y0, y1⟩ := cells_page (HP.out.bel hb6).page
          have z0 := unfrozen_at (HP.out.bel hb6).page 0
          have z1 := unfrozen_at (HP.out.bel hb6).page 1
          have ly := heap_lt (HP.out.bel hb6).page
          clear ho6 hb6 e0 e1 q0 q1 q2 q3 q4 q5 q6 q7 q8 q9
          go_wp2_with fail
          go_roundg (N - (i + 1))
          case measure => omega
          case rel => exact ⟨i + 1, kx, (A6, s6, c6), s8', s10', rs', pgs', rfl, rfl, rfl, by go_num, by omega, Nat.le_refl _, ⟨by have h := HT.out; rw [show ((if r.has = true then setIn (play rs' i) (r.key, r.new) else drop' (play rs' i) r.key) : List (Int × Int)) = play rs' (i + 1) from HQ.out.2.2.1.symm] at h; exact h⟩, ⟨HQ.out.1, HQ2.out.1, by have := HC.out.2.2; have := HKX.out; omega⟩⟩
      · obtain rfl : N = i := by omega
        obtain ⟨wo, rfl⟩ : ∃ wo : World, wo = wr := ⟨_, rfl⟩
        have HC2 : Sc (rs.length = N ∧ pgs.length = N) := ⟨HC.out.1, HC.out.2.1⟩
        have HBR : Sc (Below w.heap.size w wo) := ⟨HR.out.seq.below⟩
        rcases Nat.eq_zero_or_pos N with hN0 | hN0
        · have hz : ((N : Int) == 0) = true := by simp [hN0]
          clear hN0
          go_wp2
          go_ret
          exact ⟨rfl, HBR.out⟩
        · have hz : ((N : Int) == 0) = false := by simp; omega
          obtain ⟨kk, hkk⟩ : ∃ kk, from0 % (N : Int) = kk := ⟨_, rfl⟩
          have hk0 : 0 ≤ kk := by rw [← hkk]; exact Int.emod_nonneg _ (by omega)
          have hk1 : kk < N := by rw [← hkk]; exact Int.emod_lt_of_pos _ (by omega)
          obtain ⟨K, rfl⟩ := Int.eq_ofNat_of_zero_le hk0
          have HKK := Sc.mk hkk
          clear hkk
          obtain ⟨g8, c8, he8, _, hg8, _, _⟩ := HR.out.recs.form (by rw [HC2.out.1]; exact hN0)
          obtain ⟨g10, c10, he10, _, hg10, _, _⟩ := HR.out.pags.form (by rw [HC2.out.2]; exact hN0)
          rw [HC2.out.1] at he8
          rw [HC2.out.2] at he10
          have HE8 := Sc.mk he8
          have HE10 := Sc.mk he10
          rw [he8, he10]
          clear he8 he10
          obtain ⟨x, hx⟩ : ∃ x, pgs[K]? = some x := ⟨_, List.getElem?_eq_getElem (by rw [HC2.out.2]; omega)⟩
          have hpo : Own encG 2 29 (b9 + 1) wo (.slice (some ⟨g10, 0, none⟩) N c10) pgs := by rw [← HE10.out]; exact HR.out.pags
          have x0 : wo.cell? ⟨g10, K * 2, none⟩ = some (.int .i64 K) := by have := hpo.cell kindG hx 0 _ rfl; rw [(HR.out.each K x hx).1] at this; exact this
          have x1 : wo.cell? ⟨g10, K * 2 + 1, none⟩ = some (slv x.2) := hpo.cell kindG hx 1 _ rfl
          have HXO := Sc.mk (HR.out.each K x hx).2
          have hKn : (K : Int) < N := by omega
          have hK0 : (0 : Int) ≤ (K : Int) := by omega
          clear hx hpo
          go_wp2_with fail
          refine (number_is from0 N K _ HKK.out (by omega) (by omega)).mono ?_
          rintro e wz ⟨rfl, rfl⟩
          go_wp2_with fail
          have HW2 := Sc.mk (dn_alloc (Below.refl wo.heap.size wo) (.cells #[.int .i64 K, slv x.2] 29))
          have HSO : Sc (Own enc2 2 56 (b9 + 1) (wo.alloc (.cells #[.int .i64 K, slv x.2] 29)) (slv x.2) (play rs (max K 0))) := ⟨by rw [Nat.max_zero]; exact HXO.out.alloc _⟩
          have HSN : Sc ((slv x.2).ownBlock ≠ some wo.heap.size) := ⟨fun he => by have := (HXO.out.lt _ he).2; omega⟩
          have HSC : Sc ((wo.alloc (.cells #[.int .i64 K, slv x.2] 29)).heap[wo.heap.size]? = some (.cells #[.int .i64 (max K 0 : Nat), slv x.2] 29 (0, 0))) := ⟨by rw [Nat.max_zero]; exact heap_alloc_new wo _⟩
          go_loopg [4, 18] N (fun kx u4 u18 wr => ∃ (i : Nat) (ss : Option Addr × Nat × Nat), u4 = .bool false ∧ u18 = .int .i64 i ∧ i ≤ N ∧ N - i ≤ kx ∧ Sc (Below wo.heap.size wo wr) ∧ Sc (wr.heap[wo.heap.size]? = some (.cells #[.int .i64 (max K i : Nat), slv ss] 29 (0, 0))) ∧
            Sc (Own enc2 2 56 (b9 + 1) wr (slv ss) (play rs (max K i))) ∧ Sc ((slv ss).ownBlock ≠ some wo.heap.size))
          case atStart => exact ⟨0, x.2, rfl, rfl, by omega, by omega, HW2, HSC, HSO, HSN⟩
          case round =>
            obtain ⟨i, ss, rfl, rfl, hin2, hg2, HBL, HSC2, HSO2, HSN2⟩ := hrel
            obtain ⟨s0, s1⟩ := cells_page HSC2.out
            have ls := heap_lt HSC2.out
            by_cases hlt2 : i < N
            · have hil : (i : Int) < N := by omega
              have hi0' : (0 : Int) ≤ (i : Int) := by omega
              obtain ⟨r, hr⟩ : ∃ r, rs[i]? = some r := ⟨_, List.getElem?_eq_getElem (by rw [HC2.out.1]; exact hlt2)⟩
              have hro : Own encR 10 32 (b9 + 1) wr (.slice (some ⟨g8, 0, none⟩) N c8) rs := by rw [← HE8.out]; exact HR.out.recs.below HBL.out
              have HRI := Sc.mk hr
              have HSK : Sc (∀ W : World, Below wr.heap.size wr W → W.cell? ⟨wo.heap.size, 0, none⟩ = some (.int .i64 (max K i : Nat)) ∧ W.cell? ⟨wo.heap.size, 1, none⟩ = some (slv ss) ∧ W.cell? ⟨g8, i * 10, none⟩ = some (.int .i64 r.kind) ∧ W.cell? ⟨g8, i * 10 + 1, none⟩ = some (.int .i64 r.txn) ∧ W.cell? ⟨g8, i * 10 + 2, none⟩ = some (.int .i64 r.page) ∧ W.cell? ⟨g8, i * 10 + 3, none⟩ = some (.int .i64 r.prev) ∧ W.cell? ⟨g8, i * 10 + 4, none⟩ = some (.int .i64 r.next) ∧ W.cell? ⟨g8, i * 10 + 5, none⟩ = some (.int .i64 r.key) ∧ W.cell? ⟨g8, i * 10 + 6, none⟩ = some (.bool r.had) ∧ W.cell? ⟨g8, i * 10 + 7, none⟩ = some (.bool r.has) ∧ W.cell? ⟨g8, i * 10 + 8, none⟩ = some (.int .i64 r.old) ∧ W.cell? ⟨g8, i * 10 + 9, none⟩ = some (.int .i64 r.new)) := ⟨fun W hb => by
                have hc : ∀ j u, (encR r)[j]? = some u → W.cell? ⟨g8, i * 10 + j, none⟩ = some u := fun j u hu => (hro.below hb).cell kindR hr j u hu
                obtain ⟨t0, t1⟩ := cells_page (up hb HSC2.out)
                exact ⟨t0, t1, hc 0 _ rfl, hc 1 _ rfl, hc 2 _ rfl, hc 3 _ rfl, hc 4 _ rfl, hc 5 _ rfl, hc 6 _ rfl, hc 7 _ rfl, hc 8 _ rfl, hc 9 _ rfl⟩⟩
              have hwi : IntKind.i64.wrap ((i : Int) + 1) = (i : Int) + 1 := IntWalk.i64_in _ (by omega)
              clear hr hro s0 s1
              go_upto_region 30 with fail
              go_cut [19, 20, 21] from 90 to 101 (fun u19 u20 u21 wx => ∃ (bg : Nat) (sg : Option Addr × Nat × Nat), u19 = .pointer (some ⟨bg, 0, none⟩) ∧ u20 = .bool (decide (K ≤ i)) ∧ u21 = .nilIface ∧ Sc (Below wr.heap.size wr wx) ∧ Sc (QVar wr.heap.size wx bg (max K (i + 1) : Nat) (slv sg) (play rs (max K (i + 1)))))
              case first =>
                go_region_held3 (fun W => W.cell? ⟨wo.heap.size, 0, none⟩ = some (.int .i64 (max K i : Nat)) ∧ W.cell? ⟨wo.heap.size, 1, none⟩ = some (slv ss) ∧ W.cell? ⟨g8, i * 10, none⟩ = some (.int .i64 r.kind) ∧ W.cell? ⟨g8, i * 10 + 1, none⟩ = some (.int .i64 r.txn) ∧ W.cell? ⟨g8, i * 10 + 2, none⟩ = some (.int .i64 r.page) ∧ W.cell? ⟨g8, i * 10 + 3, none⟩ = some (.int .i64 r.prev) ∧ W.cell? ⟨g8, i * 10 + 4, none⟩ = some (.int .i64 r.next) ∧ W.cell? ⟨g8, i * 10 + 5, none⟩ = some (.int .i64 r.key) ∧ W.cell? ⟨g8, i * 10 + 6, none⟩ = some (.bool r.had) ∧ W.cell? ⟨g8, i * 10 + 7, none⟩ = some (.bool r.has) ∧ W.cell? ⟨g8, i * 10 + 8, none⟩ = some (.int .i64 r.old) ∧ W.cell? ⟨g8, i * 10 + 9, none⟩ = some (.int .i64 r.new)) (first | exact HSK.out _ (Below.refl _ _).drew | exact HSK.out _ HBC.out | exact HSK.out _ ((Below.refl _ _).drew.alloc (Nat.le_refl _) _) | exact HSK.out _ (HBC.out.alloc HBC.out.size _) | exact HSK.out _ ((HBC.out.setCell (Nat.le_refl _) _).setCell (Nat.le_refl _) _))
                  ((go_at_call 18; go_loud (refine (rowsRedo_any _ (b9 + 1) _ rs K i r HRI.out HR.out.good (by first | exact HSO2.out.drew | exact HSO2.out.drew.alloc _)).mono ?_; rintro e w6 ⟨A6, s6, c6, rfl, ho, hb⟩; have HBC : Sc (Below wr.heap.size wr w6) := ⟨by first | exact (Below.refl wr.heap.size wr).drew.trans hb | exact ((Below.refl wr.heap.size wr).drew.alloc (Nat.le_refl _) _).trans (hb.mono (by simp))⟩; have HOC := Sc.mk ho; have HLC := Sc.mk hb.size; (first | (have hz6 : w6.heap[wr.heap.size]? = some (.cells #[.int .i64 0, .slice none 0 0] 29 (0, 0)) := (hb.block _ (by simp)).trans (heap_alloc_new wr.drew _); have z0 := (cells_page hz6).1; have z1 := (cells_page hz6).2; have v0 := unfrozen_at hz6 0; have v1 := unfrozen_at hz6 1; have HZ6 := Sc.mk hz6; clear hz6) | skip); clear ho hb)))
                all_goals
                  go_wp2_with fail
                  go_meet
                  case rel => first
                    | exact ⟨_, (A6, s6, c6), rfl, rfl, rfl, ⟨HBC.out.alloc HBC.out.size _⟩, ⟨QVar.made HOC.out (Nat.le_refl _) HBC.out.size⟩⟩
                    | exact ⟨_, (A6, s6, c6), rfl, rfl, rfl, ⟨(HBC.out.setCell (Nat.le_refl _) _).setCell (Nat.le_refl _) _⟩, ⟨QVar.filled HZ6.out HOC.out (by simp) (Nat.le_refl _)⟩⟩
              case rest =>
                obtain ⟨bg, sg, rfl, rfl, rfl, HBW, HQV⟩ := hcut
                obtain ⟨t0, t1⟩ := cells_page HQV.out.cells
                have HSC3 := Sc.mk (up HBW.out HSC2.out)
                obtain ⟨s0, s1⟩ := cells_page HSC3.out
                have v0 := unfrozen_at HSC3.out 0
                have v1 := unfrozen_at HSC3.out 1
                have HNS : Sc ((slv sg).ownBlock ≠ some wo.heap.size) := ⟨HQV.out.own.not (.inl (heap_lt HSC2.out))⟩
                have HA1 : Sc (Below wo.heap.size wo ((wc.setCell ⟨wo.heap.size, 0, none⟩ (.int .i64 (max K (i + 1) : Nat))).setCell ⟨wo.heap.size, 1, none⟩ (slv sg))) := ⟨dn_st2 (below_down HBL.out HBW.out) (Nat.le_refl _)⟩
                have HA2 : Sc (((wc.setCell ⟨wo.heap.size, 0, none⟩ (.int .i64 (max K (i + 1) : Nat))).setCell ⟨wo.heap.size, 1, none⟩ (slv sg)).heap[wo.heap.size]? = some (.cells #[.int .i64 (max K (i + 1) : Nat), slv sg] 29 (0, 0))) := ⟨by rw [set_one (set_one HSC3.out 0 _) 1 _]; rfl⟩
                have HA3 : Sc (Own enc2 2 56 (b9 + 1) ((wc.setCell ⟨wo.heap.size, 0, none⟩ (.int .i64 (max K (i + 1) : Nat))).setCell ⟨wo.heap.size, 1, none⟩ (slv sg)) (slv sg) (play rs (max K (i + 1)))) := ⟨(HQV.out.own.mono (by have := HR.out.base; have := HBL.out.size; omega)).st2 HNS.out⟩
                by_cases hKi : K ≤ i
                · have hd : decide (K ≤ i) = true := decide_eq_true hKi
                  have hKi2 : (K : Int) ≤ i := by omega
                  rw [hd]
                  clear hd
                  go_wp2
                  go_roundg (N - (i + 1))
                  case measure => omega
                  case rel => exact ⟨i + 1, sg, rfl, by go_num, by omega, Nat.le_refl _, HA1, HA2, HA3, HNS⟩
                · have hd : decide (K ≤ i) = false := decide_eq_false hKi
                  have hKi2 : ¬ (K : Int) ≤ i := by omega
                  rw [hd]
                  clear hd
                  go_wp2
                  go_roundg (N - (i + 1))
                  case measure => omega
                  case rel => exact ⟨i + 1, sg, rfl, by go_num, by omega, Nat.le_refl _, HA1, HA2, HA3, HNS⟩
            · obtain rfl : N = i := by omega
              have hmx : max K N = N := by omega
              rw [hmx] at HSC2 HSO2 s0
              have HP2 := Sc.mk (up HBL.out HR.out.page)
              obtain ⟨p0, p1⟩ := cells_page HP2.out
              have lp := heap_lt HP2.out
              have HPO := Sc.mk (HR.out.own.below HBL.out)
              clear hmx
              go_wp2_with fail
              refine (samePage_refl _ (b9 + 1) (b9 + 1) N _ _ (play rs N) HSO2.out HPO.out (by have := play_room (fun q hq => (HR.out.good q hq).2) N; omega)).mono ?_
              rintro e w9 ⟨rfl, hb9⟩
              have HB9 := Sc.mk (below_down (below_down HBR.out HBL.out) hb9)
              clear hb9
              go_wp2
              go_ret
              exact ⟨rfl, HB9.out⟩
end Go.Proofs.YtmafogagkjafbaaDoor
