/- The document's table of open transactions: Add, Begin. -/
import Derived.Test.YtoapihepdallbaaDoorFRTabT
import Derived.Test.YtoapihepdallbaaDoorPlainT2
import Derived.Deep.RegionHeld3
import Derived.Deep.QuietTactic
import Derived.BigQuiet
namespace Go.Proofs.YtoapihepdallbaaDoor
open Go.RowKit
variable {R : RestR}

theorem put_drop' {β : Type} {l : List (Int × β)} (hr : Rising l) (x : Int × β) : put (drop' l x.1) x = setIn l x := by
  cases hh : has l x.1 with
  | false => rw [drop'_no hh, setIn_no hh]
  | true =>
    obtain ⟨y, hy, hk⟩ := (has_at hr x.1).1 hh
    have hlt := (List.getElem?_eq_some_iff.1 hy).1
    have hd : l.drop (pos l x.1) = y :: l.drop (pos l x.1 + 1) := by
      obtain ⟨h1, h2⟩ := List.getElem?_eq_some_iff.1 hy
      rw [List.drop_eq_getElem_cons h1, h2]
    have hp : pos (drop' l x.1) x.1 = pos l x.1 := by
      rw [drop'_yes hh]
      have h1 : pos l x.1 = (l.take (pos l x.1) ++ l.drop (pos l x.1)).countP (fun z => decide (z.1 < x.1)) := by rw [List.take_append_drop]; rfl
      conv => rhs; rw [h1, hd, List.countP_append, List.countP_cons_of_neg (by simp; omega)]
      conv => lhs; unfold pos
      rw [List.countP_append]
      rfl
    have ht : (l.take (pos l x.1)).length = pos l x.1 := by rw [List.length_take]; omega
    rw [setIn_yes hh]
    unfold put
    rw [hp, drop'_yes hh, List.take_left' ht, List.drop_left' ht, List.set_eq_take_append_cons_drop, if_pos hlt]

/-- The table behind calls of Add's own, and the block that holds Add's argument. -/
def BoxT (R : RestR) (w w1 : World) (tb : Nat) (row : Option Nat) (l : List TX) (m : Int) (o : Obj) : Prop :=
  ∃ row1, RTabT R w1 tb row1 l m ∧ Kp (fun q => q = tb ∨ some q = row) w w1 ∧ (row1 = row ∨ ∀ q, row1 = some q → w.heap.size ≤ q) ∧ w1.heap[w.heap.size]? = (w.alloc o).heap[w.heap.size]? ∧ tb < w.heap.size ∧ row1 ≠ some w.heap.size
section
variable {w w1 w2 : World} {tb : Nat} {row : Option Nat} {l l' : List TX} {m m' : Int} {o : Obj}
theorem BoxT.start (h : RTabT R w tb row l m) (o : Obj) : BoxT R w (w.alloc o) tb row l m o := by
  refine ⟨row, h.bel ((Below.refl _ _).alloc (Nat.le_refl _) o), Kp.alloc _ _ _, .inl rfl, rfl, ?_, ?_⟩
  · obtain ⟨⟨v, hv, hc, hown⟩, _, _⟩ := h; exact heap_lt hc
  · obtain ⟨⟨v, hv, hc, hown⟩, _, _⟩ := h
    intro he
    have := (hown.lt _ (hv.trans he)).2
    omega
theorem BoxT.lt (h : BoxT R w w1 tb row l m o) : w.heap.size < w1.heap.size := by
  obtain ⟨_, _, _, _, hb, _, _⟩ := h
  rw [heap_alloc_new] at hb
  exact heap_lt hb
theorem BoxT.step {row1 : Option Nat} (_h1 : RTabT R w1 tb row1 l m) (hk : Kp (fun q => q = tb ∨ some q = row) w w1) (hat : row1 = row ∨ ∀ q, row1 = some q → w.heap.size ≤ q) (hb : w1.heap[w.heap.size]? = (w.alloc o).heap[w.heap.size]?) (htl : tb < w.heap.size) (hr1 : row1 ≠ some w.heap.size)
    (hl : RLeftT R tb row1 l' m' w1 w2) : BoxT R w w2 tb row l' m' o := by
  obtain ⟨row2, ht2, hk2, hat2⟩ := hl
  have hlt : w.heap.size < w1.heap.size := by rw [heap_alloc_new] at hb; exact heap_lt hb
  refine ⟨row2, ht2, hk.trans hk2 (fun q hq => ?_), ?_, ?_, htl, ?_⟩
  · rcases hq with hq | hq
    · exact .inl (.inl hq)
    · rcases hat with hat | hat
      · exact .inl (.inr (by rw [← hat]; exact hq))
      · exact .inr (hat q hq.symm)
  · rcases hat2 with h2 | hat2
    · rcases hat with hat | hat
      · exact .inl (h2.trans hat)
      · exact .inr (fun q hq => hat q (h2.symm.trans hq))
    · exact .inr (fun q hq => Nat.le_trans (Nat.le_of_lt hlt) (Nat.le_trans (Nat.le_refl _) (hat2 q hq)))
  · exact (hk2.block _ hlt (fun hq => hq.elim (fun h => by omega) (fun h => hr1 h.symm))).trans hb
  · rcases hat2 with h2 | hat2
    · rw [h2]; exact hr1
    · intro he; have := hat2 _ he; omega
theorem BoxT.bel (h : BoxT R w w1 tb row l m o) (hb : Below w1.heap.size w1 w2) : BoxT R w w2 tb row l m o := by
  have hlt := h.lt
  obtain ⟨row1, h1, hk, hat, hbo, htl, hr1⟩ := h
  exact ⟨row1, h1.bel hb, hk.trans (Kp.of_below hb (fun q => q = tb ∨ some q = row)) (fun q hq => .inl hq), hat, (hb.block _ hlt).trans hbo, htl, hr1⟩
end
section
variable (w w1 : World) (tb : Nat) (row : Option Nat) (l : List TX) (m : Int) (o : Obj) (p : Int)
theorem rSeen_box (h : BoxT R w w1 tb row l m o) :
    Calls Tryd.prog 55 #[.pointer (some ⟨tb, 1, none⟩), .int .i64 p] w1 fun e w' => e = .returned (.tuple #[]) ∧ BoxT R w w' tb row l (max m p) o := by
  obtain ⟨row1, h1, hk, hat, hbo, htl, hr1⟩ := h
  exact (rSeenT_any w1 tb row1 l m p h1).mono fun e w' ⟨he, hl⟩ => ⟨he, BoxT.step h1 hk hat hbo htl hr1 hl⟩
theorem rDrop_box (h : BoxT R w w1 tb row l m o) (hlen : l.length ≤ 1000000) :
    Calls Tryd.prog 58 #[.pointer (some ⟨tb, 1, none⟩), .int .i64 p] w1 fun e w' => e = .returned (.bool (has l p)) ∧ BoxT R w w' tb row (drop' l p) m o := by
  obtain ⟨row1, h1, hk, hat, hbo, htl, hr1⟩ := h
  exact (rDropT_any w1 tb row1 l m p h1 hlen).mono fun e w' ⟨he, hl⟩ => ⟨he, BoxT.step h1 hk hat hbo htl hr1 hl⟩
end
theorem below_drewNT {B : Nat} {w W : World} (h : Below B w W) (n : Nat) : Below B w (W.drewN n) := ⟨h.os, h.tape, h.output, h.size, h.block⟩
theorem box_cells {w1 : World} {b : Nat} {x : TX} (h : w1.heap[b]? = some (.cells (enc4 x).toArray 56 (0, 0))) :
    w1.cell? ⟨b, 0, none⟩ = some (.int .i64 x.1) ∧ w1.cell? ⟨b, 1, none⟩ = some (.int .i64 x.2.1) ∧ w1.cell? ⟨b, 2, none⟩ = some (.int .i64 x.2.2.1) ∧ w1.cell? ⟨b, 3, none⟩ = some (.int .i64 x.2.2.2) := by
  refine ⟨?_, ?_, ?_, ?_⟩ <;> simp [World.cell?, h]

set_option maxRecDepth 4000 in
set_option maxHeartbeats 8000000 in
theorem rAddT_any (w : World) (tb : Nat) (row : Option Nat) (l : List TX) (m : Int) (x : TX) (h : RTabT R w tb row l m) (hlen : l.length ≤ 1000000) :
    Calls Tryd.prog 53 #[.pointer (some ⟨tb, 1, none⟩), aggT x] w fun e w' => e = .returned (.tuple #[]) ∧ RLeftT R tb row (setIn l x) (max m x.1) w w' := by
  have HS0 : Sc (setIn l x = put (drop' l x.1) x) := ⟨(put_drop' h.rising x).symm⟩
  have HSR : Sc (Rising (setIn l x)) := ⟨setIn_rising h.rising x⟩
  have HB0 := Sc.mk (BoxT.start h (.cells (enc4 x).toArray 56))
  have HLen := Sc.mk hlen
  clear h hlen
  go_enter Tryd.func53, Tryd.ntmps53
  go_wp2_with fail
  refine (rSeen_box w _ tb row l m _ x.1 HB0.out).mono ?_
  rintro e w1 ⟨rfl, hb1⟩
  obtain ⟨q0, _, _, _⟩ := box_cells (by obtain ⟨_, _, _, _, hbo, _, _⟩ := hb1; rw [heap_alloc_new] at hbo; exact hbo)
  have HB1 := Sc.mk hb1
  clear hb1
  go_wp2_with fail
  refine (rDrop_box w w1 tb row l _ _ x.1 HB1.out HLen.out).mono ?_
  rintro e w2 ⟨rfl, hb2⟩
  clear q0
  have HL0 : Sc ((drop' l x.1).length ≤ 1000000) := ⟨by have := drop'_length l x.1; have := HLen.out; omega⟩
  generalize drop' l x.1 = L at hb2 HS0 HL0
  have HB2 := Sc.mk hb2
  obtain ⟨q0, q1, q2, q3⟩ := box_cells (by obtain ⟨_, _, _, _, hbo, _, _⟩ := hb2; rw [heap_alloc_new] at hbo; exact hbo)
  have HLT := Sc.mk hb2.lt
  obtain ⟨row1, ht1, hk1, hat1, hbo1, htl, hr1⟩ := hb2
  obtain ⟨⟨v, hv, hc, hown⟩, hap, hr⟩ := ht1
  have HTL := Sc.mk htl
  have HK1 := Sc.mk hk1
  have HR := Sc.mk hr
  obtain ⟨i0, hi, hz0, hz1, hz2⟩ := info_parts infoCloT
  obtain ⟨K, hK⟩ : ∃ K, pos L x.1 = K := ⟨_, rfl⟩
  have hKn : K ≤ L.length := by rw [← hK]; exact pos_le L x.1
  have HK := Sc.mk hK
  have HD : Sc (setIn l x = (L.take K ++ [x]) ++ L.drop K) := ⟨by
    rw [HS0.out]
    unfold put
    rw [hK, List.append_assoc]; rfl⟩
  clear hr hap hK hk1 hat1 hbo1 htl hr1
  have hwl : w.heap.size < w2.heap.size := HLT.out
  rcases hown.2 with ⟨rfl, h0⟩ | ⟨g, cap, cur, rfl, hb, hg, hn1, hcm1, hs, ht⟩
  · obtain rfl : L = [] := List.eq_nil_of_length_eq_zero h0
    obtain rfl : K = 0 := by simpa using hKn
    obtain ⟨hc1, _⟩ := cells_mid4 hc
    have HC := Sc.mk hc
    have HTk : Sc (Own enc4 4 56 0 w2 (.slice none 0 0) (([] : List TX).take 0)) := ⟨Own.nil⟩
    have HT : Sc ((([] : List TX).take 0).length = 0) := ⟨rfl⟩
    have HE : Sc ((([] : List TX).drop 0).length = 0) := ⟨rfl⟩
    clear hc hown h0 hv hKn
    go_wp2_with fail
    go_loopg [4] 0 (fun kx s4 wr => s4 = .int .i64 0 ∧ Sc (∃ nd, wr = w2.drewN nd))
    case atStart => exact ⟨rfl, ⟨0, rfl⟩⟩
    case round =>
      obtain ⟨rfl, HDn⟩ := hrel
      obtain ⟨nd, rfl⟩ := HDn.out
      go_wp2_with fail
      go_quiet (fail)
      go_wp2_with fail
      have SK : Sc (∀ W, Below w2.heap.size w2 W → (fun W => W.cell? ⟨tb, 1, none⟩ = some (.slice none 0 0) ∧ W.cell? ⟨w.heap.size, 0, none⟩ = some (.int .i64 x.1) ∧ W.cell? ⟨w.heap.size, 1, none⟩ = some (.int .i64 x.2.1) ∧ W.cell? ⟨w.heap.size, 2, none⟩ = some (.int .i64 x.2.2.1) ∧ W.cell? ⟨w.heap.size, 3, none⟩ = some (.int .i64 x.2.2.2)) W) := ⟨fun W hb => ⟨(hb.cell (World.block_lt_of_cell? _ _ hc1)).trans hc1, (hb.cell (World.block_lt_of_cell? _ _ q0)).trans q0, (hb.cell (World.block_lt_of_cell? _ _ q1)).trans q1, (hb.cell (World.block_lt_of_cell? _ _ q2)).trans q2, (hb.cell (World.block_lt_of_cell? _ _ q3)).trans q3⟩⟩
      generalize hwS : World.drewN _ _ = wS
      have HBS : Sc (Below w2.heap.size w2 wS) := ⟨by rw [← hwS]; first | exact below_drewNT (Below.refl _ _) _ | exact below_drewNT (below_drewNT (Below.refl _ _) _) _⟩
      clear hwS
      have HBD : Sc (Below w2.heap.size w2 wS.drew) := ⟨HBS.out.drew⟩
      have HBDA : Sc (∀ o, Below w2.heap.size w2 (wS.drew.alloc o)) := ⟨fun o => HBS.out.drew.alloc HBS.out.size o⟩
      have HTk2 : Sc (∀ W, Below w2.heap.size w2 W → Own enc4 4 56 0 W (.slice none 0 0) (([] : List TX).take 0)) := ⟨fun W hb => HTk.out.below hb⟩
      have HZA : Sc (∀ (W : World) (o : Obj), (W.alloc o).heap.size = W.heap.size + 1) := ⟨fun W o => by simp⟩
      have HLE : Sc (∀ (W : World) (o : Obj), W.heap.size ≤ (W.alloc o).heap.size) := ⟨fun W o => by simp⟩
      have HT1 : Sc ((([] : List TX).take 0 ++ [x]).length = 0 + 1) := ⟨by rw [List.length_append, HT.out] <;> rfl⟩
      have HF1 : Sc (flat enc4 (([] : List TX).take 0) ++ enc4 x = flat enc4 (([] : List TX).take 0 ++ [x])) := ⟨by rw [flat_append, flat_single]⟩
      have HA2 : Sc (0 + 1 ≤ maxLen) := ⟨by unfold maxLen; omega⟩
      have HA3 : Sc ((0 + 1) * 32 ≤ 140737488355328) := ⟨by omega⟩
      go_region_held3 (fun W => W.cell? ⟨tb, 1, none⟩ = some (.slice none 0 0) ∧ W.cell? ⟨w.heap.size, 0, none⟩ = some (.int .i64 x.1) ∧ W.cell? ⟨w.heap.size, 1, none⟩ = some (.int .i64 x.2.1) ∧ W.cell? ⟨w.heap.size, 2, none⟩ = some (.int .i64 x.2.2.1) ∧ W.cell? ⟨w.heap.size, 3, none⟩ = some (.int .i64 x.2.2.2)) (first | exact SK.out _ HBD.out | exact SK.out _ HBC.out | exact SK.out _ (HBDA.out _) | exact SK.out _ (HBC.out.alloc HBC.out.size _) | exact SK.out _ HBE.out)
        (first
          | (go_at_call 73; refine (txnCopy_any _ 0 _ (([] : List TX).take 0) (HTk2.out _ (by first | exact HBD.out | exact HBDA.out _)) (by rw [HT.out]; omega)).mono ?_; rintro e wc ⟨vc, rfl, ho, hbc⟩; have HBC : Sc (Below w2.heap.size w2 wc) := ⟨by first | exact HBD.out.trans (hbc.mono HBD.out.size) | exact (HBDA.out _).trans (hbc.mono (HBDA.out _).size)⟩; (first | (have hnb : wc.heap[wS.heap.size]? = some (.cells (enc4 x).toArray 56 (0, 0)) := (hbc.block _ (by simp)).trans (heap_alloc_new wS.drew _); have HNB := Sc.mk hnb; clear hnb) | skip); have HOC : Sc (Own enc4 4 56 w2.heap.size wc vc (([] : List TX).take 0)) := ⟨ho.mono (by first | exact HBD.out.size | exact (HBDA.out _).size)⟩; obtain ⟨Ac, cc, rfl, _, _⟩ := ho.slice; rw [HT.out] at HOC ⊢; clear ho hbc)
          | (have hoa := (HOC.out.rows HT.out).alloc (.cells (enc4 x).toArray 56); have hna := World.news_of_block (heap_alloc_new wc (.cells (enc4 x).toArray 56)); refine step_append_lies (wc.alloc (.cells (enc4 x).toArray 56)) (by rfl) (.tmp 42) (.tmp 44) 34 (by rfl) w2.heap.size 56 i0 (.agg #[.int .i64 0, .int .i64 0, .int .i64 0, .int .i64 0]) 4 32 Tryd.underlying34 hi hz0 hz1 hz2 rfl (by decide) _ 0 (flat enc4 (([] : List TX).take 0)) (by rfl) hoa ⟨wc.heap.size, 0, none⟩ 1 1 (enc4 x) (by rfl) (by rfl) hna (kind4.one x) Nat.one_pos HA2.out HA3.out (Nat.le_trans HBC.out.size (HLE.out _ _)) _ (HZA.out _ _) ?_; intro ge ce we h1 h2 h3 h4; have HBE : Sc (Below w2.heap.size w2 we) := ⟨(HBC.out.alloc HBC.out.size _).grown h2 (Nat.le_trans HBC.out.size (HLE.out _ _)) (fun k hk => (HOC.out.lt k hk).1)⟩; have HOE : Sc (Own enc4 4 56 w2.heap.size we (.slice (some ⟨ge, 0, none⟩) (0 + 1) ce) (([] : List TX).take 0 ++ [x])) := ⟨Own.of_rows h1 HT1.out HF1.out⟩; clear h1 h2 h3 h4 hoa hna)
          | (have hna := World.news_of_block HNB.out; refine step_append_lies wc (by rfl) (.tmp 42) (.tmp 44) 34 (by rfl) w2.heap.size 56 i0 (.agg #[.int .i64 0, .int .i64 0, .int .i64 0, .int .i64 0]) 4 32 Tryd.underlying34 hi hz0 hz1 hz2 rfl (by decide) _ 0 (flat enc4 (([] : List TX).take 0)) (by rfl) (HOC.out.rows HT.out) ⟨wS.heap.size, 0, none⟩ 1 1 (enc4 x) (by rfl) (by rfl) hna (kind4.one x) Nat.one_pos HA2.out HA3.out HBC.out.size _ rfl ?_; intro ge ce we h1 h2 h3 h4; have HBE : Sc (Below w2.heap.size w2 we) := ⟨HBC.out.grown h2 HBC.out.size (fun k hk => (HOC.out.lt k hk).1)⟩; have HOE : Sc (Own enc4 4 56 w2.heap.size we (.slice (some ⟨ge, 0, none⟩) (0 + 1) ce) (([] : List TX).take 0 ++ [x])) := ⟨Own.of_rows h1 HT1.out HF1.out⟩; clear h1 h2 h3 h4 hna))
      all_goals
        have hcwe := (HBE.out.block _ (heap_lt HC.out)).trans HC.out
        obtain ⟨hce, _⟩ := cells_mid4 hcwe
        have hfe := unfrozen_at hcwe 1
        have HCE := Sc.mk hcwe
        clear hcwe
        have HC4 := HCE
        have H2 := HBE
        have H1 : Sc (Own enc4 4 56 w2.heap.size we (.slice (some ⟨ge, 0, none⟩) (0 + 1) ce) (setIn l x)) := ⟨by rw [HD.out]; exact HOE.out⟩
        have hle3 : 0 + 1 ≤ ce := by obtain ⟨_, _, he, hc', _⟩ := HOE.out.slice; injection he with _ _ he; rw [he]; rw [HT1.out] at hc'; exact hc'
        go_wp2_with (at_builtin; go_loud (refine Lib.wpList_append_run _ rfl (.tmp 47) (.tmp 53) 34 34 rfl _ _ rfl rfl _ _ (run_append_none _ _ _ _ _ Tryd.underlying34 hi _ _ _ hle3) ?_))
        go_wp2
        go_end0
        refine ⟨rfl, ?_⟩
        exact RLeftT.stored HC4.out (H1.out.mono (Nat.zero_le _)) HSR.out HTL.out (HK1.out.trans (Kp.of_below H2.out (fun q => q = tb ∨ some q = row)) (fun q hq => .inl hq)) (fun q hq => Nat.le_trans (Nat.le_of_lt HLT.out) (H1.out.lt q hq).1)
  · obtain ⟨n, hn⟩ : ∃ n, L.length = n := ⟨_, rfl⟩
    rw [hn] at hown hc hKn hn1
    obtain ⟨hc1, _⟩ := cells_mid4 hc
    have HC := Sc.mk hc
    have HN := Sc.mk hn
    have HO := Sc.mk hown
    have hn6 : n ≤ 1000000 := by rw [← hn]; exact HL0.out
    have HTk := Sc.mk (hown.take kind4 hKn)
    have HT : Sc ((L.take K).length = K) := ⟨by rw [List.length_take, hn]; omega⟩
    have HE : Sc ((L.drop K).length = n - K) := ⟨by rw [List.length_drop, hn]⟩
    have HTl0 : Sc (∀ j u, (flat enc4 (L.drop K))[j]? = some u → w2.cell? ((⟨g, K * 4, none⟩ : Addr).add j) = some u) := ⟨hown.tail kind4 K⟩
    have n6 : (n : Int) ≤ cap := by omega
    have n7 : (K : Int) ≤ cap := by omega
    have n8 : (K : Int) ≤ n := by omega
    have n9 : K ≤ cap := by omega
    clear hown hc hv hn hs ht hb hg hcm1
    go_wp2_with fail
    go_loopg [4] K (fun kx s4 wr => ∃ j : Nat, s4 = .int .i64 j ∧ j ≤ K ∧ K - j ≤ kx ∧ Sc (∃ nd, wr = w2.drewN nd))
    case atStart => exact ⟨0, rfl, by omega, by omega, ⟨0, rfl⟩⟩
    case round =>
      obtain ⟨j, rfl, hj, hgk, HDn⟩ := hrel
      obtain ⟨nd, rfl⟩ := HDn.out
      by_cases hlt : j < K
      · obtain ⟨y, hy⟩ : ∃ y, L[j]? = some y := ⟨_, List.getElem?_eq_getElem (by rw [HN.out]; omega)⟩
        obtain ⟨d0, _⟩ := HO.out.cells4 hy
        have hp : y.1 < x.1 := (pos_below HR.out x.1 hy).1 (by rw [HK.out]; exact hlt)
        have hjn : (j : Int) < n := by omega
        clear hy
        go_wp2_with fail
        go_quiet (fail)
        go_wp2_with fail
        go_roundg (K - (j + 1))
        case measure => omega
        case rel => exact ⟨j + 1, by go_num, by omega, Nat.le_refl _, ⟨_, rfl⟩⟩
      · obtain rfl : j = K := by omega
        by_cases hlt2 : j < n
        · obtain ⟨y, hy⟩ : ∃ y, L[j]? = some y := ⟨_, List.getElem?_eq_getElem (by rw [HN.out]; omega)⟩
          obtain ⟨d0, _⟩ := HO.out.cells4 hy
          have hp : ¬ y.1 < x.1 := fun h => by have := (pos_below HR.out x.1 hy).2 h; have := HK.out; omega
          have hjn : (j : Int) < n := by omega
          have hcap : ¬ cap = j := by omega
          clear hy
          go_wp2_with fail
          go_quiet (fail)
          go_wp2_with fail
          have SK : Sc (∀ W, Below w2.heap.size w2 W → (fun W => W.cell? ⟨tb, 1, none⟩ = some (.slice (some ⟨g, 0, none⟩) n cap) ∧ W.cell? ⟨w.heap.size, 0, none⟩ = some (.int .i64 x.1) ∧ W.cell? ⟨w.heap.size, 1, none⟩ = some (.int .i64 x.2.1) ∧ W.cell? ⟨w.heap.size, 2, none⟩ = some (.int .i64 x.2.2.1) ∧ W.cell? ⟨w.heap.size, 3, none⟩ = some (.int .i64 x.2.2.2)) W) := ⟨fun W hb => ⟨(hb.cell (World.block_lt_of_cell? _ _ hc1)).trans hc1, (hb.cell (World.block_lt_of_cell? _ _ q0)).trans q0, (hb.cell (World.block_lt_of_cell? _ _ q1)).trans q1, (hb.cell (World.block_lt_of_cell? _ _ q2)).trans q2, (hb.cell (World.block_lt_of_cell? _ _ q3)).trans q3⟩⟩
          generalize hwS : World.drewN _ _ = wS
          have HBS : Sc (Below w2.heap.size w2 wS) := ⟨by rw [← hwS]; first | exact below_drewNT (Below.refl _ _) _ | exact below_drewNT (below_drewNT (Below.refl _ _) _) _⟩
          clear hwS
          have HBD : Sc (Below w2.heap.size w2 wS.drew) := ⟨HBS.out.drew⟩
          have HBDA : Sc (∀ o, Below w2.heap.size w2 (wS.drew.alloc o)) := ⟨fun o => HBS.out.drew.alloc HBS.out.size o⟩
          have HTk2 : Sc (∀ W, Below w2.heap.size w2 W → Own enc4 4 56 0 W (.slice (some ⟨g, 0, none⟩) j cap) (L.take j)) := ⟨fun W hb => HTk.out.below hb⟩
          have HZA : Sc (∀ (W : World) (o : Obj), (W.alloc o).heap.size = W.heap.size + 1) := ⟨fun W o => by simp⟩
          have HLE : Sc (∀ (W : World) (o : Obj), W.heap.size ≤ (W.alloc o).heap.size) := ⟨fun W o => by simp⟩
          have HT1 : Sc ((L.take j ++ [x]).length = j + 1) := ⟨by rw [List.length_append, HT.out] <;> rfl⟩
          have HF1 : Sc (flat enc4 (L.take j) ++ enc4 x = flat enc4 (L.take j ++ [x])) := ⟨by rw [flat_append, flat_single]⟩
          have HA2 : Sc (j + 1 ≤ maxLen) := ⟨by unfold maxLen; omega⟩
          have HA3 : Sc ((j + 1) * 32 ≤ 140737488355328) := ⟨by omega⟩
          go_region_held3 (fun W => W.cell? ⟨tb, 1, none⟩ = some (.slice (some ⟨g, 0, none⟩) n cap) ∧ W.cell? ⟨w.heap.size, 0, none⟩ = some (.int .i64 x.1) ∧ W.cell? ⟨w.heap.size, 1, none⟩ = some (.int .i64 x.2.1) ∧ W.cell? ⟨w.heap.size, 2, none⟩ = some (.int .i64 x.2.2.1) ∧ W.cell? ⟨w.heap.size, 3, none⟩ = some (.int .i64 x.2.2.2)) (first | exact SK.out _ HBD.out | exact SK.out _ HBC.out | exact SK.out _ (HBDA.out _) | exact SK.out _ (HBC.out.alloc HBC.out.size _) | exact SK.out _ HBE.out)
            (first
              | (go_at_call 73; refine (txnCopy_any _ 0 _ (L.take j) (HTk2.out _ (by first | exact HBD.out | exact HBDA.out _)) (by rw [HT.out]; omega)).mono ?_; rintro e wc ⟨vc, rfl, ho, hbc⟩; have HBC : Sc (Below w2.heap.size w2 wc) := ⟨by first | exact HBD.out.trans (hbc.mono HBD.out.size) | exact (HBDA.out _).trans (hbc.mono (HBDA.out _).size)⟩; (first | (have hnb : wc.heap[wS.heap.size]? = some (.cells (enc4 x).toArray 56 (0, 0)) := (hbc.block _ (by simp)).trans (heap_alloc_new wS.drew _); have HNB := Sc.mk hnb; clear hnb) | skip); have HOC : Sc (Own enc4 4 56 w2.heap.size wc vc (L.take j)) := ⟨ho.mono (by first | exact HBD.out.size | exact (HBDA.out _).size)⟩; obtain ⟨Ac, cc, rfl, _, _⟩ := ho.slice; rw [HT.out] at HOC ⊢; clear ho hbc)
              | (have hoa := (HOC.out.rows HT.out).alloc (.cells (enc4 x).toArray 56); have hna := World.news_of_block (heap_alloc_new wc (.cells (enc4 x).toArray 56)); refine step_append_lies (wc.alloc (.cells (enc4 x).toArray 56)) (by rfl) (.tmp 42) (.tmp 44) 34 (by rfl) w2.heap.size 56 i0 (.agg #[.int .i64 0, .int .i64 0, .int .i64 0, .int .i64 0]) 4 32 Tryd.underlying34 hi hz0 hz1 hz2 rfl (by decide) _ j (flat enc4 (L.take j)) (by rfl) hoa ⟨wc.heap.size, 0, none⟩ 1 1 (enc4 x) (by rfl) (by rfl) hna (kind4.one x) Nat.one_pos HA2.out HA3.out (Nat.le_trans HBC.out.size (HLE.out _ _)) _ (HZA.out _ _) ?_; intro ge ce we h1 h2 h3 h4; have HBE : Sc (Below w2.heap.size w2 we) := ⟨(HBC.out.alloc HBC.out.size _).grown h2 (Nat.le_trans HBC.out.size (HLE.out _ _)) (fun k hk => (HOC.out.lt k hk).1)⟩; have HOE : Sc (Own enc4 4 56 w2.heap.size we (.slice (some ⟨ge, 0, none⟩) (j + 1) ce) (L.take j ++ [x])) := ⟨Own.of_rows h1 HT1.out HF1.out⟩; clear h1 h2 h3 h4 hoa hna)
              | (have hna := World.news_of_block HNB.out; refine step_append_lies wc (by rfl) (.tmp 42) (.tmp 44) 34 (by rfl) w2.heap.size 56 i0 (.agg #[.int .i64 0, .int .i64 0, .int .i64 0, .int .i64 0]) 4 32 Tryd.underlying34 hi hz0 hz1 hz2 rfl (by decide) _ j (flat enc4 (L.take j)) (by rfl) (HOC.out.rows HT.out) ⟨wS.heap.size, 0, none⟩ 1 1 (enc4 x) (by rfl) (by rfl) hna (kind4.one x) Nat.one_pos HA2.out HA3.out HBC.out.size _ rfl ?_; intro ge ce we h1 h2 h3 h4; have HBE : Sc (Below w2.heap.size w2 we) := ⟨HBC.out.grown h2 HBC.out.size (fun k hk => (HOC.out.lt k hk).1)⟩; have HOE : Sc (Own enc4 4 56 w2.heap.size we (.slice (some ⟨ge, 0, none⟩) (j + 1) ce) (L.take j ++ [x])) := ⟨Own.of_rows h1 HT1.out HF1.out⟩; clear h1 h2 h3 h4 hna))
          all_goals
            have hcwe := (HBE.out.block _ (heap_lt HC.out)).trans HC.out
            obtain ⟨hce, _⟩ := cells_mid4 hcwe
            have hfe := unfrozen_at hcwe 1
            have HCE := Sc.mk hcwe
            clear hcwe
            go_wp2_with (at_builtin; go_loud (refine wpList_append_own_at _ rfl (.tmp 47) (.tmp 53) 34 rfl w2.heap.size 56 i0 (.agg #[.int .i64 0, .int .i64 0, .int .i64 0, .int .i64 0]) 4 32 Tryd.underlying34 hi hz0 hz1 hz2 rfl (by decide) _ (j + 1) (flat enc4 (L.take j ++ [x])) rfl (HOE.out.rows HT1.out) ⟨g, j * 4, none⟩ (n - j) (cap - j) (flat enc4 (L.drop j)) rfl ?c1 (cells_below HBE.out HTl0.out) (kind4.flat_one _) ?c3 ?c4 ?c5 ?_))
            case c1 => rw [kind4.flat_length, HE.out] <;> omega
            case c3 => unfold maxLen; omega
            case c4 => omega
            case c5 => exact HBE.out.size
            intro v4 w4 h1 h2 h3 h4
            have H1 : Sc (Own enc4 4 56 w2.heap.size w4 v4 (setIn l x)) := ⟨Own.of_rows h1 (by rw [HD.out, List.length_append, HT1.out, HE.out] <;> omega) (by rw [HD.out]; simp only [flat_append])⟩
            have H2 : Sc (Below w2.heap.size w2 w4) := ⟨HBE.out.grown h2 HBE.out.size (fun k hk => (HOE.out.lt k hk).1)⟩
            have hcw4 := (H2.out.block _ (heap_lt HC.out)).trans HC.out
            obtain ⟨hc4, _⟩ := cells_mid4 hcw4
            have hf4 := unfrozen_at hcw4 1
            have HC4 := Sc.mk hcw4
            obtain ⟨A4, n4, c4, rfl⟩ := H1.out.slice3
            clear h1 h2 h3 h4 hcw4
            go_wp2
            go_end0
            refine ⟨rfl, ?_⟩
            exact RLeftT.stored HC4.out (H1.out.mono (Nat.zero_le _)) HSR.out HTL.out (HK1.out.trans (Kp.of_below H2.out (fun q => q = tb ∨ some q = row)) (fun q hq => .inl hq)) (fun q hq => Nat.le_trans (Nat.le_of_lt HLT.out) (H1.out.lt q hq).1)
        · obtain rfl : j = n := by omega
          have hz : L.drop j = [] := List.drop_eq_nil_of_le (by rw [HN.out]; exact Nat.le_refl _)
          by_cases hcap : cap = j
          · subst hcap
            have HTl : Sc (∀ t u, (flat enc4 (L.drop cap))[t]? = some u → w2.cell? ((⟨g, 0, none⟩ : Addr).add t) = some u) := ⟨fun t u ht => by rw [hz] at ht; cases ht⟩
            clear hz HTl0
            go_wp2_with fail
            go_quiet (fail)
            go_wp2_with fail
            have SK : Sc (∀ W, Below w2.heap.size w2 W → (fun W => W.cell? ⟨tb, 1, none⟩ = some (.slice (some ⟨g, 0, none⟩) cap cap) ∧ W.cell? ⟨w.heap.size, 0, none⟩ = some (.int .i64 x.1) ∧ W.cell? ⟨w.heap.size, 1, none⟩ = some (.int .i64 x.2.1) ∧ W.cell? ⟨w.heap.size, 2, none⟩ = some (.int .i64 x.2.2.1) ∧ W.cell? ⟨w.heap.size, 3, none⟩ = some (.int .i64 x.2.2.2)) W) := ⟨fun W hb => ⟨(hb.cell (World.block_lt_of_cell? _ _ hc1)).trans hc1, (hb.cell (World.block_lt_of_cell? _ _ q0)).trans q0, (hb.cell (World.block_lt_of_cell? _ _ q1)).trans q1, (hb.cell (World.block_lt_of_cell? _ _ q2)).trans q2, (hb.cell (World.block_lt_of_cell? _ _ q3)).trans q3⟩⟩
            generalize hwS : World.drewN _ _ = wS
            have HBS : Sc (Below w2.heap.size w2 wS) := ⟨by rw [← hwS]; first | exact below_drewNT (Below.refl _ _) _ | exact below_drewNT (below_drewNT (Below.refl _ _) _) _⟩
            clear hwS
            have HBD : Sc (Below w2.heap.size w2 wS.drew) := ⟨HBS.out.drew⟩
            have HBDA : Sc (∀ o, Below w2.heap.size w2 (wS.drew.alloc o)) := ⟨fun o => HBS.out.drew.alloc HBS.out.size o⟩
            have HTk2 : Sc (∀ W, Below w2.heap.size w2 W → Own enc4 4 56 0 W (.slice (some ⟨g, 0, none⟩) cap cap) (L.take cap)) := ⟨fun W hb => HTk.out.below hb⟩
            have HZA : Sc (∀ (W : World) (o : Obj), (W.alloc o).heap.size = W.heap.size + 1) := ⟨fun W o => by simp⟩
            have HLE : Sc (∀ (W : World) (o : Obj), W.heap.size ≤ (W.alloc o).heap.size) := ⟨fun W o => by simp⟩
            have HT1 : Sc ((L.take cap ++ [x]).length = cap + 1) := ⟨by rw [List.length_append, HT.out] <;> rfl⟩
            have HF1 : Sc (flat enc4 (L.take cap) ++ enc4 x = flat enc4 (L.take cap ++ [x])) := ⟨by rw [flat_append, flat_single]⟩
            have HA2 : Sc (cap + 1 ≤ maxLen) := ⟨by unfold maxLen; omega⟩
            have HA3 : Sc ((cap + 1) * 32 ≤ 140737488355328) := ⟨by omega⟩
            go_region_held3 (fun W => W.cell? ⟨tb, 1, none⟩ = some (.slice (some ⟨g, 0, none⟩) cap cap) ∧ W.cell? ⟨w.heap.size, 0, none⟩ = some (.int .i64 x.1) ∧ W.cell? ⟨w.heap.size, 1, none⟩ = some (.int .i64 x.2.1) ∧ W.cell? ⟨w.heap.size, 2, none⟩ = some (.int .i64 x.2.2.1) ∧ W.cell? ⟨w.heap.size, 3, none⟩ = some (.int .i64 x.2.2.2)) (first | exact SK.out _ HBD.out | exact SK.out _ HBC.out | exact SK.out _ (HBDA.out _) | exact SK.out _ (HBC.out.alloc HBC.out.size _) | exact SK.out _ HBE.out)
              (first
                | (go_at_call 73; refine (txnCopy_any _ 0 _ (L.take cap) (HTk2.out _ (by first | exact HBD.out | exact HBDA.out _)) (by rw [HT.out]; omega)).mono ?_; rintro e wc ⟨vc, rfl, ho, hbc⟩; have HBC : Sc (Below w2.heap.size w2 wc) := ⟨by first | exact HBD.out.trans (hbc.mono HBD.out.size) | exact (HBDA.out _).trans (hbc.mono (HBDA.out _).size)⟩; (first | (have hnb : wc.heap[wS.heap.size]? = some (.cells (enc4 x).toArray 56 (0, 0)) := (hbc.block _ (by simp)).trans (heap_alloc_new wS.drew _); have HNB := Sc.mk hnb; clear hnb) | skip); have HOC : Sc (Own enc4 4 56 w2.heap.size wc vc (L.take cap)) := ⟨ho.mono (by first | exact HBD.out.size | exact (HBDA.out _).size)⟩; obtain ⟨Ac, cc, rfl, _, _⟩ := ho.slice; rw [HT.out] at HOC ⊢; clear ho hbc)
                | (have hoa := (HOC.out.rows HT.out).alloc (.cells (enc4 x).toArray 56); have hna := World.news_of_block (heap_alloc_new wc (.cells (enc4 x).toArray 56)); refine step_append_lies (wc.alloc (.cells (enc4 x).toArray 56)) (by rfl) (.tmp 42) (.tmp 44) 34 (by rfl) w2.heap.size 56 i0 (.agg #[.int .i64 0, .int .i64 0, .int .i64 0, .int .i64 0]) 4 32 Tryd.underlying34 hi hz0 hz1 hz2 rfl (by decide) _ cap (flat enc4 (L.take cap)) (by rfl) hoa ⟨wc.heap.size, 0, none⟩ 1 1 (enc4 x) (by rfl) (by rfl) hna (kind4.one x) Nat.one_pos HA2.out HA3.out (Nat.le_trans HBC.out.size (HLE.out _ _)) _ (HZA.out _ _) ?_; intro ge ce we h1 h2 h3 h4; have HBE : Sc (Below w2.heap.size w2 we) := ⟨(HBC.out.alloc HBC.out.size _).grown h2 (Nat.le_trans HBC.out.size (HLE.out _ _)) (fun k hk => (HOC.out.lt k hk).1)⟩; have HOE : Sc (Own enc4 4 56 w2.heap.size we (.slice (some ⟨ge, 0, none⟩) (cap + 1) ce) (L.take cap ++ [x])) := ⟨Own.of_rows h1 HT1.out HF1.out⟩; clear h1 h2 h3 h4 hoa hna)
                | (have hna := World.news_of_block HNB.out; refine step_append_lies wc (by rfl) (.tmp 42) (.tmp 44) 34 (by rfl) w2.heap.size 56 i0 (.agg #[.int .i64 0, .int .i64 0, .int .i64 0, .int .i64 0]) 4 32 Tryd.underlying34 hi hz0 hz1 hz2 rfl (by decide) _ cap (flat enc4 (L.take cap)) (by rfl) (HOC.out.rows HT.out) ⟨wS.heap.size, 0, none⟩ 1 1 (enc4 x) (by rfl) (by rfl) hna (kind4.one x) Nat.one_pos HA2.out HA3.out HBC.out.size _ rfl ?_; intro ge ce we h1 h2 h3 h4; have HBE : Sc (Below w2.heap.size w2 we) := ⟨HBC.out.grown h2 HBC.out.size (fun k hk => (HOC.out.lt k hk).1)⟩; have HOE : Sc (Own enc4 4 56 w2.heap.size we (.slice (some ⟨ge, 0, none⟩) (cap + 1) ce) (L.take cap ++ [x])) := ⟨Own.of_rows h1 HT1.out HF1.out⟩; clear h1 h2 h3 h4 hna))
            all_goals
              have hcwe := (HBE.out.block _ (heap_lt HC.out)).trans HC.out
              obtain ⟨hce, _⟩ := cells_mid4 hcwe
              have hfe := unfrozen_at hcwe 1
              have HCE := Sc.mk hcwe
              clear hcwe
              go_wp2_with (at_builtin; go_loud (refine wpList_append_own_at _ rfl (.tmp 47) (.tmp 53) 34 rfl w2.heap.size 56 i0 (.agg #[.int .i64 0, .int .i64 0, .int .i64 0, .int .i64 0]) 4 32 Tryd.underlying34 hi hz0 hz1 hz2 rfl (by decide) _ (cap + 1) (flat enc4 (L.take cap ++ [x])) rfl (HOE.out.rows HT1.out) ⟨g, 0, none⟩ 0 0 (flat enc4 (L.drop cap)) rfl ?c1 (cells_below HBE.out HTl.out) (kind4.flat_one _) ?c3 ?c4 ?c5 ?_))
              case c1 => rw [kind4.flat_length, HE.out] <;> omega
              case c3 => unfold maxLen; omega
              case c4 => omega
              case c5 => exact HBE.out.size
              intro v4 w4 h1 h2 h3 h4
              have H1 : Sc (Own enc4 4 56 w2.heap.size w4 v4 (setIn l x)) := ⟨Own.of_rows h1 (by rw [HD.out, List.length_append, HT1.out, HE.out] <;> omega) (by rw [HD.out]; simp only [flat_append])⟩
              have H2 : Sc (Below w2.heap.size w2 w4) := ⟨HBE.out.grown h2 HBE.out.size (fun k hk => (HOE.out.lt k hk).1)⟩
              have hcw4 := (H2.out.block _ (heap_lt HC.out)).trans HC.out
              obtain ⟨hc4, _⟩ := cells_mid4 hcw4
              have hf4 := unfrozen_at hcw4 1
              have HC4 := Sc.mk hcw4
              obtain ⟨A4, n4, c4, rfl⟩ := H1.out.slice3
              clear h1 h2 h3 h4 hcw4
              go_wp2
              go_end0
              refine ⟨rfl, ?_⟩
              exact RLeftT.stored HC4.out (H1.out.mono (Nat.zero_le _)) HSR.out HTL.out (HK1.out.trans (Kp.of_below H2.out (fun q => q = tb ∨ some q = row)) (fun q hq => .inl hq)) (fun q hq => Nat.le_trans (Nat.le_of_lt HLT.out) (H1.out.lt q hq).1)
          · have HTl : Sc (∀ t u, (flat enc4 (L.drop j))[t]? = some u → w2.cell? ((⟨g, j * 4, none⟩ : Addr).add t) = some u) := ⟨fun t u ht => by rw [hz] at ht; cases ht⟩
            clear hz
            go_wp2_with fail
            go_quiet (fail)
            go_wp2_with fail
            have SK : Sc (∀ W, Below w2.heap.size w2 W → (fun W => W.cell? ⟨tb, 1, none⟩ = some (.slice (some ⟨g, 0, none⟩) j cap) ∧ W.cell? ⟨w.heap.size, 0, none⟩ = some (.int .i64 x.1) ∧ W.cell? ⟨w.heap.size, 1, none⟩ = some (.int .i64 x.2.1) ∧ W.cell? ⟨w.heap.size, 2, none⟩ = some (.int .i64 x.2.2.1) ∧ W.cell? ⟨w.heap.size, 3, none⟩ = some (.int .i64 x.2.2.2)) W) := ⟨fun W hb => ⟨(hb.cell (World.block_lt_of_cell? _ _ hc1)).trans hc1, (hb.cell (World.block_lt_of_cell? _ _ q0)).trans q0, (hb.cell (World.block_lt_of_cell? _ _ q1)).trans q1, (hb.cell (World.block_lt_of_cell? _ _ q2)).trans q2, (hb.cell (World.block_lt_of_cell? _ _ q3)).trans q3⟩⟩
            generalize hwS : World.drewN _ _ = wS
            have HBS : Sc (Below w2.heap.size w2 wS) := ⟨by rw [← hwS]; first | exact below_drewNT (Below.refl _ _) _ | exact below_drewNT (below_drewNT (Below.refl _ _) _) _⟩
            clear hwS
            have HBD : Sc (Below w2.heap.size w2 wS.drew) := ⟨HBS.out.drew⟩
            have HBDA : Sc (∀ o, Below w2.heap.size w2 (wS.drew.alloc o)) := ⟨fun o => HBS.out.drew.alloc HBS.out.size o⟩
            have HTk2 : Sc (∀ W, Below w2.heap.size w2 W → Own enc4 4 56 0 W (.slice (some ⟨g, 0, none⟩) j cap) (L.take j)) := ⟨fun W hb => HTk.out.below hb⟩
            have HZA : Sc (∀ (W : World) (o : Obj), (W.alloc o).heap.size = W.heap.size + 1) := ⟨fun W o => by simp⟩
            have HLE : Sc (∀ (W : World) (o : Obj), W.heap.size ≤ (W.alloc o).heap.size) := ⟨fun W o => by simp⟩
            have HT1 : Sc ((L.take j ++ [x]).length = j + 1) := ⟨by rw [List.length_append, HT.out] <;> rfl⟩
            have HF1 : Sc (flat enc4 (L.take j) ++ enc4 x = flat enc4 (L.take j ++ [x])) := ⟨by rw [flat_append, flat_single]⟩
            have HA2 : Sc (j + 1 ≤ maxLen) := ⟨by unfold maxLen; omega⟩
            have HA3 : Sc ((j + 1) * 32 ≤ 140737488355328) := ⟨by omega⟩
            go_region_held3 (fun W => W.cell? ⟨tb, 1, none⟩ = some (.slice (some ⟨g, 0, none⟩) j cap) ∧ W.cell? ⟨w.heap.size, 0, none⟩ = some (.int .i64 x.1) ∧ W.cell? ⟨w.heap.size, 1, none⟩ = some (.int .i64 x.2.1) ∧ W.cell? ⟨w.heap.size, 2, none⟩ = some (.int .i64 x.2.2.1) ∧ W.cell? ⟨w.heap.size, 3, none⟩ = some (.int .i64 x.2.2.2)) (first | exact SK.out _ HBD.out | exact SK.out _ HBC.out | exact SK.out _ (HBDA.out _) | exact SK.out _ (HBC.out.alloc HBC.out.size _) | exact SK.out _ HBE.out)
              (first
                | (go_at_call 73; refine (txnCopy_any _ 0 _ (L.take j) (HTk2.out _ (by first | exact HBD.out | exact HBDA.out _)) (by rw [HT.out]; omega)).mono ?_; rintro e wc ⟨vc, rfl, ho, hbc⟩; have HBC : Sc (Below w2.heap.size w2 wc) := ⟨by first | exact HBD.out.trans (hbc.mono HBD.out.size) | exact (HBDA.out _).trans (hbc.mono (HBDA.out _).size)⟩; (first | (have hnb : wc.heap[wS.heap.size]? = some (.cells (enc4 x).toArray 56 (0, 0)) := (hbc.block _ (by simp)).trans (heap_alloc_new wS.drew _); have HNB := Sc.mk hnb; clear hnb) | skip); have HOC : Sc (Own enc4 4 56 w2.heap.size wc vc (L.take j)) := ⟨ho.mono (by first | exact HBD.out.size | exact (HBDA.out _).size)⟩; obtain ⟨Ac, cc, rfl, _, _⟩ := ho.slice; rw [HT.out] at HOC ⊢; clear ho hbc)
                | (have hoa := (HOC.out.rows HT.out).alloc (.cells (enc4 x).toArray 56); have hna := World.news_of_block (heap_alloc_new wc (.cells (enc4 x).toArray 56)); refine step_append_lies (wc.alloc (.cells (enc4 x).toArray 56)) (by rfl) (.tmp 42) (.tmp 44) 34 (by rfl) w2.heap.size 56 i0 (.agg #[.int .i64 0, .int .i64 0, .int .i64 0, .int .i64 0]) 4 32 Tryd.underlying34 hi hz0 hz1 hz2 rfl (by decide) _ j (flat enc4 (L.take j)) (by rfl) hoa ⟨wc.heap.size, 0, none⟩ 1 1 (enc4 x) (by rfl) (by rfl) hna (kind4.one x) Nat.one_pos HA2.out HA3.out (Nat.le_trans HBC.out.size (HLE.out _ _)) _ (HZA.out _ _) ?_; intro ge ce we h1 h2 h3 h4; have HBE : Sc (Below w2.heap.size w2 we) := ⟨(HBC.out.alloc HBC.out.size _).grown h2 (Nat.le_trans HBC.out.size (HLE.out _ _)) (fun k hk => (HOC.out.lt k hk).1)⟩; have HOE : Sc (Own enc4 4 56 w2.heap.size we (.slice (some ⟨ge, 0, none⟩) (j + 1) ce) (L.take j ++ [x])) := ⟨Own.of_rows h1 HT1.out HF1.out⟩; clear h1 h2 h3 h4 hoa hna)
                | (have hna := World.news_of_block HNB.out; refine step_append_lies wc (by rfl) (.tmp 42) (.tmp 44) 34 (by rfl) w2.heap.size 56 i0 (.agg #[.int .i64 0, .int .i64 0, .int .i64 0, .int .i64 0]) 4 32 Tryd.underlying34 hi hz0 hz1 hz2 rfl (by decide) _ j (flat enc4 (L.take j)) (by rfl) (HOC.out.rows HT.out) ⟨wS.heap.size, 0, none⟩ 1 1 (enc4 x) (by rfl) (by rfl) hna (kind4.one x) Nat.one_pos HA2.out HA3.out HBC.out.size _ rfl ?_; intro ge ce we h1 h2 h3 h4; have HBE : Sc (Below w2.heap.size w2 we) := ⟨HBC.out.grown h2 HBC.out.size (fun k hk => (HOC.out.lt k hk).1)⟩; have HOE : Sc (Own enc4 4 56 w2.heap.size we (.slice (some ⟨ge, 0, none⟩) (j + 1) ce) (L.take j ++ [x])) := ⟨Own.of_rows h1 HT1.out HF1.out⟩; clear h1 h2 h3 h4 hna))
            all_goals
              have hcwe := (HBE.out.block _ (heap_lt HC.out)).trans HC.out
              obtain ⟨hce, _⟩ := cells_mid4 hcwe
              have hfe := unfrozen_at hcwe 1
              have HCE := Sc.mk hcwe
              clear hcwe
              go_wp2_with (at_builtin; go_loud (refine wpList_append_own_at _ rfl (.tmp 47) (.tmp 53) 34 rfl w2.heap.size 56 i0 (.agg #[.int .i64 0, .int .i64 0, .int .i64 0, .int .i64 0]) 4 32 Tryd.underlying34 hi hz0 hz1 hz2 rfl (by decide) _ (j + 1) (flat enc4 (L.take j ++ [x])) rfl (HOE.out.rows HT1.out) ⟨g, j * 4, none⟩ 0 (cap - j) (flat enc4 (L.drop j)) rfl ?c1 (cells_below HBE.out HTl.out) (kind4.flat_one _) ?c3 ?c4 ?c5 ?_))
              case c1 => rw [kind4.flat_length, HE.out] <;> omega
              case c3 => unfold maxLen; omega
              case c4 => omega
              case c5 => exact HBE.out.size
              intro v4 w4 h1 h2 h3 h4
              have H1 : Sc (Own enc4 4 56 w2.heap.size w4 v4 (setIn l x)) := ⟨Own.of_rows h1 (by rw [HD.out, List.length_append, HT1.out, HE.out] <;> omega) (by rw [HD.out]; simp only [flat_append])⟩
              have H2 : Sc (Below w2.heap.size w2 w4) := ⟨HBE.out.grown h2 HBE.out.size (fun k hk => (HOE.out.lt k hk).1)⟩
              have hcw4 := (H2.out.block _ (heap_lt HC.out)).trans HC.out
              obtain ⟨hc4, _⟩ := cells_mid4 hcw4
              have hf4 := unfrozen_at hcw4 1
              have HC4 := Sc.mk hcw4
              obtain ⟨A4, n4, c4, rfl⟩ := H1.out.slice3
              clear h1 h2 h3 h4 hcw4
              go_wp2
              go_end0
              refine ⟨rfl, ?_⟩
              exact RLeftT.stored HC4.out (H1.out.mono (Nat.zero_le _)) HSR.out HTL.out (HK1.out.trans (Kp.of_below H2.out (fun q => q = tb ∨ some q = row)) (fun q hq => .inl hq)) (fun q hq => Nat.le_trans (Nat.le_of_lt HLT.out) (H1.out.lt q hq).1)

end Go.Proofs.YtoapihepdallbaaDoor
