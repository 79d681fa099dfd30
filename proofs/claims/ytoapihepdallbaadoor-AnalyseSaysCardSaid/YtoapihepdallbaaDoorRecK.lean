/- Whether a record may be: rec.Check. -/
import Derived.Test.YtoapihepdallbaaDoorRecC
namespace Go.Proofs.YtoapihepdallbaaDoor
open Go.RowKit

theorem RangeE.get {W : World} {f : Nat → Addr} (h : Sents W f) : W.cell? ⟨2, 0, none⟩ = some (errV (f 1)) := h.cell 1 (by omega)

set_option maxRecDepth 4000 in
set_option maxHeartbeats 2000000 in
theorem recCheck_any (f : Nat → Addr) (w : World) (r : RecD) (hS : Sents w f) : Calls Tryd.prog 43 #[aggR r] w fun e w' => e = .returned (if goodR r = true then .nilIface else errV (f 1)) ∧ Below w.heap.size w w' := by
  obtain ⟨res, hres⟩ : ∃ res, (if goodR r = true then Value.nilIface else errV (f 1)) = res := ⟨_, rfl⟩
  rw [hres]
  have HRES := Sc.mk hres
  clear hres
  have hz := heap_alloc_new w (.cells (cellsR r) 51)
  obtain ⟨w1, hw1⟩ : ∃ w1, w.alloc (.cells (cellsR r) 51) = w1 := ⟨_, rfl⟩
  have HB1 : Sc (Below w.heap.size w w1) := ⟨hw1 ▸ dn_alloc (Below.refl _ _) _⟩
  obtain ⟨b1, hb1⟩ : ∃ b, w.heap.size = b := ⟨_, rfl⟩
  rw [hw1, hb1] at hz
  have HZ := Sc.mk hz
  have HS1 := Sc.mk (hS.bel HB1.out)
  have HG : Sc (goodR r = (inR r.kind 1 10 && inR r.txn (min (txnR r) 1) (txnR r) && inR r.page (min (pageR r) 1) (pageR r) && prevR r && nextR r && keyR r && valuesR r)) := ⟨rfl⟩
  obtain ⟨t, ht⟩ : ∃ t, txnR r = t := ⟨_, rfl⟩
  obtain ⟨p, hp⟩ : ∃ p, pageR r = p := ⟨_, rfl⟩
  rw [ht, hp] at HG
  obtain ⟨g1, hg1⟩ : ∃ g, inR r.kind 1 10 = g := ⟨_, rfl⟩
  obtain ⟨g2, hg2⟩ : ∃ g, inR r.txn (min t 1) t = g := ⟨_, rfl⟩
  obtain ⟨g3, hg3⟩ : ∃ g, inR r.page (min p 1) p = g := ⟨_, rfl⟩
  obtain ⟨g4, hg4⟩ : ∃ g, prevR r = g := ⟨_, rfl⟩
  obtain ⟨g5, hg5⟩ : ∃ g, nextR r = g := ⟨_, rfl⟩
  obtain ⟨g6, hg6⟩ : ∃ g, keyR r = g := ⟨_, rfl⟩
  obtain ⟨g7, hg7⟩ : ∃ g, valuesR r = g := ⟨_, rfl⟩
  rw [hg1, hg2, hg3, hg4, hg5, hg6, hg7] at HG
  have HH := Sc.mk (And.intro hg1 (And.intro hg2 (And.intro hg3 (And.intro hg4 (And.intro hg5 (And.intro hg6 hg7))))))
  obtain ⟨q1, hq1⟩ : ∃ q : Bool, (q = true ↔ ((1 ≤ r.kind ∧ r.kind ≤ 6) ∨ r.kind = 8)) := ⟨decide _, decide_eq_true_iff⟩
  obtain ⟨q2, hq2⟩ : ∃ q : Bool, (q = true ↔ (r.kind = 2 ∨ r.kind = 3 ∨ r.kind = 9)) := ⟨decide _, decide_eq_true_iff⟩
  have HT : Sc (t = if q1 = true then 60000 else 0) := ⟨by
    rw [← ht]; unfold txnR
    by_cases h : (1 ≤ r.kind ∧ r.kind ≤ 6) ∨ r.kind = 8
    · rw [if_pos h, if_pos (hq1.2 h)]
    · rw [if_neg h, if_neg (fun h' => h (hq1.1 h'))]⟩
  have HP : Sc (p = if q2 = true then 32 else 0) := ⟨by
    rw [← hp]; unfold pageR
    by_cases h : r.kind = 2 ∨ r.kind = 3 ∨ r.kind = 9
    · rw [if_pos h, if_pos (hq2.2 h)]
    · rw [if_neg h, if_neg (fun h' => h (hq2.1 h'))]⟩
  have HQ1 := Sc.mk hq1
  have HQ2 := Sc.mk hq2
  have hge := RangeE.get HS1.out
  obtain ⟨c0, c1, c2, c3, c4, c5, c6, c7, c8, c9⟩ := cells_recs HZ.out
  clear hS hz ht hp hg1 hg2 hg3 hg4 hg5 hg6 hg7 hq1 hq2
  go_enter Tryd.func43, Tryd.ntmps43
  go_upto_region 2 with fail
  clear hw1 hb1
  go_cut [12] from 5 to 11 (fun s12 wx => s12 = .bool q1 ∧ wx = w1)
  case first =>
    go_wp2_with fail
    refine (in_any _ _ _ _).mono ?_
    rintro e w' ⟨rfl, rfl⟩
    cases hi : inR r.kind 1 6 with
    | true =>
      have HI : Sc (q1 = true) := ⟨HQ1.out.2 (.inl (by unfold inR at hi; simpa using hi))⟩
      clear hi
      go_wp2_with fail
      go_meet
      case rel => exact ⟨by rw [HI.out], rfl⟩
    | false =>
      have hne : ¬ (1 ≤ r.kind ∧ r.kind ≤ 6) := fun h => by unfold inR at hi; simp [h.1, h.2] at hi
      by_cases h8 : r.kind = 8
      · have h8' : (r.kind == 8) = true := by simp [h8]
        have HI : Sc (q1 = true) := ⟨HQ1.out.2 (.inr h8)⟩
        clear hi hne h8
        go_wp2_with fail
        go_meet
        case rel => exact ⟨by rw [HI.out], rfl⟩
      · have h8' : (r.kind == 8) = false := beq_no h8
        have HI : Sc (q1 = false) := ⟨by
          cases q1 with
          | false => rfl
          | true => exact absurd (HQ1.out.1 rfl) (fun h => h.elim hne h8)⟩
        clear hi hne h8
        go_wp2_with fail
        go_meet
        case rel => exact ⟨by rw [HI.out], rfl⟩
  case rest =>
    obtain ⟨rfl, rfl⟩ := hcut
    go_upto_if 12 with fail
    go_cut [3] from 12 to 12 (fun s3 wx => s3 = .int .i64 t ∧ wx = wc)
    case first =>
      cases q1 with
      | true =>
        obtain rfl : t = 60000 := HT.out
        go_wp2_with fail
        go_meet
        case rel => exact ⟨rfl, rfl⟩
      | false =>
        obtain rfl : t = 0 := HT.out
        go_wp2_with fail
        go_meet
        case rel => exact ⟨rfl, rfl⟩
    case rest =>
      obtain ⟨rfl, rfl⟩ := hcut
      go_upto_region 4 with fail
      go_cut [25] from 13 to 24 (fun s25 wx => s25 = .bool q2 ∧ wx = wc)
      case first =>
        by_cases h2 : r.kind = 2
        · have b2 : (r.kind == 2) = true := by simp [h2]
          have HI : Sc (q2 = true) := ⟨HQ2.out.2 (.inl h2)⟩
          clear h2
          go_wp2_with fail
          go_meet
          case rel => exact ⟨by rw [HI.out], rfl⟩
        · have b2 : (r.kind == 2) = false := beq_no h2
          by_cases h3 : r.kind = 3
          · have b3 : (r.kind == 3) = true := by simp [h3]
            have HI : Sc (q2 = true) := ⟨HQ2.out.2 (.inr (.inl h3))⟩
            clear h2 h3
            go_wp2_with fail
            go_meet
            case rel => exact ⟨by rw [HI.out], rfl⟩
          · have b3 : (r.kind == 3) = false := beq_no h3
            have HI : Sc (q2 = (r.kind == 9)) := ⟨by
              by_cases h9 : r.kind = 9
              · rw [HQ2.out.2 (.inr (.inr h9)), h9]; rfl
              · rw [beq_no h9]
                cases q2 with
                | false => rfl
                | true => exact absurd (HQ2.out.1 rfl) (fun h => h.elim h2 (fun h => h.elim h3 h9))⟩
            clear h2 h3
            go_wp2_with fail
            go_meet
            case rel => exact ⟨by rw [HI.out], rfl⟩
      case rest =>
        obtain ⟨rfl, rfl⟩ := hcut
        go_upto_if 25 with fail
        go_cut [4] from 25 to 25 (fun s4 wx => s4 = .int .i64 p ∧ wx = wc)
        case first =>
          cases q2 with
          | true =>
            obtain rfl : p = 32 := HP.out
            go_wp2_with fail
            go_meet
            case rel => exact ⟨rfl, rfl⟩
          | false =>
            obtain rfl : p = 0 := HP.out
            go_wp2_with fail
            go_meet
            case rel => exact ⟨rfl, rfl⟩
        case rest =>
          obtain ⟨rfl, rfl⟩ := hcut
          have hmt : (if (1 : Int) < t then (1 : Int) else t) = min t 1 := by omega
          have hmp : (if (1 : Int) < p then (1 : Int) else p) = min p 1 := by omega
          go_wp2_with fail
          refine (in_any _ _ _ _).mono ?_
          rintro e w' ⟨rfl, rfl⟩
          rw [HH.out.1]
          cases g1 with
          | false =>
            have HF : Sc (goodR r = false) := ⟨by rw [HG.out]; simp⟩
            go_wp2
            go_ret
            exact ⟨by rw [← HRES.out, HF.out]; rfl, HB1.out⟩
          | true =>
            go_wp2_with fail
            refine (in_any _ _ _ _).mono ?_
            rintro e w' ⟨rfl, rfl⟩
            rw [HH.out.2.1]
            cases g2 with
            | false =>
              have HF : Sc (goodR r = false) := ⟨by rw [HG.out]; simp⟩
              go_wp2
              go_ret
              exact ⟨by rw [← HRES.out, HF.out]; rfl, HB1.out⟩
            | true =>
              go_wp2_with fail
              refine (in_any _ _ _ _).mono ?_
              rintro e w' ⟨rfl, rfl⟩
              rw [HH.out.2.2.1]
              cases g3 with
              | false =>
                have HF : Sc (goodR r = false) := ⟨by rw [HG.out]; simp⟩
                go_wp2
                go_ret
                exact ⟨by rw [← HRES.out, HF.out]; rfl, HB1.out⟩
              | true =>
                clear hmt hmp
                go_wp2_with fail
                refine (recPrev_any _ r).mono ?_
                rw [HH.out.2.2.2.1]
                rintro e v0 ⟨rfl, hb⟩
                have HBv0 : Sc (Below w.heap.size w v0) := ⟨below_down HB1.out hb⟩
                have HZv0 := Sc.mk (up hb HZ.out)
                have HSv0 := Sc.mk (HS1.out.bel hb)
                have hge := RangeE.get HSv0.out
                clear hb c0 c1 c2 c3 c4 c5 c6 c7 c8 c9
                obtain ⟨c0, c1, c2, c3, c4, c5, c6, c7, c8, c9⟩ := cells_recs HZv0.out
                cases g4 with
                | false =>
                  have HF : Sc (goodR r = false) := ⟨by rw [HG.out]; simp⟩
                  go_wp2
                  go_ret
                  exact ⟨by rw [← HRES.out, HF.out]; rfl, HBv0.out⟩
                | true =>
                  go_wp2_with fail
                  refine (recNext_any _ r).mono ?_
                  rw [HH.out.2.2.2.2.1]
                  rintro e v1 ⟨rfl, hb⟩
                  have HBv1 : Sc (Below w.heap.size w v1) := ⟨below_down HBv0.out hb⟩
                  have HZv1 := Sc.mk (up hb HZv0.out)
                  have HSv1 := Sc.mk (HSv0.out.bel hb)
                  have hge := RangeE.get HSv1.out
                  clear hb c0 c1 c2 c3 c4 c5 c6 c7 c8 c9
                  obtain ⟨c0, c1, c2, c3, c4, c5, c6, c7, c8, c9⟩ := cells_recs HZv1.out
                  cases g5 with
                  | false =>
                    have HF : Sc (goodR r = false) := ⟨by rw [HG.out]; simp⟩
                    go_wp2
                    go_ret
                    exact ⟨by rw [← HRES.out, HF.out]; rfl, HBv1.out⟩
                  | true =>
                    go_wp2_with fail
                    refine (recKey_any _ r).mono ?_
                    rw [HH.out.2.2.2.2.2.1]
                    rintro e v2 ⟨rfl, hb⟩
                    have HBv2 : Sc (Below w.heap.size w v2) := ⟨below_down HBv1.out hb⟩
                    have HZv2 := Sc.mk (up hb HZv1.out)
                    have HSv2 := Sc.mk (HSv1.out.bel hb)
                    have hge := RangeE.get HSv2.out
                    clear hb c0 c1 c2 c3 c4 c5 c6 c7 c8 c9
                    obtain ⟨c0, c1, c2, c3, c4, c5, c6, c7, c8, c9⟩ := cells_recs HZv2.out
                    cases g6 with
                    | false =>
                      have HF : Sc (goodR r = false) := ⟨by rw [HG.out]; simp⟩
                      go_wp2
                      go_ret
                      exact ⟨by rw [← HRES.out, HF.out]; rfl, HBv2.out⟩
                    | true =>
                      go_wp2_with fail
                      refine (recValues_any _ r).mono ?_
                      rw [HH.out.2.2.2.2.2.2]
                      rintro e v3 ⟨rfl, hb⟩
                      have HBv3 : Sc (Below w.heap.size w v3) := ⟨below_down HBv2.out hb⟩
                      have HZv3 := Sc.mk (up hb HZv2.out)
                      have HSv3 := Sc.mk (HSv2.out.bel hb)
                      have hge := RangeE.get HSv3.out
                      clear hb c0 c1 c2 c3 c4 c5 c6 c7 c8 c9
                      obtain ⟨c0, c1, c2, c3, c4, c5, c6, c7, c8, c9⟩ := cells_recs HZv3.out
                      cases g7 with
                      | false =>
                        have HF : Sc (goodR r = false) := ⟨by rw [HG.out]; simp⟩
                        go_wp2
                        go_ret
                        exact ⟨by rw [← HRES.out, HF.out]; rfl, HBv3.out⟩
                      | true =>
                        have HF : Sc (goodR r = true) := ⟨by rw [HG.out]; rfl⟩
                        go_wp2
                        go_ret
                        exact ⟨by rw [← HRES.out, HF.out]; rfl, HBv3.out⟩
end Go.Proofs.YtoapihepdallbaaDoor
