/- Whether a page may be: page.Check. -/
import Derived.BigQuiet
import Derived.Test.YtmafogagkjafbaaDoorRef8
import Derived.Test.YtmafogagkjafbaaDoorBytes0
namespace Go.Proofs.YtmafogagkjafbaaDoor
open Go.RowKit

/-- The keys of the first k places are in range and rise. -/
def KeysOk (l : List (Int × Int)) (k : Nat) : Prop := ∀ i x, i < k → l[i]? = some x → 0 ≤ x.1 ∧ x.1 < 1048576 ∧ ∀ y, 0 < i → l[i - 1]? = some y → y.1 < x.1
/-- A page that may be. -/
def OkP (n : Int) (l : List (Int × Int)) : Prop := 0 ≤ n ∧ n ≤ 1073741824 ∧ l.length ≤ 20 ∧ (0 < l.length → n ≠ 0) ∧ KeysOk l l.length
theorem KeysOk.zero (l : List (Int × Int)) : KeysOk l 0 := fun i _ h => absurd h (Nat.not_lt_zero i)
theorem KeysOk.succ {l : List (Int × Int)} {k : Nat} {x : Int × Int} (h : KeysOk l k) (hx : l[k]? = some x) (h0 : 0 ≤ x.1) (h1 : x.1 < 1048576) (h2 : ∀ y, 0 < k → l[k - 1]? = some y → y.1 < x.1) : KeysOk l (k + 1) := fun i y hi hy => by
  rcases Nat.lt_succ_iff_lt_or_eq.1 hi with hi | hi
  · exact h i y hi hy
  · subst hi
    rw [hx] at hy
    injection hy with hy
    subst hy
    exact ⟨h0, h1, h2⟩
theorem KeysOk.rising {l : List (Int × Int)} (h : KeysOk l l.length) : Rising l := by
  have key : ∀ (m : List (Int × Int)) (q : List (Int × Int)), l = q ++ m → Rising m := by
    intro m
    induction m with
    | nil => intro q _; exact List.Pairwise.nil
    | cons a m ih =>
      intro q hq
      have hm := ih (q ++ [a]) (by rw [hq]; simp)
      refine List.pairwise_cons.2 ⟨?_, hm⟩
      intro b hb
      cases m with
      | nil => simp at hb
      | cons c m =>
        have hlt : a.1 < c.1 := by
          have hc : l[q.length + 1]? = some c := by rw [hq, List.getElem?_append_right (by omega)]; simp
          have ha : l[q.length]? = some a := by rw [hq, List.getElem?_append_right (by omega)]; simp
          exact (h (q.length + 1) c (List.getElem?_eq_some_iff.1 hc).1 hc).2.2 a (by omega) ha
        rcases List.mem_cons.1 hb with rfl | hb
        · exact hlt
        · have := hm.head b hb; omega
  exact key l [] rfl

theorem below_drewP {B : Nat} {w W : World} (h : Below B w W) (n : Nat) : Below B w (W.drewN n) := ⟨h.os, h.tape, h.output, h.size, h.block⟩
/-- The three errors that the pages' code names. -/
structure Errs (W : World) (f : Nat → Addr) : Prop where
  range : W.cell? ⟨1, 0, none⟩ = some (errV (f 1))
  short : W.cell? ⟨2, 0, none⟩ = some (errV (f 2))
  page : W.cell? ⟨0, 0, none⟩ = some (errV (f 6))
theorem Sents.errs {W : World} {f : Nat → Addr} (h : Sents W f) : Errs W f := ⟨h.cell 1 (by omega), h.cell 2 (by omega), h.cell 6 (by omega)⟩
theorem Errs.bel {W W' : World} {f : Nat → Addr} (h : Errs W f) (hb : Below W.heap.size W W') : Errs W' f :=
  ⟨(hb.cell (World.block_lt_of_cell? _ _ h.range)).trans h.range, (hb.cell (World.block_lt_of_cell? _ _ h.short)).trans h.short, (hb.cell (World.block_lt_of_cell? _ _ h.page)).trans h.page⟩

set_option maxRecDepth 4000 in
set_option maxHeartbeats 1000000 in
theorem pageCheck_any (f : Nat → Addr) (w : World) (base : Nat) (n : Int) (v : Value) (l : List (Int × Int)) (hE : Errs w f) (hown : Own enc2 2 56 base w v l) (hlen : l.length ≤ 1000000) :
    Calls Tryd.prog 29 #[aggP n v] w fun e w' => ((OkP n l ∧ e = .returned .nilIface) ∨ (¬ OkP n l ∧ e = .returned (errV (f 1)))) ∧ Below w.heap.size w w' := by
  obtain ⟨A, cap, rfl, hnc, hcm⟩ := hown.slice
  obtain ⟨N, hN⟩ : ∃ N, l.length = N := ⟨_, rfl⟩
  rw [hN] at hown hlen ⊢
  have HN := Sc.mk hN
  have HB1 : Sc ((w.alloc (.cells #[.int .i64 n, .slice A N cap] 29)).heap[w.heap.size]? = some (.cells #[.int .i64 n, .slice A N cap] 29 (0, 0))) := ⟨heap_alloc_new _ _⟩
  obtain ⟨b0, b1⟩ := cells_page HB1.out
  have HW1 : Sc (Below w.heap.size w (w.alloc (.cells #[.int .i64 n, .slice A N cap] 29))) := ⟨(Below.refl _ _).alloc (Nat.le_refl _) _⟩
  have HE1 := Sc.mk (hE.bel HW1.out)
  have HO1 : Sc (Own enc2 2 56 base (w.alloc (.cells #[.int .i64 n, .slice A N cap] 29)) (.slice A N cap) l) := ⟨hown.alloc _⟩
  have hge := HE1.out.range
  clear hown hN hE hnc hcm
  by_cases hbad : n < 0 ∨ 1073741824 < n ∨ 20 < N ∨ (0 < N ∧ n = 0)
  · have HNO : Sc (¬ OkP n l) := ⟨fun ⟨h1, h2, h3, h4, _⟩ => by rw [HN.out] at h3 h4; rcases hbad with h | h | h | ⟨h, h'⟩ <;> omega⟩
    have hb' : n < 0 ∨ (0 ≤ n ∧ 1073741824 < n) ∨ (0 ≤ n ∧ n ≤ 1073741824 ∧ 20 < N) ∨ (0 ≤ n ∧ n ≤ 1073741824 ∧ N ≤ 20 ∧ 0 < N ∧ n = 0) := by omega
    clear hbad
    rcases hb' with h1 | ⟨h1, h2⟩ | ⟨h1, h2, h3⟩ | ⟨h1, h2, h3, h4, rfl⟩
    · go_enter Tryd.func29, Tryd.ntmps29
      go_wp2
      go_ret
      exact ⟨.inr ⟨HNO.out, rfl⟩, HW1.out⟩
    · go_enter Tryd.func29, Tryd.ntmps29
      go_wp2
      go_ret
      exact ⟨.inr ⟨HNO.out, rfl⟩, HW1.out⟩
    · have h4 : (20 : Int) < N := by omega
      go_enter Tryd.func29, Tryd.ntmps29
      go_wp2
      go_ret
      exact ⟨.inr ⟨HNO.out, rfl⟩, HW1.out⟩
    · have h5 : (0 : Int) < N := by omega
      have h6 : ¬ (20 : Int) < N := by omega
      go_enter Tryd.func29, Tryd.ntmps29
      go_wp2
      go_ret
      exact ⟨.inr ⟨HNO.out, rfl⟩, HW1.out⟩
  · have h1 : 0 ≤ n := by omega
    have h2 : n ≤ 1073741824 := by omega
    have h3 : N ≤ 20 := by omega
    have h4 : N = 0 ∨ (0 < N ∧ n ≠ 0) := by omega
    have HH : Sc (0 ≤ n ∧ n ≤ 1073741824 ∧ l.length ≤ 20 ∧ (0 < l.length → n ≠ 0)) := ⟨h1, h2, by rw [HN.out]; exact h3, fun h => by rw [HN.out] at h; omega⟩
    have h6 : ¬ (20 : Int) < N := by omega
    clear hbad
    go_enter Tryd.func29, Tryd.ntmps29
    go_upto_region 1 with fail
    go_cut [29] from 5 to 30 (fun s29 wx => s29 = .bool false ∧ wx = w.alloc (.cells #[.int .i64 n, .slice A N cap] 29))
    case first =>
      rcases h4 with rfl | ⟨h5, h7⟩
      · go_wp2
        go_meet
        case rel => exact ⟨by simp; omega, rfl⟩
      · have h8 : (0 : Int) < N := by omega
        have h9 : (n == 0) = false := by simp [h7]
        clear h7
        go_wp2
        go_meet
        case rel => exact ⟨by simp; omega, rfl⟩
    case rest =>
      obtain ⟨rfl, rfl⟩ := hcut
      clear h1 h2 h4 h6
      go_wp2
      go_loopg [2, 34] N (fun kx s2 s34 wr => ∃ i : Nat, s2 = .nilIface ∧ s34 = .int .i64 i ∧ i ≤ N ∧ N - i ≤ kx ∧ Sc (Below (w.alloc (.cells #[.int .i64 n, .slice A N cap] 29)).heap.size (w.alloc (.cells #[.int .i64 n, .slice A N cap] 29)) wr) ∧ Sc (KeysOk l i))
      case atStart => exact ⟨0, rfl, rfl, by omega, by omega, ⟨Below.refl _ _⟩, ⟨KeysOk.zero l⟩⟩
      case round =>
        obtain ⟨i, rfl, rfl, hi, hg, HB, HK⟩ := hrel
        by_cases hlt : i < N
        · obtain ⟨x, hx⟩ : ∃ x, l[i]? = some x := ⟨_, List.getElem?_eq_getElem (by rw [HN.out]; exact hlt)⟩
          obtain ⟨g, cq, he, _, _, _, _⟩ := HO1.out.form (by rw [HN.out]; omega)
          injection he with hA hn2 hC
          subst hA
          have HO2 := Sc.mk (HO1.out.below HB.out)
          obtain ⟨d0, d1⟩ := HO2.out.cells2 hx
          have c0 := (HB.out.cell (World.block_lt_of_cell? _ _ b0)).trans b0
          have c1 := (HB.out.cell (World.block_lt_of_cell? _ _ b1)).trans b1
          have e0 := (HE1.out.bel HB.out).range
          have l0 := World.block_lt_of_cell? _ _ e0
          have l1 := World.block_lt_of_cell? _ _ c1
          have l2 := World.block_lt_of_cell? _ _ d0
          have HX := Sc.mk hx
          have hil : (i : Int) < N := by omega
          have HBW := Sc.mk (below_down HW1.out HB.out)
          clear hx hC hn2 b0 b1 hge
          by_cases hk0 : x.1 < 0
          · have HNO : Sc (¬ OkP n l) := ⟨fun ⟨_, _, _, _, h⟩ => by have := (h i x (by rw [HN.out]; exact hlt) HX.out).1; omega⟩
            have q1 : decide (x.1 < 0) = true := by simp [hk0]
            go_upto_region 6 with fail
            go_quiet (fail)
            go_wp2
            go_ret
            exact ⟨.inr ⟨HNO.out, rfl⟩, below_drewP (HBW.out.alloc HBW.out.size _) _⟩
          · have q1 : decide (x.1 < 0) = false := by simp; omega
            by_cases hk1 : 1048576 ≤ x.1
            · have HNO : Sc (¬ OkP n l) := ⟨fun ⟨_, _, _, _, h⟩ => by have := (h i x (by rw [HN.out]; exact hlt) HX.out).2.1; omega⟩
              have q2 : decide (1048576 ≤ x.1) = true := by simp [hk1]
              go_upto_region 6 with fail
              go_quiet (fail)
              go_wp2
              go_ret
              exact ⟨.inr ⟨HNO.out, rfl⟩, below_drewP (HBW.out.alloc HBW.out.size _) _⟩
            · have q2 : decide (1048576 ≤ x.1) = false := by simp; omega
              rcases Nat.eq_zero_or_pos i with hi0 | hi0
              · have HK1 : Sc (KeysOk l (i + 1)) := ⟨HK.out.succ HX.out (by omega) (by omega) (fun y h => by omega)⟩
                subst hi0
                go_upto_region 6 with fail
                go_quiet (fail)
                go_wp2
                go_roundg (N - 1)
                case measure => omega
                case rel => exact ⟨1, rfl, by go_num, by omega, Nat.le_refl _, ⟨below_drewP (HB.out.alloc HB.out.size _) _⟩, HK1⟩
              · obtain ⟨p, rfl⟩ : ∃ p, i = p + 1 := ⟨i - 1, by omega⟩
                obtain ⟨y, hy⟩ : ∃ y, l[p]? = some y := ⟨_, List.getElem?_eq_getElem (by rw [HN.out]; omega)⟩
                obtain ⟨f0, f1⟩ := HO2.out.cells2 hy
                have HY := Sc.mk hy
                have hpos : (0 : Int) < (p : Int) + 1 := by omega
                clear hy hi0
                by_cases hk2 : x.1 ≤ y.1
                · have HNO : Sc (¬ OkP n l) := ⟨fun ⟨_, _, _, _, h⟩ => by have := (h (p + 1) x (by rw [HN.out]; exact hlt) HX.out).2.2 y (by omega) HY.out; omega⟩
                  have q3 : decide (x.1 ≤ y.1) = true := by simp [hk2]
                  go_upto_region 6 with fail
                  go_quiet (fail)
                  go_wp2
                  go_ret
                  exact ⟨.inr ⟨HNO.out, rfl⟩, below_drewP (HBW.out.alloc HBW.out.size _) _⟩
                · have HK1 : Sc (KeysOk l (p + 1 + 1)) := ⟨HK.out.succ HX.out (by omega) (by omega) (fun z _ hz => by have h := HY.out; rw [Nat.add_sub_cancel] at hz; rw [hz] at h; injection h with h; subst h; omega)⟩
                  have q3 : decide (x.1 ≤ y.1) = false := by simp; omega
                  go_upto_region 6 with fail
                  go_quiet (fail)
                  go_wp2
                  go_roundg (N - (p + 1 + 1))
                  case measure => omega
                  case rel => exact ⟨p + 1 + 1, rfl, by go_num, by omega, Nat.le_refl _, ⟨below_drewP (HB.out.alloc HB.out.size _) _⟩, HK1⟩
        · obtain rfl : i = N := by omega
          have HBW := Sc.mk (below_down HW1.out HB.out)
          have HOK : Sc (OkP n l) := ⟨HH.out.1, HH.out.2.1, HH.out.2.2.1, HH.out.2.2.2, by rw [HN.out]; exact HK.out⟩
          clear b0 b1 hge
          go_wp2
          go_ret
          exact ⟨.inl ⟨HOK.out, rfl⟩, HBW.out⟩
end Go.Proofs.YtmafogagkjafbaaDoor
