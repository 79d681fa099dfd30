/- A page that came in: its row can be read. page.Check. -/
import Derived.Test.YtmafogagkjafbaaDoorPageB
namespace Go.Proofs.YtmafogagkjafbaaDoor
open Go.RowKit

/-- A row of pairs that can be read. -/
def RdE (w : World) (v : Value) (l : List (Int × Int)) : Prop :=
  (l = [] ∧ ∃ A c, v = .slice A 0 c) ∨ ∃ b off cap, v = .slice (some ⟨b, off, none⟩) l.length cap ∧ 0 < l.length ∧ l.length ≤ cap ∧ ∀ k x, l[k]? = some x → w.cell? ⟨b, off + k * 2, none⟩ = some (.int .i64 x.1) ∧ w.cell? ⟨b, off + k * 2 + 1, none⟩ = some (.int .i64 x.2)
theorem RdE.form {w : World} {v : Value} {l : List (Int × Int)} (h : RdE w v l) (hl : 0 < l.length) : ∃ b off cap, v = .slice (some ⟨b, off, none⟩) l.length cap := by
  rcases h with ⟨rfl, _⟩ | ⟨b, off, cap, h, _⟩
  · simp at hl
  · exact ⟨b, off, cap, h⟩
theorem RdE.cells2 {w : World} {b off n cap : Nat} {l : List (Int × Int)} (h : RdE w (.slice (some ⟨b, off, none⟩) n cap) l) {k : Nat} {x : Int × Int} (hx : l[k]? = some x) :
    w.cell? ⟨b, off + k * 2, none⟩ = some (.int .i64 x.1) ∧ w.cell? ⟨b, off + k * 2 + 1, none⟩ = some (.int .i64 x.2) := by
  rcases h with ⟨rfl, _⟩ | ⟨b', off', cap', he, _, _, h⟩
  · simp at hx
  · injection he with h1 h2 h3
    injection h1 with h1
    injection h1 with h1 h4
    subst h1 h4
    exact h k x hx
theorem RdE.below {w w' : World} {v : Value} {l : List (Int × Int)} (h : RdE w v l) (hb : Below w.heap.size w w') : RdE w' v l := by
  rcases h with h | ⟨b, off, cap, hv, h0, h1, h2⟩
  · exact .inl h
  · exact .inr ⟨b, off, cap, hv, h0, h1, fun k x hx => ⟨(hb.cell (World.block_lt_of_cell? _ _ (h2 k x hx).1)).trans (h2 k x hx).1, (hb.cell (World.block_lt_of_cell? _ _ (h2 k x hx).2)).trans (h2 k x hx).2⟩⟩
theorem RdE.alloc {w : World} {v : Value} {l : List (Int × Int)} (h : RdE w v l) (o : Obj) : RdE (w.alloc o) v l := h.below ((Below.refl _ _).alloc (Nat.le_refl _) o)
theorem RdE.slice {w : World} {v : Value} {l : List (Int × Int)} (h : RdE w v l) : ∃ A c, v = .slice A l.length c ∧ True ∧ True := by
  rcases h with ⟨rfl, A, c, rfl⟩ | ⟨b, off, cap, rfl, _⟩
  · exact ⟨_, _, rfl, trivial, trivial⟩
  · exact ⟨_, _, rfl, trivial, trivial⟩
theorem Own.rdE {w : World} {base : Nat} {e : TypeId} {v : Value} {l : List (Int × Int)} (h : Own enc2 2 e base w v l) : RdE w v l := by
  rcases Nat.eq_zero_or_pos l.length with h0 | h0
  · obtain ⟨A, c, rfl, _, _⟩ := h.slice
    rw [h0]
    exact .inl ⟨List.eq_nil_of_length_eq_zero h0, _, _, rfl⟩
  · obtain ⟨g, cap, rfl, _, _, hn, _⟩ := h.form h0
    exact .inr ⟨g, 0, cap, rfl, h0, hn, fun k x hx => by rw [Nat.zero_add]; exact h.cells2 hx⟩

set_option maxRecDepth 4000 in
set_option maxHeartbeats 1000000 in
theorem pageCheckR_any (f : Nat → Addr) (w : World) (n : Int) (v : Value) (l : List (Int × Int)) (hE : Errs w f) (hown : RdE w v l) (hlen : l.length ≤ 1000000) :
    Calls Tryd.prog 29 #[aggP n v] w fun e w' => ((OkP n l ∧ e = .returned .nilIface) ∨ (¬ OkP n l ∧ e = .returned (errV (f 1)))) ∧ Below w.heap.size w w' := by
  obtain ⟨A, cap, rfl, hnc, hcm⟩ := hown.slice
  obtain ⟨N, hN⟩ : ∃ N, l.length = N := ⟨_, rfl⟩
  rw [hN] at hown hlen ⊢
  have HN := Sc.mk hN
  have HB1 : Sc ((w.alloc (.cells #[.int .i64 n, .slice A N cap] 29)).heap[w.heap.size]? = some (.cells #[.int .i64 n, .slice A N cap] 29 (0, 0))) := ⟨heap_alloc_new _ _⟩
  obtain ⟨b0, b1⟩ := cells_page HB1.out
  have HW1 : Sc (Below w.heap.size w (w.alloc (.cells #[.int .i64 n, .slice A N cap] 29))) := ⟨(Below.refl _ _).alloc (Nat.le_refl _) _⟩
  have HE1 := Sc.mk (hE.bel HW1.out)
  have HO1 : Sc (RdE (w.alloc (.cells #[.int .i64 n, .slice A N cap] 29)) (.slice A N cap) l) := ⟨hown.alloc _⟩
  have hge := HE1.out.range
  clear hown hN hE hnc hcm
  by_cases hbad : n < 0 ∨ 1073741824 < n ∨ 20 < N ∨ (0 < N ∧ n = 0)
  · have HNO : Sc (¬ OkP n l) := ⟨fun ⟨h1, h2, h3, h4, _⟩ => by rw [HN.out] at h3 h4; rcases hbad with h | h | h | ⟨h, h'⟩ <;> omega⟩
    have hb' : n < 0 ∨ (0 ≤ n ∧ 1073741824 < n) ∨ (0 ≤ n ∧ n ≤ 1073741824 ∧ 20 < N) ∨ (0 ≤ n ∧ n ≤ 1073741824 ∧ N ≤ 20 ∧ 0 < N ∧ n = 0) := by omega
    clear hbad
    rcases hb' with h1 | ⟨h1, h2⟩ | ⟨h1, h2, h3⟩ | ⟨h1, h2, h3, h4, rfl⟩
    · go_enter Tryd.func29, Tryd.ntmps29
      go_wp2
      go_ret
      exact ⟨.inr ⟨HNO.out, rfl⟩, HW1.out⟩
    · go_enter Tryd.func29, Tryd.ntmps29
      go_wp2
      go_ret
      exact ⟨.inr ⟨HNO.out, rfl⟩, HW1.out⟩
    · have h4 : (20 : Int) < N := by omega
      go_enter Tryd.func29, Tryd.ntmps29
      go_wp2
      go_ret
      exact ⟨.inr ⟨HNO.out, rfl⟩, HW1.out⟩
    · have h5 : (0 : Int) < N := by omega
      have h6 : ¬ (20 : Int) < N := by omega
      go_enter Tryd.func29, Tryd.ntmps29
      go_wp2
      go_ret
      exact ⟨.inr ⟨HNO.out, rfl⟩, HW1.out⟩
  · have h1 : 0 ≤ n := by omega
    have h2 : n ≤ 1073741824 := by omega
    have h3 : N ≤ 20 := by omega
    have h4 : N = 0 ∨ (0 < N ∧ n ≠ 0) := by omega
    have HH : Sc (0 ≤ n ∧ n ≤ 1073741824 ∧ l.length ≤ 20 ∧ (0 < l.length → n ≠ 0)) := ⟨h1, h2, by rw [HN.out]; exact h3, fun h => by rw [HN.out] at h; omega⟩
    have h6 : ¬ (20 : Int) < N := by omega
    clear hbad
    go_enter Tryd.func29, Tryd.ntmps29
    go_upto_region 1 with fail
    go_cut [29] from 5 to 30 (fun s29 wx => s29 = .bool false ∧ wx = w.alloc (.cells #[.int .i64 n, .slice A N cap] 29))
    case first =>
      rcases h4 with rfl | ⟨h5, h7⟩
      · go_wp2
        go_meet
        case rel => exact ⟨by simp; omega, rfl⟩
      · have h8 : (0 : Int) < N := by omega
        have h9 : (n == 0) = false := by simp [h7]
        clear h7
        go_wp2
        go_meet
        case rel => exact ⟨by simp; omega, rfl⟩
    case rest =>
      obtain ⟨rfl, rfl⟩ := hcut
      clear h1 h2 h4 h6
      go_wp2
      go_loopg [2, 34] N (fun kx s2 s34 wr => ∃ i : Nat, s2 = .nilIface ∧ s34 = .int .i64 i ∧ i ≤ N ∧ N - i ≤ kx ∧ Sc (Below (w.alloc (.cells #[.int .i64 n, .slice A N cap] 29)).heap.size (w.alloc (.cells #[.int .i64 n, .slice A N cap] 29)) wr) ∧ Sc (KeysOk l i))
      case atStart => exact ⟨0, rfl, rfl, by omega, by omega, ⟨Below.refl _ _⟩, ⟨KeysOk.zero l⟩⟩
      case round =>
        obtain ⟨i, rfl, rfl, hi, hg, HB, HK⟩ := hrel
        by_cases hlt : i < N
        · obtain ⟨x, hx⟩ : ∃ x, l[i]? = some x := ⟨_, List.getElem?_eq_getElem (by rw [HN.out]; exact hlt)⟩
          obtain ⟨g, off, cq, he⟩ := HO1.out.form (by rw [HN.out]; omega)
          injection he with hA hn2 hC
          subst hA
          have HO2 := Sc.mk (HO1.out.below HB.out)
          obtain ⟨d0, d1⟩ := HO2.out.cells2 hx
          have c0 := (HB.out.cell (World.block_lt_of_cell? _ _ b0)).trans b0
          have c1 := (HB.out.cell (World.block_lt_of_cell? _ _ b1)).trans b1
          have e0 := (HE1.out.bel HB.out).range
          have l0 := World.block_lt_of_cell? _ _ e0
          have l1 := World.block_lt_of_cell? _ _ c1
          have l2 := World.block_lt_of_cell? _ _ d0
          have HX := Sc.mk hx
          have hil : (i : Int) < N := by omega
          have HBW := Sc.mk (below_down HW1.out HB.out)
          clear hx hC hn2 b0 b1 hge
          by_cases hk0 : x.1 < 0
          · have HNO : Sc (¬ OkP n l) := ⟨fun ⟨_, _, _, _, h⟩ => by have := (h i x (by rw [HN.out]; exact hlt) HX.out).1; omega⟩
            have q1 : decide (x.1 < 0) = true := by simp [hk0]
            go_upto_region 6 with fail
            go_quiet (fail)
            go_wp2
            go_ret
            exact ⟨.inr ⟨HNO.out, rfl⟩, below_drewP (HBW.out.alloc HBW.out.size _) _⟩
          · have q1 : decide (x.1 < 0) = false := by simp; omega
            by_cases hk1 : 1048576 ≤ x.1
            · have HNO : Sc (¬ OkP n l) := ⟨fun ⟨_, _, _, _, h⟩ => by have := (h i x (by rw [HN.out]; exact hlt) HX.out).2.1; omega⟩
              have q2 : decide (1048576 ≤ x.1) = true := by simp [hk1]
              go_upto_region 6 with fail
              go_quiet (fail)
              go_wp2
              go_ret
              exact ⟨.inr ⟨HNO.out, rfl⟩, below_drewP (HBW.out.alloc HBW.out.size _) _⟩
            · have q2 : decide (1048576 ≤ x.1) = false := by simp; omega
              rcases Nat.eq_zero_or_pos i with hi0 | hi0
              · have HK1 : Sc (KeysOk l (i + 1)) := ⟨HK.out.succ HX.out (by omega) (by omega) (fun y h => by omega)⟩
                subst hi0
                rw [Nat.zero_mul, Nat.add_zero] at d0 d1
                go_upto_region 6 with fail
                go_quiet (fail)
                go_wp2
                go_roundg (N - 1)
                case measure => omega
                case rel => exact ⟨1, rfl, by go_num, by omega, Nat.le_refl _, ⟨below_drewP (HB.out.alloc HB.out.size _) _⟩, HK1⟩
              · obtain ⟨p, rfl⟩ : ∃ p, i = p + 1 := ⟨i - 1, by omega⟩
                obtain ⟨y, hy⟩ : ∃ y, l[p]? = some y := ⟨_, List.getElem?_eq_getElem (by rw [HN.out]; omega)⟩
                obtain ⟨f0, f1⟩ := HO2.out.cells2 hy
                have HY := Sc.mk hy
                have hpos : (0 : Int) < (p : Int) + 1 := by omega
                clear hy hi0
                by_cases hk2 : x.1 ≤ y.1
                · have HNO : Sc (¬ OkP n l) := ⟨fun ⟨_, _, _, _, h⟩ => by have := (h (p + 1) x (by rw [HN.out]; exact hlt) HX.out).2.2 y (by omega) HY.out; omega⟩
                  have q3 : decide (x.1 ≤ y.1) = true := by simp [hk2]
                  go_upto_region 6 with fail
                  go_quiet (fail)
                  go_wp2
                  go_ret
                  exact ⟨.inr ⟨HNO.out, rfl⟩, below_drewP (HBW.out.alloc HBW.out.size _) _⟩
                · have HK1 : Sc (KeysOk l (p + 1 + 1)) := ⟨HK.out.succ HX.out (by omega) (by omega) (fun z _ hz => by have h := HY.out; rw [Nat.add_sub_cancel] at hz; rw [hz] at h; injection h with h; subst h; omega)⟩
                  have q3 : decide (x.1 ≤ y.1) = false := by simp; omega
                  go_upto_region 6 with fail
                  go_quiet (fail)
                  go_wp2
                  go_roundg (N - (p + 1 + 1))
                  case measure => omega
                  case rel => exact ⟨p + 1 + 1, rfl, by go_num, by omega, Nat.le_refl _, ⟨below_drewP (HB.out.alloc HB.out.size _) _⟩, HK1⟩
        · obtain rfl : i = N := by omega
          have HBW := Sc.mk (below_down HW1.out HB.out)
          have HOK : Sc (OkP n l) := ⟨HH.out.1, HH.out.2.1, HH.out.2.2.1, HH.out.2.2.2, by rw [HN.out]; exact HK.out⟩
          clear b0 b1 hge
          go_wp2
          go_ret
          exact ⟨.inl ⟨HOK.out, rfl⟩, HBW.out⟩
end Go.Proofs.YtmafogagkjafbaaDoor
