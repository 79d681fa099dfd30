/- The document's page: Find, Remove. -/
import Derived.Test.YtmafogagkjafbaaDoorRedo
import Derived.Test.YtmafogagkjafbaaDoorRefE
import Derived.Deep.AppendLies
namespace Go.Proofs.YtmafogagkjafbaaDoor
open Go.RowKit

/-- None of the first i has the key. -/
def NoneOf (l : List (Int × Int)) (p : Int) (i : Nat) : Prop := ∀ j x, j < i → l[j]? = some x → x.1 ≠ p
set_option maxRecDepth 4000 in
set_option maxHeartbeats 1000000 in
theorem refFind_any (w : World) (base : Nat) (n0 : Int) (v : Value) (l : List (Int × Int)) (p : Int) (hown : Own enc2 2 56 base w v l) (hr : Rising l) (hlen : l.length ≤ 1000000) :
    Calls Tryd.prog 25 #[aggP n0 v, .int .i64 p] w fun e w' => e = .returned (.tuple #[.int .i64 ((look l p).getD 0), .bool (has l p)]) ∧ Below w.heap.size w w' := by
  obtain ⟨A, cap, rfl, hnc, hcm⟩ := hown.slice
  obtain ⟨n, hn⟩ : ∃ n, l.length = n := ⟨_, rfl⟩
  rw [hn] at hown hlen ⊢
  have HN := Sc.mk hn
  have HO := Sc.mk hown
  have HR := Sc.mk hr
  clear hown hr hn hnc
  go_enter Tryd.func25, Tryd.ntmps25
  go_wp2
  go_loop [4, 5, 6] (fun s4 s5 s6 => ∃ i : Nat, s4 = .int .i64 0 ∧ s5 = .bool false ∧ s6 = .int .i64 i ∧ i ≤ n ∧ Sc (NoneOf l p i)) (fun _ _ s6 => n - (intOf s6).toNat)
  case atStart => exact ⟨0, rfl, rfl, rfl, by omega, ⟨fun j x hj => absurd hj (Nat.not_lt_zero _)⟩⟩
  case round =>
    obtain ⟨i, rfl, rfl, rfl, hi, HI⟩ := hrel
    by_cases hlt : i < n
    · obtain ⟨x, hx⟩ : ∃ x, l[i]? = some x := ⟨_, List.getElem?_eq_getElem (by rw [HN.out]; exact hlt)⟩
      obtain ⟨g, cq, he, _, hgw, _, _⟩ := HO.out.form (by rw [HN.out]; omega)
      injection he with hA hn2 hC
      subst hA
      obtain ⟨d0, d1⟩ := HO.out.cells2 hx
      have HX := Sc.mk hx
      have hil : (i : Int) < n := by omega
      clear hx hC hn2
      by_cases hp : x.1 = p
      · have hb : (x.1 == p) = true := by simp [hp]
        have HL : Sc (look l p = some x.2 ∧ has l p = true) := ⟨by rw [← hp]; exact ⟨look_of_mem HR.out (List.mem_of_getElem? HX.out), has_place HX.out⟩⟩
        clear hp
        go_wp2
        go_ret2
        exact ⟨by rw [HL.out.1, HL.out.2]; rfl, (Below.refl _ _).alloc (Nat.le_refl _) _⟩
      · have hb : (x.1 == p) = false := by simp [hp]
        have HJ : Sc (NoneOf l p (i + 1)) := ⟨fun j y hj hy => by
          rcases Nat.lt_succ_iff_lt_or_eq.1 hj with h | h
          · exact HI.out j y h hy
          · subst h; have h1 := HX.out; rw [hy] at h1; injection h1 with h1; subst h1; exact hp⟩
        clear hp
        go_wp2
        go_round
        case rel => exact ⟨i + 1, rfl, rfl, by go_num, by omega, HJ⟩
        case measure => simp [intOf]; omega
    · obtain rfl : i = n := by omega
      have HL : Sc (has l p = false) := ⟨by
        cases hh : has l p with
        | false => rfl
        | true =>
          obtain ⟨x, hx, hk⟩ := has_iff.1 hh
          obtain ⟨j, hj⟩ := List.mem_iff_getElem?.1 hx
          exact absurd hk (HI.out j x (by rw [← HN.out]; exact (List.getElem?_eq_some_iff.1 hj).1) hj)⟩
      have HL2 : Sc (look l p = none) := ⟨by unfold look; rw [if_neg (by rw [HL.out]; exact Bool.false_ne_true)]⟩
      go_wp2
      go_ret2
      exact ⟨by rw [HL.out, HL2.out]; rfl, (Below.refl _ _).alloc (Nat.le_refl _) _⟩

/-- A page under way, its row appended to. -/
theorem PageVar.append {w wr w2 : World} {b g cap : Nat} {n : Int} {v : Value} {l : List (Int × Int)} {x : Int × Int} {o : Obj} (h : PageVar w wr b n v l)
    (hown : w2.ownsRow w.heap.size 56 2 (.slice (some ⟨g, 0, none⟩) (l.length + 1) cap) (l.length + 1) (flat enc2 l ++ enc2 x)) (hg : (wr.alloc o).grownBy w2 v.ownBlock) (hat : v.ownBlock = some g ∨ g = wr.heap.size + 1) :
    w2.heap[b]? = some (.cells #[.int .i64 n, v] 29 (0, 0)) ∧ PageVar w (w2.setCell ⟨b, 1, none⟩ (.slice (some ⟨g, 0, none⟩) (l.length + 1) cap)) b n (.slice (some ⟨g, 0, none⟩) (l.length + 1) cap) (l ++ [x]) := by
  have hb := heap_lt h.cells
  have hc : w2.heap[b]? = some (.cells #[.int .i64 n, v] 29 (0, 0)) :=
    (hg.block b (by simp; omega) (fun he => h.apart he.symm)).trans ((heap_alloc_old wr _ hb).trans h.cells)
  have hne : (Value.slice (some ⟨g, 0, none⟩) (l.length + 1) cap).ownBlock ≠ some b := by
    intro he
    injection he with he
    replace he : g = b := he
    rcases hat with hat | hat
    · exact h.apart (by rw [hat, he])
    · omega
  refine ⟨hc, ((h.below.alloc h.below.size o).grown hg (by have := h.below.size; simp; omega) (fun q hq => (h.own.lt q hq).1)).setCell h.new _, h.new, ?_, ?_, hne⟩
  · rw [set_one hc 1 _]; rfl
  · exact (Own.of_rows hown (by simp) (by rw [flat_append, flat_single])).kp (Kp.setCell w2 ⟨b, 1, none⟩ _) (fun q hq he => hne (by rw [hq, he]))
theorem grown_drew {w w2 : World} {r : Option Nat} (h : w.drew.grownBy w2 r) : w.grownBy w2 r := ⟨h.os, h.tape, h.output, h.size, h.block⟩
theorem PageVar.drew {w wx : World} {b : Nat} {n : Int} {v : Value} {l : List (Int × Int)} (h : PageVar w wx b n v l) : PageVar w wx.drew b n v l := ⟨h.below.drew, h.new, h.cells, h.own, h.apart⟩

/-- All but one key. -/
def others (l : List (Int × Int)) (p : Int) : List (Int × Int) := l.filter fun x => decide (x.1 ≠ p)
theorem others_drop {l : List (Int × Int)} (hr : Rising l) (p : Int) : others l p = drop' l p := by
  unfold others
  induction l with
  | nil => rfl
  | cons x r ih =>
    by_cases hx : x.1 = p
    · subst hx
      rw [drop'_head hr, List.filter_cons_of_neg (by simp)]
      apply List.filter_eq_self.2
      intro y hy
      have := hr.head y hy
      simp; omega
    · rw [List.filter_cons_of_pos (by simpa using hx), ih hr.tail]
      cases hh : has r p with
      | false =>
        have : has (x :: r) p = false := by unfold has at hh ⊢; rw [List.any_cons, hh]; simpa using hx
        rw [drop'_no hh, drop'_no this]
      | true =>
        have h2 : has (x :: r) p = true := by unfold has at hh ⊢; rw [List.any_cons, hh]; simp
        obtain ⟨y, hy, hk⟩ := has_iff.1 hh
        have hxp : x.1 < p := by have := hr.head y hy; omega
        have hp : pos (x :: r) p = pos r p + 1 := by unfold pos; rw [List.countP_cons_of_pos (by simpa using hxp)]
        rw [drop'_yes hh, drop'_yes h2, hp]; rfl

set_option maxRecDepth 4000 in
set_option maxHeartbeats 2000000 in
theorem refRemove_any (w : World) (base : Nat) (n0 : Int) (v : Value) (l : List (Int × Int)) (p : Int) (hown : Own enc2 2 56 base w v l) (hr : Rising l) (hlen : l.length ≤ 1000000) :
    Calls Tryd.prog 43 #[aggP n0 v, .int .i64 p] w (PageLeft n0 (drop' l p) (has l p) w) := by
  obtain ⟨i0, hi, hz0, hz1, hz2⟩ := info_parts infoCloE
  obtain ⟨A, cap, rfl, hnc, hcm⟩ := hown.slice
  obtain ⟨n, hn⟩ : ∃ n, l.length = n := ⟨_, rfl⟩
  rw [hn] at hown hlen ⊢
  have HN := Sc.mk hn
  have HOA : Sc (Own enc2 2 56 base ((w.alloc (.cells #[.int .i64 n0, .slice A n cap] 29)).alloc (.cells #[.int .i64 0, .slice none 0 0] 29)) (.slice A n cap) l) := ⟨(hown.alloc _).alloc _⟩
  have HBW : Sc (Below w.heap.size w ((w.alloc (.cells #[.int .i64 n0, .slice A n cap] 29)).alloc (.cells #[.int .i64 0, .slice none 0 0] 29))) := ⟨((Below.refl _ _).alloc (Nat.le_refl _) _).alloc (by simp) _⟩
  have H2 := Sc.mk (heap2 w (.cells #[.int .i64 n0, .slice A n cap] 29) (.cells #[.int .i64 0, .slice none 0 0] 29))
  have HR := Sc.mk hr
  have HLN : Sc (l.length ≤ 1000000) := ⟨by omega⟩
  clear hown hr hn hnc
  go_enter Tryd.func43, Tryd.ntmps43
  go_wp2_with fail
  refine (refFind_any _ base n0 _ l p HOA.out HR.out HLN.out).mono ?_
  rintro e w1 ⟨rfl, hb1⟩
  have HB1 := Sc.mk ((hb1.block _ (heap_lt H2.out.1)).trans H2.out.1)
  have HZ1 := Sc.mk ((hb1.block _ (heap_lt H2.out.2)).trans H2.out.2)
  have HO1 : Sc (Own enc2 2 56 base w1 (.slice A n cap) l) := ⟨HOA.out.below hb1⟩
  have HW1 : Sc (Below w.heap.size w w1) := ⟨HBW.out.trans (hb1.mono HBW.out.size)⟩
  obtain ⟨p0, p1⟩ := cells_page HB1.out
  have l1 := heap_lt HB1.out
  have l2 := heap_lt HZ1.out
  clear hb1
  go_wp2_with fail
  go_loopg [9] n (fun kx s9 wr => ∃ (i : Nat) (v8 : Value), s9 = .int .i64 i ∧ i ≤ n ∧ n - i ≤ kx ∧ Sc (PageVar w1 wr w1.heap.size n0 v8 (others (l.take i) p)))
  case atStart => exact ⟨0, .slice none 0 0, rfl, by omega, by omega, ⟨PageVar.made (Below.refl _ _) Own.nil (Nat.le_refl _)⟩⟩
  case round =>
    obtain ⟨i, v8, rfl, hin, hg, HP⟩ := hrel
    by_cases hlt : i < n
    · obtain ⟨x, hx⟩ : ∃ x, l[i]? = some x := ⟨_, List.getElem?_eq_getElem (by rw [HN.out]; exact hlt)⟩
      obtain ⟨g, cq, he, _, hgw, _, _⟩ := HO1.out.form (by rw [HN.out]; omega)
      injection he with hA hn2 hC
      subst hA
      obtain ⟨d0, d1⟩ := (HO1.out.below HP.out.below).cells2 hx
      obtain ⟨A8, k8, c8, rfl⟩ := HP.out.own.slice3
      obtain ⟨e0, e1⟩ := cells_page HP.out.cells
      have f1 := unfrozen_at HP.out.cells 1
      obtain ⟨q0, q1⟩ := cells_page ((HP.out.below.block _ l1).trans HB1.out)
      have hT : l.take (i + 1) = l.take i ++ [x] := by rw [List.take_add_one, hx]; rfl
      have hil : (i : Int) < n := by omega
      have lb := heap_lt HP.out.cells
      by_cases hp : x.1 = p
      · have hb : (x.1 != p) = false := by simp [hp]
        have HP2 : Sc (PageVar w1 wr w1.heap.size n0 (.slice A8 k8 c8) (others (l.take (i + 1)) p)) := ⟨by
          have : others (l.take (i + 1)) p = others (l.take i) p := by unfold others; rw [hT, List.filter_append]; simp [hp]
          rw [this]; exact HP.out⟩
        clear hp hx hn2 hC hT p0 p1 HP
        go_wp2
        go_roundg (n - (i + 1))
        case measure => omega
        case rel => exact ⟨i + 1, _, by go_num, by omega, Nat.le_refl _, HP2⟩
      · have hb : (x.1 != p) = true := by simp [hp]
        obtain ⟨m, hm⟩ : ∃ m, others (l.take i) p = m := ⟨_, rfl⟩
        rw [hm] at HP
        have HM : Sc (others (l.take (i + 1)) p = m ++ [x]) := ⟨by rw [← hm]; unfold others; rw [hT, List.filter_append]; simp [hp]⟩
        have HML : Sc (m.length ≤ 1000000) := ⟨by
          have h1 : m.length ≤ (l.take i).length := by rw [← hm]; exact List.length_filter_le _ _
          rw [List.length_take] at h1; omega⟩
        have HA2 : Sc (m.length + 1 ≤ maxLen) := ⟨by have := HML.out; unfold maxLen; omega⟩
        have HA3 : Sc ((m.length + 1) * 16 ≤ 140737488355328) := ⟨by have := HML.out; omega⟩
        have hi0' : (0 : Int) ≤ (i : Int) := Int.natCast_nonneg _
        have HLW : Sc (w1.heap.size ≤ wr.heap.size) := ⟨HP.out.below.size⟩
        clear hp hx hn2 hC hT p0 p1 hm
        go_wp2_with fail
        go_region_law (go_loud (refine step_append_lies _ (by rfl) (.tmp 35) (.tmp 41) 27 (by rfl) w1.heap.size 56 i0 (.agg #[.int .i64 0, .int .i64 0]) 2 16 Tryd.underlying27 hi hz0 hz1 hz2 rfl (by decide) _ m.length (flat enc2 m) (by rfl) ((HP.out.own.alloc _).drew) ⟨wr.heap.size, 0, none⟩ 1 1 (enc2 x) (by rfl) (by rfl) (World.news_of_block (heap_alloc_new wr (.cells (enc2 x).toArray 56))) (kind2.one x) Nat.one_pos HA2.out HA3.out (by have := HLW.out; simp; omega) (wr.heap.size + 1) (by simp) ?_; intro ge ce we h1 h2 h3 h4; obtain ⟨hce, hpv⟩ := HP.out.append h1 (grown_drew h2) h3; have c1 := (cells_page hce).2; have f2 := unfrozen_at hce 1; have HPV := Sc.mk hpv; clear h1 h2 h3 h4 hce hpv))
        all_goals
          go_wp2
          go_roundg (n - (i + 1))
          case measure => omega
          case rel => exact ⟨i + 1, _, by go_num, by omega, Nat.le_refl _, ⟨by rw [HM.out]; exact HPV.out⟩⟩
    · obtain rfl : i = n := by omega
      have HE : Sc (others (l.take i) p = drop' l p) := ⟨by rw [← HN.out, List.take_length]; exact others_drop HR.out p⟩
      obtain ⟨A8, k8, c8, rfl⟩ := HP.out.own.slice3
      obtain ⟨e0, e1⟩ := cells_page HP.out.cells
      have hz := (HP.out.below.block _ l2).trans HZ1.out
      obtain ⟨z0, z1⟩ := cells_page hz
      have y0 := unfrozen_at hz 0
      have y1 := unfrozen_at hz 1
      obtain ⟨q0, q1⟩ := cells_page ((HP.out.below.block _ l1).trans HB1.out)
      clear hz p0 p1
      go_wp2
      refine bodyPost_ret (v := .tuple #[aggP n0 (.slice A8 k8 c8), .bool (has l p)]) (by simp [results, Tryd.results43, go_sem, z0, z1]) rfl ⟨A8, k8, c8, rfl, ?_⟩
      rw [← HE.out]
      exact page_end (HW1.out.trans (HP.out.below.mono HW1.out.size)) HP.out.own (Nat.le_succ _) l2
end Go.Proofs.YtmafogagkjafbaaDoor
