/- The reference's table of dirty pages: what each of its calls comes to. -/
import Derived.Test.YtmaknknldegmhaaRefD
import Derived.Test.YtmaknknldegmhaaMinD
namespace Go.Proofs.Ytmaknknldegmhaa
open Go.RowKit

structure RTabD (w : World) (tb : Nat) (row : Option Nat) (l : List (Int × Int)) : Prop where
  val : ∃ v : Value, v.ownBlock = row ∧ w.heap[tb]? = some (.cells #[v] 55 (0, 0)) ∧ Own enc2 2 32 0 w v l
  apart : row ≠ some tb
  rising : Rising l
theorem RTabD.kp {w w' : World} {tb : Nat} {row : Option Nat} {l : List (Int × Int)} {S : Nat → Prop} (h : RTabD w tb row l) (k : Kp S w w') (h1 : ¬ S tb) (h2 : ∀ q, row = some q → ¬ S q) : RTabD w' tb row l := by
  obtain ⟨⟨v, hv, hc, hown⟩, hap, hr⟩ := h
  exact ⟨⟨v, hv, k.at hc h1, hown.kp k (fun q hq => h2 q (by rw [← hv]; exact hq))⟩, hap, hr⟩
theorem RTabD.bel {w w' : World} {tb : Nat} {row : Option Nat} {l : List (Int × Int)} (h : RTabD w tb row l) (hb : Below w.heap.size w w') : RTabD w' tb row l := h.kp (Kp.of_below hb (fun _ => False)) id (fun _ _ => id)
def RLeftD (tb : Nat) (row : Option Nat) (l : List (Int × Int)) (w w' : World) : Prop :=
  ∃ row', RTabD w' tb row' l ∧ Kp (fun q => q = tb ∨ some q = row) w w' ∧ (row' = row ∨ ∀ q, row' = some q → w.heap.size ≤ q)
theorem RLeftD.same {tb : Nat} {row : Option Nat} {l : List (Int × Int)} {w w' : World} (h : RTabD w tb row l) (hb : Below w.heap.size w w') : RLeftD tb row l w w' := ⟨row, h.bel hb, Kp.of_below hb _, .inl rfl⟩
theorem RLeftD.stored {tb : Nat} {row : Option Nat} {l : List (Int × Int)} {w w2 : World} {v u : Value} (hc : w2.heap[tb]? = some (.cells #[u] 55 (0, 0))) (hown : Own enc2 2 32 0 w2 v l) (hr : Rising l)
    (hlt : tb < w.heap.size) (hk : Kp (fun q => q = tb ∨ some q = row) w w2) (hat : ∀ q, v.ownBlock = some q → w.heap.size ≤ q) : RLeftD tb row l w (w2.setCell ⟨tb, 0, none⟩ v) := by
  have hne : v.ownBlock ≠ some tb := by
    intro he
    have := hat _ he; omega
  refine ⟨v.ownBlock, ⟨⟨v, rfl, ?_, hown.kp (Kp.setCell w2 _ v) (fun q hq he => hne (by rw [hq, he]))⟩, hne, hr⟩, ?_, .inr hat⟩
  · rw [set_one hc 0 v]; rfl
  · exact hk.trans (Kp.setCell w2 ⟨tb, 0, none⟩ v) (fun q hq => .inl (.inl hq))

set_option maxHeartbeats 1000000 in
theorem rFrom_any (w : World) (tb : Nat) (row : Option Nat) (l : List (Int × Int)) (p : Int) (h : RTabD w tb row l) (hlen : l.length ≤ 1000000) :
    Calls Try.prog 32 #[.pointer (some ⟨tb, 0, none⟩), .int .i64 p] w fun e w' => e = .returned (.tuple #[.int .i64 ((look l p).getD 0), .bool (has l p)]) ∧ w = w' := by
  obtain ⟨⟨v, hv, hc, hown⟩, hap, hr⟩ := h
  obtain ⟨A, cap, rfl, hnc, hcm⟩ := hown.slice
  obtain ⟨n, hn⟩ : ∃ n, l.length = n := ⟨_, rfl⟩
  rw [hn] at hown hlen hc
  have hc1 := cell_one hc
  have HN := Sc.mk hn
  have HO := Sc.mk hown
  have HR := Sc.mk hr
  clear hown hr hc hv hap hn hnc
  go_enter Try.func32, Try.ntmps32
  go_wp2
  go_loop [6] (fun s6 => ∃ i : Nat, s6 = .int .i64 i ∧ i ≤ n ∧ Sc (∀ j x, j < i → l[j]? = some x → x.1 ≠ p)) (fun s6 => n - (intOf s6).toNat)
  case atStart => exact ⟨0, rfl, by omega, ⟨fun j x hj => absurd hj (Nat.not_lt_zero _)⟩⟩
  case round =>
    obtain ⟨i, rfl, hi, HI⟩ := hrel
    by_cases hlt : i < n
    · obtain ⟨x, hx⟩ : ∃ x, l[i]? = some x := ⟨_, List.getElem?_eq_getElem (by rw [HN.out]; exact hlt)⟩
      obtain ⟨g, cq, he, _, _, _, _⟩ := HO.out.form (by rw [HN.out]; omega)
      injection he with hA _ hC
      subst hA
      obtain ⟨d0, d1⟩ := HO.out.cells2 hx
      have HX := Sc.mk hx
      have hil : (i : Int) < n := by omega
      clear hx hC
      by_cases hp : x.1 = p
      · have hb : (x.1 == p) = true := by simp [hp]
        have HL : Sc (look l p = some x.2 ∧ has l p = true) := ⟨by rw [← hp]; exact ⟨look_of_mem HR.out (List.mem_of_getElem? HX.out), has_place HX.out⟩⟩
        clear hp
        go_wp2
        go_ret2
        exact ⟨by rw [HL.out.1, HL.out.2]; rfl, rfl⟩
      · have hb : (x.1 == p) = false := by simp [hp]
        have HJ : Sc (∀ j y, j < i + 1 → l[j]? = some y → y.1 ≠ p) := ⟨fun j y hj hy => by
          rcases Nat.lt_succ_iff_lt_or_eq.1 hj with h | h
          · exact HI.out j y h hy
          · subst h; have h1 := HX.out; rw [hy] at h1; injection h1 with h1; subst h1; exact hp⟩
        clear hp
        go_wp2
        go_round
        case rel => exact ⟨i + 1, by go_num, by omega, HJ⟩
        case measure => simp [intOf]; omega
    · obtain rfl : i = n := by omega
      have HL : Sc (has l p = false) := ⟨by
        cases hh : has l p with
        | false => rfl
        | true =>
          obtain ⟨x, hx, hk⟩ := has_iff.1 hh
          obtain ⟨j, hj⟩ := List.mem_iff_getElem?.1 hx
          exact absurd hk (HI.out j x (by rw [← HN.out]; exact (List.getElem?_eq_some_iff.1 hj).1) hj)⟩
      have HL2 : Sc (look l p = none) := ⟨by unfold look; rw [if_neg (by rw [HL.out]; exact Bool.false_ne_true)]⟩
      go_wp2
      go_ret2
      exact ⟨by rw [HL.out, HL2.out]; rfl, rfl⟩
end Go.Proofs.Ytmaknknldegmhaa
