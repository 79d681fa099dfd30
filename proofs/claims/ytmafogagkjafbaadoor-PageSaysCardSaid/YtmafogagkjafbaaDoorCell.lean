/- cell.places, cell.Put, cell.Get: where all bytes are there. -/
import Derived.Laws.BitsLemmas
import Derived.Laws.Bits64
import Derived.Test.YtmafogagkjafbaaDoorCloB
namespace Go.Proofs.YtmafogagkjafbaaDoor
open Go.RowKit

theorem Own.cellB {w : World} {g n cap base : Nat} {e : TypeId} {l : List Int} (h : Own encB 1 e base w (.slice (some ⟨g, 0, none⟩) n cap) l) {k : Nat} {x : Int} (hx : l[k]? = some x) : w.cell? ⟨g, k, none⟩ = some (.int .u8 x) := by
  have := h.cell kindB hx 0 _ rfl
  rw [Nat.mul_one, Nat.add_zero] at this
  exact this
theorem Own.setB {w : World} {g n cap base : Nat} {e : TypeId} {l : List Int} (h : Own encB 1 e base w (.slice (some ⟨g, 0, none⟩) n cap) l) {k : Nat} {x : Int} (y : Int) (hx : l[k]? = some x) : Own encB 1 e base (w.setCell ⟨g, k, none⟩ (.int .u8 y)) (.slice (some ⟨g, 0, none⟩) n cap) (l.set k y) := by
  have := Own.set kindB h (k := k) (j := 0) (x := x) (x' := y) (u := .int .u8 y) hx (by omega) rfl
  rw [Nat.mul_one, Nat.add_zero] at this
  exact this
theorem pow_256 (m : Nat) : (2 : Int) ^ (8 * m) = 256 ^ m := by rw [Int.pow_mul]; rfl
/-- A byte of a number, as the machine takes it. -/
theorem dig_u8 (n : Int) (y m : Nat) (hy : y = 8 * m) : n / 2 ^ y % 256 = dig m n := by
  rw [hy, pow_256]
  rfl
theorem wraps_u64 (n : Int) (h₀ : 0 ≤ n) (h₁ : n < 2 ^ 64) : IntKind.u64.wrap n = n := by rw [IntKind.wrap_u64]; omega
theorem or_high (j : Nat) (hj : j < 8) (a x : Int) (h0 : 0 ≤ a) (h1 : a < 256 ^ j) (hx0 : 0 ≤ x) (hx1 : x < 256) : bits .or .u64 a (IntKind.u64.wrap (IntKind.u64.wrap x * 2 ^ (8 * j))) = a + 256 ^ j * x := by
  rw [pow_256, wraps_u64 x hx0 (by omega)]
  have hp : (0 : Int) < 256 ^ j := Int.pow_pos (by decide)
  have hm : (256 : Int) ^ j * 256 ≤ 2 ^ 64 := by
    have : ∀ i, i < 8 → (256 : Int) ^ i * 256 ≤ 2 ^ 64 := by decide
    exact this j hj
  have hb : x * 256 ^ j ≤ 255 * 256 ^ j := Int.mul_le_mul_of_nonneg_right (by omega) (by omega)
  have hb0 : 0 ≤ x * 256 ^ j := Int.mul_nonneg hx0 (by omega)
  rw [wraps_u64 _ hb0 (by omega)]
  have hc : ∀ a b : Int, 0 ≤ a → a < 2 ^ 64 → 0 ≤ b → b < 2 ^ 64 → bits .or .u64 a b = bits .or .u64 b a := by
    intro a b h0 h1 h2 h3
    obtain ⟨a, rfl⟩ := Int.eq_ofNat_of_zero_le h0
    obtain ⟨b, rfl⟩ := Int.eq_ofNat_of_zero_le h2
    rw [(bits_nat .u64 64 (by decide) wraps_u64 a b (by exact_mod_cast h1) (by exact_mod_cast h3)).2, (bits_nat .u64 64 (by decide) wraps_u64 b a (by exact_mod_cast h3) (by exact_mod_cast h1)).2, Nat.or_comm]
  rw [hc _ _ h0 (by omega) hb0 (by omega), bits_join .u64 64 (by decide) wraps_u64 (8 * j) _ a hb0 (by rw [pow_256]; exact Int.mul_emod_left _ _) (by omega) h0 (by rw [pow_256]; exact h1) (by omega), Int.mul_comm x, Int.add_comm]
theorem getS_or {l : List Int} {at_ j : Nat} {x : Int} (hb : Byt l) (hx : l[at_ + j]? = some x) (hj : j < 8) (y : Nat) (hy : y = j) : bits BinOp.or IntKind.u64 (getS l at_ j) (IntKind.u64.wrap (IntKind.u64.wrap x * 2 ^ (8 * y))) = getS l at_ (j + 1) := by
  subst hy
  have hd : l.getD (at_ + y) 0 = x := by rw [List.getD_eq_getElem?_getD, hx]; rfl
  have h1 := hb.get (at_ + y)
  rw [hd] at h1
  rw [or_high y hj _ _ (getS_lo hb _ _) (getS_hi hb _ _) h1.1 h1.2, getS_snoc, hd]

set_option maxHeartbeats 400000 in
theorem places_any (w : World) (A : Option Addr) (n c at_ size : Nat) (h0 : 1 ≤ size) (h1 : size ≤ 8) (h2 : at_ + size ≤ n) (h3 : n ≤ 1000000) :
    Calls Tryd.prog 60 #[.slice A n c, .int .i64 at_, .int .i64 size] w fun e w' => e = .returned (.tuple #[.int .i64 at_, .int .i64 ((at_ : Int) + (size : Int))]) ∧ w' = w := by
  have m1 : max (at_ : Int) 0 = at_ := by omega
  have m2 : max (size : Int) 1 = size := by omega
  have m3 : min (size : Int) 8 = size := by omega
  have m4 : min ((at_ : Int) + (size : Int)) n = (at_ : Int) + size := by omega
  go_enter Tryd.func60, Tryd.ntmps60
  go_wp2
  refine bodyPost_ret (v := .tuple #[.int .i64 at_, .int .i64 ((at_ : Int) + (size : Int))]) (by simp [results, Tryd.results60, go_sem]) rfl ⟨rfl, rfl⟩

set_option maxRecDepth 4000 in
set_option maxHeartbeats 1000000 in
theorem cellPut_any (w : World) (base : Nat) (v : Value) (l : List Int) (at_ size : Nat) (n : Int) (hown : Own encB 1 5 base w v l) (hlen : l.length ≤ 1000000) (h0 : 1 ≤ size) (h1 : size ≤ 8) (h2 : at_ + size ≤ l.length) :
    Calls Tryd.prog 49 #[v, .int .i64 at_, .int .i64 size, .int .u64 n] w (FreshB (putS l at_ size n) w) := by
  obtain ⟨N, hN⟩ : ∃ N, l.length = N := ⟨_, rfl⟩
  obtain ⟨g0, cap0, rfl, _, _, hnc, _⟩ := hown.form (by omega)
  rw [hN] at hown hlen h2 hnc ⊢
  have HN := Sc.mk hN
  have HO := Sc.mk hown
  clear hown hN
  have hc1 : ¬ (at_ : Int) ≥ N := by omega
  have hc2 : ¬ (at_ : Int) < -8 := by omega
  go_enter Tryd.func49, Tryd.ntmps49
  go_wp2_with (first | (go_at_call 59; refine (byteClone_any _ base _ l HO.out (by rw [HN.out]; exact hlen)).mono ?_; rintro e w2 ⟨v2, rfl, ho, hb⟩; obtain ⟨g, cap, rfl, hg, _, hcn, _⟩ := ho.form (by rw [HN.out]; omega); rw [HN.out] at ho hcn ⊢; have HO2 := Sc.mk ho; have HB2 := Sc.mk hb; have HG := Sc.mk hg; clear ho hb hg) | (go_at_call 60; refine (places_any _ _ N _ at_ size h0 h1 h2 hlen).mono ?_; rintro e w3 ⟨rfl, rfl⟩))
  go_loopg [12] size (fun kx s12 wr => ∃ (k j : Nat), s12 = .int .i64 k ∧ k = at_ + j ∧ j ≤ size ∧ size - j ≤ kx ∧ Sc (Below w.heap.size w wr) ∧ Sc (Own encB 1 5 w.heap.size wr (.slice (some ⟨g, 0, none⟩) N cap) (putS l at_ j n)))
  case atStart => exact ⟨at_, 0, rfl, by omega, by omega, by omega, HB2, ⟨by rw [putS_zero]; exact HO2.out⟩⟩
  case round =>
    obtain ⟨k, j, rfl, hk, hj, hg, HB, HR⟩ := hrel
    by_cases hlt : j < size
    · have hkN : k < N := by omega
      have hki : (k : Int) < (at_ : Int) + size := by omega
      have hkn : (k : Int) < N := by omega
      obtain ⟨x, hx⟩ : ∃ x, (putS l at_ j n)[k]? = some x := ⟨_, List.getElem?_eq_getElem (by rw [putS_length, HN.out]; exact hkN)⟩
      have c0 := HR.out.cellB hx
      have z0 := HR.out.unfrozen k
      have HX := Sc.mk hx
      have HS : Sc (putS l at_ (j + 1) n = (putS l at_ j n).set k (dig j n)) := ⟨by rw [putS_succ l at_ j n (by rw [HN.out]; omega), hk]⟩
      have hge : (at_ : Int) ≤ k := by omega
      have HD : Sc (8 * (k - at_) = 8 * j) := ⟨by omega⟩
      have HKD := Sc.mk hk
      clear hx hk
      go_wp2
      go_roundg (size - (j + 1))
      case measure => omega
      case rel => exact ⟨k + 1, j + 1, by go_num, by have := HKD.out; omega, by omega, Nat.le_refl _, ⟨HB.out.setCell HG.out _⟩, ⟨by rw [HS.out, ← dig_u8 n _ j HD.out]; exact HR.out.setB _ HX.out⟩⟩
    · obtain rfl : j = size := by omega
      have hki : ¬ (k : Int) < (at_ : Int) + j := by omega
      have HKD := Sc.mk hk
      clear hk
      go_wp2
      go_ret
      exact ⟨_, rfl, HR.out, HB.out⟩

/-- A row of bytes that can be read. -/
def RdB (w : World) (v : Value) (l : List Int) : Prop :=
  (l = [] ∧ ∃ A c, v = .slice A 0 c) ∨ ∃ b off cap, v = .slice (some ⟨b, off, none⟩) l.length cap ∧ 0 < l.length ∧ l.length ≤ cap ∧ ∀ k x, l[k]? = some x → w.cell? ⟨b, off + k, none⟩ = some (.int .u8 x)
theorem RdB.form {w : World} {v : Value} {l : List Int} (h : RdB w v l) (hl : 0 < l.length) : ∃ b off cap, v = .slice (some ⟨b, off, none⟩) l.length cap ∧ 0 < l.length ∧ l.length ≤ cap ∧ ∀ k x, l[k]? = some x → w.cell? ⟨b, off + k, none⟩ = some (.int .u8 x) := by
  rcases h with ⟨rfl, _⟩ | h
  · simp at hl
  · exact h
theorem RdB.bel {w w' : World} {v : Value} {l : List Int} (h : RdB w v l) (hb : Below w.heap.size w w') : RdB w' v l := by
  rcases h with h | ⟨b, off, cap, hv, h0, h1, h2⟩
  · exact .inl h
  · exact .inr ⟨b, off, cap, hv, h0, h1, fun k x hx => (hb.cell (World.block_lt_of_cell? _ _ (h2 k x hx))).trans (h2 k x hx)⟩
theorem RdB.slice {w : World} {v : Value} {l : List Int} (h : RdB w v l) : ∃ A c, v = .slice A l.length c := by
  rcases h with ⟨rfl, A, c, rfl⟩ | ⟨b, off, cap, rfl, _⟩
  · exact ⟨_, _, rfl⟩
  · exact ⟨_, _, rfl⟩
theorem Own.rd {w : World} {base : Nat} {e : TypeId} {v : Value} {l : List Int} (h : Own encB 1 e base w v l) : RdB w v l := by
  rcases Nat.eq_zero_or_pos l.length with h0 | h0
  · obtain ⟨A, c, rfl, _, _⟩ := h.slice
    rw [h0]
    exact .inl ⟨List.eq_nil_of_length_eq_zero h0, _, _, rfl⟩
  · obtain ⟨g, cap, rfl, _, _, hn, _⟩ := h.form h0
    exact .inr ⟨g, 0, cap, rfl, h0, hn, fun k x hx => by rw [Nat.zero_add]; exact h.cellB hx⟩

set_option maxRecDepth 4000 in
set_option maxHeartbeats 1000000 in
theorem cellGet_any (w : World) (v : Value) (l : List Int) (at_ size : Nat) (hown : RdB w v l) (hbyt : Byt l) (hlen : l.length ≤ 1000000) (h0 : 1 ≤ size) (h1 : size ≤ 8) (h2 : at_ + size ≤ l.length) :
    Calls Tryd.prog 50 #[v, .int .i64 at_, .int .i64 size] w fun e w' => e = .returned (.int .u64 (getS l at_ size)) ∧ w' = w := by
  obtain ⟨N, hN⟩ : ∃ N, l.length = N := ⟨_, rfl⟩
  obtain ⟨g0, o0, cap0, rfl, _, hnc, hcells⟩ := hown.form (by omega)
  rw [hN] at hown hlen h2 hnc ⊢
  have HN := Sc.mk hN
  have HO := Sc.mk hcells
  have HY := Sc.mk hbyt
  clear hown hN hbyt hcells
  have hc1 : ¬ (at_ : Int) ≥ N := by omega
  have hc2 : ¬ (at_ : Int) < -8 := by omega
  go_enter Tryd.func50, Tryd.ntmps50
  go_wp2_with (go_at_call 60; refine (places_any _ _ N _ at_ size h0 h1 h2 hlen).mono ?_; rintro e w3 ⟨rfl, rfl⟩)
  go_loop [7, 10] (fun s7 s10 => ∃ (k j : Nat), s10 = .int .i64 k ∧ s7 = .int .u64 (getS l at_ j) ∧ k = at_ + j ∧ j ≤ size) (fun _ s10 => at_ + size - (intOf s10).toNat)
  case atStart => exact ⟨at_, 0, rfl, rfl, by omega, by omega⟩
  case round =>
    obtain ⟨k, j, rfl, rfl, hk, hj⟩ := hrel
    by_cases hlt : j < size
    · have hkN : k < N := by omega
      have hki : (k : Int) < (at_ : Int) + size := by omega
      have hkn : (k : Int) < N := by omega
      obtain ⟨x, hx⟩ : ∃ x, l[k]? = some x := ⟨_, List.getElem?_eq_getElem (by rw [HN.out]; exact hkN)⟩
      have c0 := HO.out k x hx
      have HX := Sc.mk hx
      have hge : (at_ : Int) ≤ k := by omega
      have HOR : Sc (bits BinOp.or IntKind.u64 (getS l at_ j) (IntKind.u64.wrap (IntKind.u64.wrap x * 2 ^ (8 * (k - at_)))) = getS l at_ (j + 1)) := ⟨getS_or HY.out (by rw [hk] at hx; exact hx) (by omega) _ (by omega)⟩
      have HKD := Sc.mk hk
      clear hx hk
      go_wp2
      go_round
      case measure => simp only [intOf]; omega
      case rel => exact ⟨k + 1, j + 1, by go_num, by rw [HOR.out], by have := HKD.out; omega, by omega⟩
    · obtain rfl : j = size := by omega
      have hki : ¬ (k : Int) < (at_ : Int) + j := by omega
      have HKD := Sc.mk hk
      clear hk
      go_wp2
      go_ret
      exact ⟨rfl, rfl⟩
end Go.Proofs.YtmafogagkjafbaaDoor
