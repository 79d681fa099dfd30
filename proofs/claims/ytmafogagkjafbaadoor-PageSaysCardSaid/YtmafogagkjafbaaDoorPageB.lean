/- A page's bytes: page.Bytes. -/
import Derived.Test.YtmafogagkjafbaaDoorCell
import Derived.Test.YtmafogagkjafbaaDoorCheck
namespace Go.Proofs.YtmafogagkjafbaaDoor
open Go.RowKit

/-- 256 bytes, all 0. -/
def zeroB : List Int := List.replicate 256 0
theorem zeroB_length : zeroB.length = 256 := List.length_replicate ..
theorem zeroB_byt : Byt zeroB := fun z hz => by have := List.eq_of_mem_replicate hz; omega
def zeroRow : Array Value := (flat encB zeroB).toArray
/-- One entry laid into a page's bytes. -/
def entB (b : List Int) (k : Nat) (x : Int × Int) : List Int := putS (putS b (16 + 12 * k) 4 (IntKind.u64.wrap x.1)) (20 + 12 * k) 8 (IntKind.u64.wrap x.2)
def fillB (b : List Int) (l : List (Int × Int)) : Nat → List Int
  | 0 => b
  | k + 1 => entB (fillB b l k) k (l.getD k (0, 0))
def headB (n : Int) (m : Nat) : List Int := putS (putS zeroB 0 4 (IntKind.u64.wrap n)) 4 2 (m : Int)
/-- A page's bytes. -/
def pageB (n : Int) (l : List (Int × Int)) : List Int := fillB (headB n l.length) l l.length
theorem headB_length (n : Int) (m : Nat) : (headB n m).length = 256 := by unfold headB; rw [putS_length, putS_length, zeroB_length]
theorem fillB_length (b : List Int) (l : List (Int × Int)) (k : Nat) : (fillB b l k).length = b.length := by
  induction k with
  | zero => rfl
  | succ k ih => unfold fillB entB; rw [putS_length, putS_length, ih]
theorem pageB_length (n : Int) (l : List (Int × Int)) : (pageB n l).length = 256 := by unfold pageB; rw [fillB_length, headB_length]
theorem headB_byt (n : Int) (m : Nat) : Byt (headB n m) := putS_byt (putS_byt zeroB_byt _ _ _) _ _ _
theorem fillB_byt {b : List Int} (h : Byt b) (l : List (Int × Int)) (k : Nat) : Byt (fillB b l k) := by
  induction k with
  | zero => exact h
  | succ k ih => exact putS_byt (putS_byt ih _ _ _) _ _ _
theorem pageB_byt (n : Int) (l : List (Int × Int)) : Byt (pageB n l) := fillB_byt (headB_byt _ _) _ _

theorem cellPutI (w : World) (base : Nat) (v : Value) (l : List Int) (a s : Int) (at_ size : Nat) (n : Int) (hown : Own encB 1 5 base w v l) (ha : a = at_) (hs : s = size) (hlen : l.length ≤ 1000000) (h0 : 1 ≤ size) (h1 : size ≤ 8) (h2 : at_ + size ≤ l.length) :
    Calls Tryd.prog 49 #[v, .int .i64 a, .int .i64 s, .int .u64 n] w (FreshB (putS l at_ size n) w) := by
  subst ha hs
  exact cellPut_any w base v l at_ size n hown hlen h0 h1 h2
theorem cellGetI (w : World) (v : Value) (l : List Int) (a s : Int) (at_ size : Nat) (hown : RdB w v l) (ha : a = at_) (hs : s = size) (hbyt : Byt l) (hlen : l.length ≤ 1000000) (h0 : 1 ≤ size) (h1 : size ≤ 8) (h2 : at_ + size ≤ l.length) :
    Calls Tryd.prog 50 #[v, .int .i64 a, .int .i64 s] w fun e w' => e = .returned (.int .u64 (getS l at_ size)) ∧ w' = w := by
  subst ha hs
  exact cellGet_any w v l at_ size hown hbyt hlen h0 h1 h2
theorem own_zeros (W : World) : Own encB 1 5 W.heap.size (W.alloc (.cells zeroRow 5)) (.slice (some ⟨W.heap.size, 0, none⟩) 256 256) zeroB :=
  Own.of_block (heap_alloc_new _ _) (Nat.le_refl _) kindB zeroB_length (Nat.le_refl _) (by unfold maxLen; omega) (by kernel_rfl) (by unfold zeroRow; rw [List.take_of_length_le (by rw [kindB.flat_length, zeroB_length]; exact Nat.le_refl _)])

/-- What Bytes leaves: a page's bytes in new memory, or the error that it can't be. -/
def BytesLeft (f : Nat → Addr) (n : Int) (l : List (Int × Int)) (w : World) (e : Ending) (w' : World) : Prop :=
  ((OkP n l ∧ ∃ A k c, e = .returned (.tuple #[.slice A k c, .nilIface]) ∧ Own encB 1 5 w.heap.size w' (.slice A k c) (pageB n l)) ∨ (¬ OkP n l ∧ e = .returned (.tuple #[.slice none 0 0, errV (f 1)]))) ∧ Below w.heap.size w w'

set_option maxRecDepth 4000 in
set_option maxHeartbeats 2000000 in
theorem pageBytes_any (f : Nat → Addr) (w : World) (base : Nat) (n : Int) (v : Value) (l : List (Int × Int)) (hE : Errs w f) (hown : Own enc2 2 56 base w v l) (hlen : l.length ≤ 1000000) :
    Calls Tryd.prog 31 #[aggP n v] w (BytesLeft f n l w) := by
  obtain ⟨A, cap, rfl, hnc, hcm⟩ := hown.slice
  obtain ⟨N, hN⟩ : ∃ N, l.length = N := ⟨_, rfl⟩
  rw [hN] at hown hlen ⊢
  have HN := Sc.mk hN
  have hmk : ∀ W, (Instr.makeSlice 61 (.int .i64 256) (.int .i64 256)).run Tryd.prog W = .ok (.slice (some ⟨W.heap.size, 0, none⟩) 256 256) (W.alloc (.cells zeroRow 5)) := fun _ => by kernel_rfl
  have HB1 : Sc ((w.alloc (.cells #[.int .i64 n, .slice A N cap] 29)).heap[w.heap.size]? = some (.cells #[.int .i64 n, .slice A N cap] 29 (0, 0))) := ⟨heap_alloc_new _ _⟩
  obtain ⟨b0, b1⟩ := cells_page HB1.out
  have HW1 : Sc (Below w.heap.size w (w.alloc (.cells #[.int .i64 n, .slice A N cap] 29))) := ⟨(Below.refl _ _).alloc (Nat.le_refl _) _⟩
  have HE1 := Sc.mk (hE.bel HW1.out)
  have HO1 : Sc (Own enc2 2 56 base (w.alloc (.cells #[.int .i64 n, .slice A N cap] 29)) (.slice A N cap) l) := ⟨hown.alloc _⟩
  clear hown hN hE hnc hcm
  go_enter Tryd.func31, Tryd.ntmps31
  go_wp2_with fail
  refine (pageCheck_any f _ base n _ l HE1.out HO1.out (by rw [HN.out]; exact hlen)).mono ?_
  rintro e w1 ⟨hres, hb1⟩
  have HBC := Sc.mk hb1
  have HWB := Sc.mk (below_down HW1.out hb1)
  rcases hres with ⟨hok, rfl⟩ | ⟨hok, rfl⟩
  · have HOK := Sc.mk hok
    have c0 := (hb1.cell (World.block_lt_of_cell? _ _ b0)).trans b0
    have c1 := (hb1.cell (World.block_lt_of_cell? _ _ b1)).trans b1
    have HO2 := Sc.mk (HO1.out.below hb1)
    have l1 := World.block_lt_of_cell? _ _ c1
    clear b0 b1 hb1 hok
    have SK : Sc (∀ W, Below w1.heap.size w1 W → W.cell? ⟨w.heap.size, 0, none⟩ = some (.int .i64 n) ∧ W.cell? ⟨w.heap.size, 1, none⟩ = some (.slice A N cap)) := ⟨fun W hb => ⟨(hb.cell (World.block_lt_of_cell? _ _ c0)).trans c0, (hb.cell (World.block_lt_of_cell? _ _ c1)).trans c1⟩⟩
    go_upto_region 4 with fail
    go_cut [5] from 14 to 19 (fun s5 wx => ∃ (A5 : Option Addr) (c5 : Nat), s5 = .slice A5 256 c5 ∧ Sc (Own encB 1 5 w1.heap.size wx (.slice A5 256 c5) (putS zeroB 0 4 (IntKind.u64.wrap n))) ∧ Sc (Below w1.heap.size w1 wx))
    case first =>
      go_region_held3 (fun W => W.cell? ⟨w.heap.size, 0, none⟩ = some (.int .i64 n)) (first | exact (SK.out _ HBC2.out).1 | exact (SK.out _ (Below.refl _ _)).1 | exact (SK.out _ (Below.refl _ _).drew).1 | exact (SK.out _ ((Below.refl _ _).alloc (Nat.le_refl _) _)).1 | exact (SK.out _ ((Below.refl _ _).drew.alloc (Nat.le_refl _) _)).1)
        (first | (go_at_call 49; refine (cellPutI _ w1.heap.size _ zeroB _ _ 0 4 _ (by first | exact own_zeros w1 | exact own_zeros w1.drew | exact (own_zeros w1.drew).drew) rfl rfl (by rw [zeroB_length]; omega) (by omega) (by omega) (by rw [zeroB_length]; omega)).mono ?_; rintro e w2 ⟨v2, rfl, ho, hb2⟩; obtain ⟨A2, c2, rfl, _, _⟩ := ho.slice; rw [putS_length, zeroB_length] at ho ⊢; have HBC2 : Sc (Below w1.heap.size w1 w2) := ⟨by first | exact ((Below.refl w1.heap.size w1).drew.alloc (Nat.le_refl _) _).trans (hb2.mono (by simp)) | exact ((Below.refl w1.heap.size w1).alloc (Nat.le_refl _) _).trans (hb2.mono (by simp))⟩; have HO3 : Sc (Own encB 1 5 w1.heap.size w2 (.slice A2 256 c2) (putS zeroB 0 4 (IntKind.u64.wrap n))) := ⟨ho.mono (by simp)⟩; clear ho hb2))
      all_goals
        go_wp2_with fail
        go_meet
        case rel => exact ⟨_, _, rfl, HO3, HBC2⟩
    case rest =>
      obtain ⟨A5, c5, rfl, HO3, HB3⟩ := hcut
      have hN20 : N ≤ 20 := by rw [← HN.out]; exact HOK.out.2.2.1
      have d0 := (SK.out _ HB3.out).1
      have d1 := (SK.out _ HB3.out).2
      have l2 : w.heap.size < wc.heap.size := Nat.lt_of_lt_of_le l1 HB3.out.size
      clear c0 c1 l1
      go_wp2_with (go_at_call 49; refine (cellPutI _ w1.heap.size _ _ _ _ 4 2 _ HO3.out rfl rfl (by rw [putS_length, zeroB_length]; omega) (by omega) (by omega) (by rw [putS_length, zeroB_length]; omega)).mono ?_; rintro e w2 ⟨v2, rfl, ho, hb2⟩; obtain ⟨A2, c2, rfl, _, _⟩ := ho.slice; rw [putS_length, putS_length, zeroB_length] at ho ⊢; have HB4 : Sc (Below w1.heap.size w1 w2) := ⟨HB3.out.trans (hb2.mono HB3.out.size)⟩; have HO4 := Sc.mk (ho.mono HB3.out.size); have e0 := (SK.out _ HB4.out).1; have e1 := (SK.out _ HB4.out).2; clear ho hb2)
      have HH : Sc (putS (putS zeroB 0 4 (IntKind.u64.wrap n)) 4 2 (N : Int) = headB n N) := ⟨rfl⟩
      rw [HH.out] at HO4
      have l3 : w.heap.size < w2.heap.size := World.block_lt_of_cell? _ _ e1
      clear d0 d1 l2
      go_loopg [5, 28] N (fun kx s5 s28 wr => ∃ (i : Nat) (A6 : Option Addr) (c6 : Nat), s5 = .slice A6 256 c6 ∧ s28 = .int .i64 i ∧ i ≤ N ∧ N - i ≤ kx ∧ Sc (Own encB 1 5 w1.heap.size wr (.slice A6 256 c6) (fillB (headB n N) l i)) ∧ Sc (Below w1.heap.size w1 wr))
      case atStart => exact ⟨0, _, _, rfl, rfl, by omega, by omega, HO4, HB4⟩
      case round =>
        obtain ⟨i, A6, c6, rfl, rfl, hi, hg, HR, HB⟩ := hrel
        by_cases hlt : i < N
        · obtain ⟨x, hx⟩ : ∃ x, l[i]? = some x := ⟨_, List.getElem?_eq_getElem (by rw [HN.out]; exact hlt)⟩
          obtain ⟨g, cq, he, _, _, _, _⟩ := HO2.out.form (by rw [HN.out]; omega)
          injection he with hA hn2 hC
          subst hA
          have HO7 := Sc.mk (HO2.out.below HB.out)
          obtain ⟨f0, f1⟩ := HO7.out.cells2 hx
          have hil : (i : Int) < N := by omega
          have HFX : Sc (fillB (headB n N) l (i + 1) = putS (putS (fillB (headB n N) l i) (16 + 12 * i) 4 (IntKind.u64.wrap x.1)) (20 + 12 * i) 8 (IntKind.u64.wrap x.2)) := ⟨by rw [fillB, entB, List.getD_eq_getElem?_getD, hx]; rfl⟩
          have HLF : Sc ((fillB (headB n N) l i).length = 256) := ⟨by rw [fillB_length, headB_length]⟩
          have HEE : Sc ((wr.alloc (.cells #[.int .i64 x.1, .int .i64 x.2] 56)).heap[wr.heap.size]? = some (.cells #[.int .i64 x.1, .int .i64 x.2] 56 (0, 0))) := ⟨heap_alloc_new _ _⟩
          obtain ⟨h0, h1⟩ := cells_page HEE.out
          have SK2 : Sc (∀ W, Below (wr.alloc (.cells #[.int .i64 x.1, .int .i64 x.2] 56)).heap.size (wr.alloc (.cells #[.int .i64 x.1, .int .i64 x.2] 56)) W → W.cell? ⟨wr.heap.size, 0, none⟩ = some (.int .i64 x.1) ∧ W.cell? ⟨wr.heap.size, 1, none⟩ = some (.int .i64 x.2)) := ⟨fun W hb => ⟨(hb.cell (World.block_lt_of_cell? _ _ h0)).trans h0, (hb.cell (World.block_lt_of_cell? _ _ h1)).trans h1⟩⟩
          have HW8 : Sc (Below w1.heap.size w1 (wr.alloc (.cells #[.int .i64 x.1, .int .i64 x.2] 56))) := ⟨HB.out.alloc HB.out.size _⟩
          have HR8 : Sc (Own encB 1 5 w1.heap.size (wr.alloc (.cells #[.int .i64 x.1, .int .i64 x.2] 56)) (.slice A6 256 c6) (fillB (headB n N) l i)) := ⟨HR.out.alloc _⟩
          clear hx hC hn2 h0 h1
          go_upto_region 10 with fail
          have HEQ : Sc ((16 : Int) + (i : Int) * 12 = ((16 + 12 * i : Nat) : Int) ∧ (16 : Int) + (i : Int) * 12 + 4 = ((20 + 12 * i : Nat) : Int)) := ⟨by omega, by omega⟩
          have HI : Sc (16 + 12 * i + 4 ≤ 256 ∧ 20 + 12 * i + 8 ≤ 256) := ⟨by omega, by omega⟩
          have hi20 : i < 20 := by omega
          have hw1 : IntKind.i64.wrap ((16 : Int) + (i : Int) * 12 + 4) = (16 : Int) + (i : Int) * 12 + 4 := IntWalk.i64_in _ ⟨by omega, by omega⟩
          go_region_held3 (fun W => W.cell? ⟨wr.heap.size, 0, none⟩ = some (.int .i64 x.1) ∧ W.cell? ⟨wr.heap.size, 1, none⟩ = some (.int .i64 x.2)) (first | with_reducible exact SK2.out _ HB11.out | with_reducible exact SK2.out _ HB10.out | with_reducible exact SK2.out _ (Below.refl _ _) | with_reducible exact SK2.out _ (Below.refl _ _).drew | with_reducible exact SK2.out _ HB10.out.drew)
            (first | (go_at_call 49; (with_reducible refine (cellPutI _ w1.heap.size _ (fillB (headB n N) l i) _ _ (16 + 12 * i) 4 _ (by first | with_reducible exact HR8.out | with_reducible exact HR8.out.drew) (by with_reducible exact HEQ.out.1) (by omega) (by rw [HLF.out]; omega) (by omega) (by omega) (by rw [HLF.out]; exact HI.out.1)).mono ?_); rintro e w3 ⟨v3, rfl, ho, hb3⟩; obtain ⟨A3, c3, rfl, _, _⟩ := ho.slice; rw [putS_length, HLF.out] at ho ⊢; have HB10 : Sc (Below (wr.alloc (.cells #[.int .i64 x.1, .int .i64 x.2] 56)).heap.size (wr.alloc (.cells #[.int .i64 x.1, .int .i64 x.2] 56)) w3) := ⟨by first | with_reducible exact hb3 | exact (Below.refl _ _).drew.trans hb3⟩; have HO10 := Sc.mk (ho.mono HW8.out.size); clear ho hb3) | (go_at_call 49; (with_reducible refine (cellPutI _ w1.heap.size _ _ _ _ (20 + 12 * i) 8 _ (by first | with_reducible exact HO10.out | with_reducible exact HO10.out.drew) (by first | with_reducible exact HEQ.out.2 | (rw [hw1]; with_reducible exact HEQ.out.2)) (by omega) (by rw [putS_length, HLF.out]; omega) (by omega) (by omega) (by rw [putS_length, HLF.out]; exact HI.out.2)).mono ?_); rintro e w4 ⟨v4, rfl, ho, hb4⟩; obtain ⟨A4, c4, rfl, _, _⟩ := ho.slice; rw [putS_length, putS_length, HLF.out] at ho ⊢; have HB11 : Sc (Below (wr.alloc (.cells #[.int .i64 x.1, .int .i64 x.2] 56)).heap.size (wr.alloc (.cells #[.int .i64 x.1, .int .i64 x.2] 56)) w4) := ⟨below_down HB10.out (by first | with_reducible exact hb4 | exact (Below.refl _ _).drew.trans hb4)⟩; have HO11 := Sc.mk (ho.mono (Nat.le_trans HW8.out.size HB10.out.size)); clear ho hb4))
          all_goals
            have HO12 : Sc (Own encB 1 5 w1.heap.size w4 (.slice A4 256 c4) (fillB (headB n N) l (i + 1))) := ⟨by rw [HFX.out]; exact HO11.out⟩
            have HB12 : Sc (Below w1.heap.size w1 w4) := ⟨below_down HW8.out HB11.out⟩
            clear hw1
            go_wp2
            go_roundg (N - (i + 1))
            case measure => omega
            case rel => exact ⟨i + 1, _, _, rfl, by go_num, by omega, Nat.le_refl _, HO12, HB12⟩
        · obtain rfl : i = N := by omega
          clear e0 e1
          go_wp2
          go_ret2
          exact ⟨.inl ⟨HOK.out, _, _, _, rfl, by unfold pageB; rw [HN.out]; exact HR.out.mono HWB.out.size⟩, HWB.out.trans (HB.out.mono HWB.out.size)⟩
  · have HOK := Sc.mk hok
    clear b0 b1 hb1 hok
    go_wp2
    go_ret2
    exact ⟨.inr ⟨HOK.out, rfl⟩, HWB.out⟩
end Go.Proofs.YtmafogagkjafbaaDoor
