/- Chapter 8's examples; a page out of few numbers: phoenixmake.Page. -/
import Derived.Test.YtmafogagkjafbaaDoorSeq
import Derived.IntWalk
namespace Go.Proofs.YtmafogagkjafbaaDoor
open Go.RowKit

theorem dn_alloc {w w1 : World} (h : Below w.heap.size w w1) (o : Obj) : Below w.heap.size w (w1.alloc o) := h.alloc h.size o

/-- The record of the examples. -/
abbrev exR : RecD := ⟨2, 1, 1, 0, 0, 3, false, true, 0, 9⟩
set_option maxRecDepth 4000 in
set_option maxHeartbeats 1000000 in
theorem first8_any (w : World) : Calls Tryd.prog 14 #[] w fun e w' => e = .returned (.bool true) ∧ Below w.heap.size w w' := by
  go_enter Tryd.func14, Tryd.ntmps14
  go_wp2_with fail
  refine (undoNo_any w ⟨1, 1, 0, 0, 0, 0, false, false, 0, 0⟩ 5 5 0 (by simp)).mono ?_
  rintro e w1 ⟨rfl, hb1⟩
  have HB1 := Sc.mk hb1
  clear hb1
  go_wp2_with fail
  refine (redoPut_any _ 0 4 _ [] 5 exR Own.nil List.Pairwise.nil (by simp) (.inl rfl) (by omega) rfl (.inr (by simp))).mono ?_
  rintro e w2 ⟨A, k, c, rfl, ho, hb2⟩
  have hk : k = 1 := ho.len
  subst hk
  have HB2 := Sc.mk hb2
  clear hb2 ho
  go_wp2
  go_ret
  exact ⟨rfl, dn_alloc (below_down (dn_alloc (dn_alloc HB1.out _) _) HB2.out) _⟩

/-- A page under way in a variable, the numbers it is made of in another. -/
structure PageMk (w0 w wr : World) (b b4 b5 : Nat) (a : Option Addr) (len cap : Nat) (zs : List Int) (k : Nat) (n : Int) (v : Value) (l : List (Int × Int)) : Prop where
  seq : SeqIs w0 wr b a len cap zs k
  kp : Kp (fun q => q = b) w wr
  res : wr.heap[b4]? = some (.cells #[.int .i64 0, .slice none 0 0] 29 (0, 0))
  cells : wr.heap[b5]? = some (.cells #[.int .i64 n, v] 29 (0, 0))
  own : Own enc2 2 56 w.heap.size wr v l
  apart4 : v.ownBlock ≠ some b4
  apart5 : v.ownBlock ≠ some b5
  old : b < w.heap.size
  new4 : w.heap.size ≤ b4
  new5 : w.heap.size ≤ b5
  ne : b4 ≠ b5
section
variable {w0 w wr w' : World} {b b4 b5 : Nat} {a : Option Addr} {len cap : Nat} {zs : List Int} {k k' : Nat} {n n' : Int} {v v' : Value} {l l' : List (Int × Int)}
theorem PageMk.bel (h : PageMk w0 w wr b b4 b5 a len cap zs k n v l) (hb : Below wr.heap.size wr w') : PageMk w0 w w' b b4 b5 a len cap zs k n v l :=
  ⟨h.seq.bel hb, h.kp.trans (Kp.of_below hb _) (fun _ hq => .inl hq), (hb.block _ (heap_lt h.res)).trans h.res, (hb.block _ (heap_lt h.cells)).trans h.cells, h.own.below hb, h.apart4, h.apart5, h.old, h.new4, h.new5, h.ne⟩
theorem PageMk.next (h : PageMk w0 w wr b b4 b5 a len cap zs k n v l) (hs : SeqIs w0 w' b a len cap zs k') (hk : Kp (fun q => q = b) wr w') : PageMk w0 w w' b b4 b5 a len cap zs k' n v l :=
  ⟨hs, h.kp.trans hk (fun _ hq => .inl hq), hk.at h.res (fun he => by have := h.old; have := h.new4; omega), hk.at h.cells (fun he => by have := h.old; have := h.new5; omega),
    h.own.kp hk (fun q hq he => by have := (h.own.lt q hq).1; have := h.old; omega), h.apart4, h.apart5, h.old, h.new4, h.new5, h.ne⟩
theorem PageMk.set (h : PageMk w0 w wr b b4 b5 a len cap zs k n v l) {z o : Nat} (u : Value) (h1 : w.heap.size ≤ z) (h4 : z ≠ b4) (h5 : z ≠ b5) (hv : v.ownBlock ≠ some z) : PageMk w0 w (wr.setCell ⟨z, o, none⟩ u) b b4 b5 a len cap zs k n v l :=
  have hk := Kp.setCell wr ⟨z, o, none⟩ u
  ⟨⟨h.seq.row, hk.at h.seq.cells (fun he => by have := h.old; have he : b = z := he; omega), h.seq.new, h.seq.below.setCell (by have := h.seq.new; have := h.old; show w0.heap.size ≤ z; omega) _⟩,
    h.kp.trans hk (fun q hq => .inr (by rw [hq]; exact h1)), hk.at h.res (fun he => h4 he.symm), hk.at h.cells (fun he => h5 he.symm), h.own.kp hk (fun q hq he => hv (by rw [hq, he])), h.apart4, h.apart5, h.old, h.new4, h.new5, h.ne⟩
theorem PageMk.store (h : PageMk w0 w wr b b4 b5 a len cap zs k n v l) (ho : Own enc2 2 56 w.heap.size wr v' l') (h4 : v'.ownBlock ≠ some b4) (h5 : v'.ownBlock ≠ some b5) :
    PageMk w0 w ((wr.setCell ⟨b5, 0, none⟩ (.int .i64 n')).setCell ⟨b5, 1, none⟩ v') b b4 b5 a len cap zs k n' v' l' := by
  have hk : Kp (fun q => q = b5) wr ((wr.setCell ⟨b5, 0, none⟩ (.int .i64 n')).setCell ⟨b5, 1, none⟩ v') := (Kp.setCell wr ⟨b5, 0, none⟩ _).trans (Kp.setCell _ ⟨b5, 1, none⟩ _) (fun _ hq => .inl hq)
  have hz : w0.heap.size ≤ b5 := by have := h.seq.new; have := h.old; have := h.new5; omega
  refine ⟨⟨h.seq.row, hk.at h.seq.cells (fun he => by have := h.old; have := h.new5; omega), h.seq.new, (h.seq.below.setCell hz _).setCell hz _⟩,
    h.kp.trans hk (fun q hq => .inr (by rw [hq]; exact h.new5)), hk.at h.res (fun he => h.ne he), ?_, ho.kp hk (fun q hq he => h5 (by rw [hq, he])), h4, h5, h.old, h.new4, h.new5, h.ne⟩
  rw [set_one (set_one h.cells 0 _) 1 _]; rfl
end
/-- What is known of the page under way, i keys still to come. -/
structure MkOk (k most k' i : Nat) (n : Int) (l : List (Int × Int)) : Prop where
  taken : k' + 2 * i ≤ k + 2 + 2 * most
  many : l.length + i ≤ most
  fits : l.length ≤ 20
  rising : Rising l
  range : ∀ x ∈ l, 0 ≤ x.1 ∧ x.1 < 60 ∧ -500 ≤ x.2 ∧ x.2 < 500
  one : 1 ≤ n
  fifty : n ≤ 50
/-- A page in a variable of its own. -/
structure QVar (B : Nat) (wx : World) (b8 : Nat) (n : Int) (v : Value) (l : List (Int × Int)) : Prop where
  cells : wx.heap[b8]? = some (.cells #[.int .i64 n, v] 29 (0, 0))
  own : Own enc2 2 56 B wx v l
  new : B ≤ b8
theorem QVar.made {B BB : Nat} {w5 : World} {n : Int} {v : Value} {l : List (Int × Int)} (ho : Own enc2 2 56 BB w5 v l) (hB : B ≤ BB) (hs : B ≤ w5.heap.size) : QVar B (w5.alloc (.cells #[.int .i64 n, v] 29)) w5.heap.size n v l :=
  ⟨heap_alloc_new w5 _, (ho.alloc _).mono hB, hs⟩
theorem QVar.filled {B BB z : Nat} {w5 : World} {n : Int} {v u0 u1 : Value} {l : List (Int × Int)} (hc : w5.heap[z]? = some (.cells #[u0, u1] 29 (0, 0))) (ho : Own enc2 2 56 BB w5 v l) (hlt : z + 1 ≤ BB) (hB : B ≤ z) :
    QVar B ((w5.setCell ⟨z, 0, none⟩ (.int .i64 n)).setCell ⟨z, 1, none⟩ v) z n v l :=
  ⟨by rw [set_one (set_one hc 0 _) 1 _]; rfl, ((ho.low hlt _).low hlt _).mono (by omega), hB⟩
theorem PutLeft.any {n : Int} {l : List (Int × Int)} {p f : Int} {w w' : World} {e : Ending} (h : PutLeft n l p f w e w') :
    ∃ (bb : Bool) (n8 : Int) (A8 : Option Addr) (s2 c2 : Nat) (l8 : List (Int × Int)), e = .returned (.tuple #[aggP n8 (.slice A8 s2 c2), .bool bb]) ∧ Own enc2 2 56 w.heap.size w' (.slice A8 s2 c2) l8 ∧ Below w.heap.size w w' ∧ (bb = true → n8 = n ∧ l8 = setIn l (p, f) ∧ (has l p = true ∨ l.length < 20)) := by
  by_cases hf : has l p = true ∨ l.length < 20
  · obtain ⟨A, k, c, he, ho, hb⟩ := PutLeft.fits hf h
    exact ⟨true, _, _, _, _, _, he, ho, hb, fun _ => ⟨rfl, rfl, hf⟩⟩
  · obtain ⟨A, k, c, he, ho, hb⟩ := PutLeft.full hf h
    exact ⟨false, _, _, _, _, _, he, ho, hb, fun h => by cases h⟩
theorem setIn_fits {l : List (Int × Int)} {x : Int × Int} (h : has l x.1 = true ∨ l.length < 20) (hl : l.length ≤ 20) : (setIn l x).length ≤ 20 := by
  unfold setIn
  split
  · rw [List.length_set]; exact hl
  · rename_i hh
    rw [put_length]
    rcases h with h | h
    · exact absurd h hh
    · omega
theorem mem_setIn {l : List (Int × Int)} {x y : Int × Int} (h : y ∈ setIn l x) : y = x ∨ y ∈ l := by
  unfold setIn at h
  split at h
  · rcases List.mem_or_eq_of_mem_set h with h | h
    · exact .inr h
    · exact .inl h
  · exact mem_put.1 h
/-- What phoenixmake.Page leaves. -/
def PageMade (w0 w : World) (b : Nat) (a : Option Addr) (len cap : Nat) (zs : List Int) (k most : Nat) (e : Ending) (w' : World) : Prop :=
  ∃ (n : Int) (l : List (Int × Int)) (A : Option Addr) (s c k' : Nat), e = .returned (aggP n (.slice A s c)) ∧ 1 ≤ n ∧ n ≤ 50 ∧ Rising l ∧ l.length ≤ 20 ∧ l.length ≤ most ∧ (∀ x ∈ l, 0 ≤ x.1 ∧ x.1 < 60 ∧ -500 ≤ x.2 ∧ x.2 < 500) ∧
    Own enc2 2 56 w.heap.size w' (.slice A s c) l ∧ SeqIs w0 w' b a len cap zs k' ∧ k' ≤ k + 2 + 2 * most ∧ Kp (fun q => q = b) w w'

set_option maxRecDepth 4000 in
set_option maxHeartbeats 4000000 in
theorem makePage_any (w0 w : World) (b : Nat) (a : Option Addr) (len cap : Nat) (zs : List Int) (k most : Nat) (h : SeqIs w0 w b a len cap zs k) (hk : k ≤ 1000) (hm : most ≤ 1000) :
    Calls Tryd.prog 15 #[.pointer (some ⟨b, 0, none⟩), .int .i64 most] w (PageMade w0 w b a len cap zs k most) := by
  have HS := Sc.mk h
  have lb := heap_lt h.cells
  clear h
  go_enter Tryd.func15, Tryd.ntmps15
  go_wp2_with fail
  refine (next_any w0 _ b a len cap zs k 50 (HS.out.bel ((Below.refl _ _).alloc (Nat.le_refl _) _)) (by omega) (by omega) (by omega)).mono ?_
  rintro e w1 ⟨r1, h10, h11, rfl, hs1, hk1⟩
  have HM1 : Sc (PageMk w0 w (w1.alloc (.cells #[.int .i64 (1 + r1), .slice none 0 0] 29)) b w.heap.size w1.heap.size a len cap zs (k + 1) (1 + r1) (.slice none 0 0) []) := ⟨by
    have hsz := hk1.size
    simp at hsz
    exact ⟨hs1.bel ((Below.refl _ _).alloc (Nat.le_refl _) _), ((Kp.alloc w _ _).trans hk1 (fun _ hq => .inl hq)).trans (Kp.alloc w1 _ (fun q => q = b)) (fun _ hq => .inl hq),
      (heap_alloc_old w1 _ (by omega)).trans (hk1.at (heap_alloc_new w _) (by omega)), heap_alloc_new w1 _, Own.nil, by simp [Value.ownBlock], by simp [Value.ownBlock], lb, Nat.le_refl _, by omega, by omega⟩⟩
  clear hs1 hk1
  go_wp2_with fail
  refine (next_any w0 _ b a len cap zs (k + 1) (most + 1) HM1.out.seq (by omega) (by omega) (by omega)).mono ?_
  rintro e w2 ⟨r2, h20, h21, rfl, hs2, hk2⟩
  have HM2 := Sc.mk (HM1.out.next hs2 hk2)
  obtain ⟨i0, rfl⟩ := Int.eq_ofNat_of_zero_le h20
  have HP2 : Sc (MkOk k most (k + 1 + 1) i0 (1 + r1) []) := ⟨by simp at *; omega, by simp at *; omega, by simp, List.Pairwise.nil, by simp, by omega, by omega⟩
  clear hs2 hk2
  go_wp2_with fail
  go_loopg [6] i0 (fun kx s6 wr => ∃ (i k' : Nat) (n : Int) (A : Option Addr) (s c : Nat) (l : List (Int × Int)), s6 = .int .i64 i ∧ i ≤ kx ∧ Sc (PageMk w0 w wr b w.heap.size w1.heap.size a len cap zs k' n (.slice A s c) l) ∧ Sc (MkOk k most k' i n l))
  case atStart => exact ⟨i0, k + 1 + 1, _, _, _, _, [], rfl, Nat.le_refl _, HM2, HP2⟩
  case round =>
    obtain ⟨i, k', n, A, s, c, l, rfl, hik, HM, HP⟩ := hrel
    cases i with
    | zero =>
      obtain ⟨c0, c1⟩ := cells_page HM.out.cells
      obtain ⟨z0, z1⟩ := cells_page HM.out.res
      have y0 := unfrozen_at HM.out.res 0
      have y1 := unfrozen_at HM.out.res 1
      go_wp2
      refine bodyPost_ret (v := aggP n (.slice A s c)) (by simp [results, Tryd.results15, go_sem, z0, z1]) rfl ⟨n, l, A, s, c, k', rfl, HP.out.one, HP.out.fifty, HP.out.rising, HP.out.fits, by have := HP.out.many; omega, HP.out.range, ?_⟩
      have hk : Kp (fun q => q = w.heap.size) wr ((wr.setCell ⟨w.heap.size, 0, none⟩ (.int .i64 n)).setCell ⟨w.heap.size, 1, none⟩ (.slice A s c)) := (Kp.setCell wr ⟨w.heap.size, 0, none⟩ _).trans (Kp.setCell _ ⟨w.heap.size, 1, none⟩ _) (fun _ hq => .inl hq)
      have hz : w0.heap.size ≤ w.heap.size := by have := HM.out.seq.new; have := HM.out.old; omega
      exact ⟨HM.out.own.kp hk (fun q hq he => HM.out.apart4 (by rw [hq, he])), ⟨HM.out.seq.row, hk.at HM.out.seq.cells (by have := HM.out.old; omega), HM.out.seq.new, (HM.out.seq.below.setCell hz _).setCell hz _⟩, by have := HP.out.taken; omega, HM.out.kp.trans hk (fun q hq => .inr (by rw [hq]; exact Nat.le_refl _))⟩
    | succ i =>
      have hi0 : (0 : Int) < ((i + 1 : Nat) : Int) := by omega
      have him : i ≤ 1000 := by have := HP.out.many; omega
      go_wp2_with fail
      refine (next_any w0 _ b a len cap zs k' 60 HM.out.seq (by have := HP.out.taken; omega) (by omega) (by omega)).mono ?_
      rintro e w3 ⟨r3, h30, h31, rfl, hs3, hk3⟩
      have HM3 := Sc.mk (HM.out.next hs3 hk3)
      clear hs3 hk3
      have HK3 : Sc (k' + 1 ≤ 1000000) := ⟨by have := HP.out.taken; omega⟩
      obtain ⟨c0, c1⟩ := cells_page HM3.out.cells
      go_upto_region 6 with fail
      go_cut [8, 9] from 24 to 32 (fun s8 s9 wx => ∃ (b8 : Nat) (bb : Bool) (n8 : Int) (A8 : Option Addr) (s2 c2 : Nat) (l8 : List (Int × Int)), s8 = .pointer (some ⟨b8, 0, none⟩) ∧ s9 = .bool bb ∧ Sc (PageMk w0 w wx b w.heap.size w1.heap.size a len cap zs (k' + 1 + 1) n (.slice A s c) l) ∧ Sc (QVar w3.heap.size wx b8 n8 (.slice A8 s2 c2) l8) ∧ Sc (bb = true → MkOk k most (k' + 1 + 1) i n8 l8))
      case first =>
        have HLT : Sc (∀ z, w3.heap.size ≤ z → w.heap.size ≤ z ∧ z ≠ w.heap.size ∧ z ≠ w1.heap.size ∧ (Value.slice A s c).ownBlock ≠ some z) := ⟨fun z hz => ⟨Nat.le_trans HM3.out.kp.size hz, fun he => by have := heap_lt HM3.out.res; omega, fun he => by have := heap_lt HM3.out.cells; omega, fun he => by have := (HM3.out.own.lt z he).2; omega⟩⟩
        have HSET : Sc (∀ (W : World) (z : Nat) (u0 u1 : Value), PageMk w0 w W b w.heap.size w1.heap.size a len cap zs (k' + 1 + 1) n (.slice A s c) l → w3.heap.size ≤ z → PageMk w0 w ((W.setCell ⟨z, 0, none⟩ u0).setCell ⟨z, 1, none⟩ u1) b w.heap.size w1.heap.size a len cap zs (k' + 1 + 1) n (.slice A s c) l) := ⟨fun W z u0 u1 h hz => by
          obtain ⟨q1, q2, q3, q4⟩ := HLT.out z hz
          exact (h.set u0 q1 q2 q3 q4).set u1 q1 q2 q3 q4⟩
        have HLL : Sc (l.length ≤ 100000) := ⟨by have := HP.out.fits; omega⟩
        have HOKL : Sc (∀ r4 : Int, 0 ≤ r4 → r4 < 1000 → (has l r3 = true ∨ l.length < 20) → MkOk k most (k' + 1 + 1) i n (setIn l (r3, r4 - 500))) := ⟨fun r4 h0 h1 h2 => ⟨by have := HP.out.taken; omega, by have := HP.out.many; have := setIn_length l (r3, r4 - 500); omega, setIn_fits h2 HP.out.fits, setIn_rising HP.out.rising _, fun x hx => by
          rcases mem_setIn hx with rfl | hx
          · exact ⟨h30, h31, by show -500 ≤ r4 - 500; omega, by show r4 - 500 < 500; omega⟩
          · exact HP.out.range x hx, HP.out.one, HP.out.fifty⟩⟩
        have HR3 : Sc (∀ W : World, Below w3.heap.size w3 W → SeqIs w0 W b a len cap zs (k' + 1) ∧ PageMk w0 w W b w.heap.size w1.heap.size a len cap zs (k' + 1) n (.slice A s c) l ∧ w3.heap.size ≤ W.heap.size) := ⟨fun W hb => ⟨(HM3.out.bel hb).seq, HM3.out.bel hb, hb.size⟩⟩
        go_region_held3 (fun W => W.cell? ⟨w1.heap.size, 0, none⟩ = some (.int .i64 n) ∧ W.cell? ⟨w1.heap.size, 1, none⟩ = some (.slice A s c)) (first | exact cells_page (HSET.out _ _ _ _ HM5.out (Nat.le_refl _)).cells | exact cells_page (HSET.out _ _ _ _ HM5.out HL4.out).cells | exact cells_page HM5.out.cells | exact cells_page (HM5.out.bel ((Below.refl _ _).alloc (Nat.le_refl _) _)).cells | exact cells_page HM4.out.cells | exact cells_page (HM4.out.bel ((Below.refl _ _).alloc (Nat.le_refl _) _)).cells | exact cells_page (HM3.out.bel ((Below.refl _ _).drew.alloc (Nat.le_refl _) _)).cells | exact cells_page (HM3.out.bel (Below.refl _ _).drew).cells)
          (first
            | (go_at_call 27; go_loud (refine (next_any w0 _ b a len cap zs (k' + 1) 1000 (HR3.out _ (by first | exact (Below.refl _ _).drew | exact (Below.refl _ _).drew.alloc (Nat.le_refl _) _)).1 HK3.out (by omega) (by omega)).mono ?_; rintro e w4 ⟨r4, h40, h41, rfl, hs4, hk4⟩; have hw4 : IntKind.i64.wrap (r4 - 500) = r4 - 500 := IntWalk.i64_in _ (by omega); have HM4 := Sc.mk ((HR3.out _ (by first | exact (Below.refl _ _).drew | exact (Below.refl _ _).drew.alloc (Nat.le_refl _) _)).2.1.next hs4 hk4); have HL4 : Sc (w3.heap.size ≤ w4.heap.size) := ⟨Nat.le_trans (HR3.out _ (by first | exact (Below.refl _ _).drew | exact (Below.refl _ _).drew.alloc (Nat.le_refl _) _)).2.2 hk4.size⟩; (first | (have hz4 : w4.heap[w3.heap.size]? = some (.cells #[.int .i64 0, .slice none 0 0] 29 (0, 0)) := hk4.at (heap_alloc_new w3.drew _) (by have := HM3.out.old; have := HM3.out.kp.size; show ¬ w3.heap.size = b; omega); have HZ4 := Sc.mk hz4; clear hz4) | skip); clear hs4 hk4))
            | (go_at_call 42; go_loud (refine (refPut_any _ w.heap.size n _ l r3 (r4 - 500) (by first | exact HM4.out.own | exact HM4.out.own.alloc _) HP.out.rising HLL.out).mono ?_; rintro e w5 hp; obtain ⟨bb, n8, A8, s2, c2, l8, rfl, ho, hb, hok⟩ := hp.any; have HM5 : Sc (PageMk w0 w w5 b w.heap.size w1.heap.size a len cap zs (k' + 1 + 1) n (.slice A s c) l) := ⟨by first | exact HM4.out.bel hb | exact (HM4.out.bel ((Below.refl _ _).alloc (Nat.le_refl _) _)).bel hb⟩; have HO5 := Sc.mk ho; have HS5 := Sc.mk hb.size; have HOK : Sc (bb = true → MkOk k most (k' + 1 + 1) i n8 l8) := ⟨fun h => by obtain ⟨h1, h2, h3⟩ := hok h; rw [h1, h2]; exact HOKL.out r4 h40 h41 h3⟩; (first | (have hz5 := (hb.block _ (heap_lt HZ4.out)).trans HZ4.out; have z0 := (cells_page hz5).1; have z1 := (cells_page hz5).2; have y0 := unfrozen_at hz5 0; have y1 := unfrozen_at hz5 1; have HZ5 := Sc.mk hz5; clear hz5) | (have hz5 : w5.heap[w4.heap.size]? = some (.cells #[.int .i64 0, .slice none 0 0] 29 (0, 0)) := (hb.block _ (by simp)).trans (heap_alloc_new w4 _); have z0 := (cells_page hz5).1; have z1 := (cells_page hz5).2; have y0 := unfrozen_at hz5 0; have y1 := unfrozen_at hz5 1; have HZ5 := Sc.mk hz5; clear hz5) | skip); clear hp ho hb hok)))
        all_goals
          go_wp2_with fail
          go_meet
          case rel => first
            | exact ⟨_, bb, n8, A8, s2, c2, l8, rfl, rfl, ⟨HM5.out.bel ((Below.refl _ _).alloc (Nat.le_refl _) _)⟩, ⟨QVar.made HO5.out HL4.out (Nat.le_trans HL4.out HS5.out)⟩, HOK⟩
            | exact ⟨_, bb, n8, A8, s2, c2, l8, rfl, rfl, ⟨HSET.out _ _ _ _ HM5.out (Nat.le_refl _)⟩, ⟨QVar.filled HZ5.out HO5.out (Nat.succ_le_of_lt (heap_lt HZ4.out)) (Nat.le_refl _)⟩, HOK⟩
            | exact ⟨_, bb, n8, A8, s2, c2, l8, rfl, rfl, ⟨HSET.out _ _ _ _ HM5.out HL4.out⟩, ⟨QVar.filled HZ5.out HO5.out (by simp) HL4.out⟩, HOK⟩
      case rest =>
        obtain ⟨b8, bb, n8, A8, s2, c2, l8, rfl, rfl, HMC, HQ, HOK⟩ := hcut
        cases bb with
        | false =>
          have HP2 : Sc (MkOk k most (k' + 1 + 1) i n l) := ⟨by have := HP.out.taken; omega, by have := HP.out.many; omega, HP.out.fits, HP.out.rising, HP.out.range, HP.out.one, HP.out.fifty⟩
          go_wp2
          go_roundg i
          case measure => omega
          case rel => exact ⟨i, _, _, _, _, _, _, by go_num, Nat.le_refl _, HMC, HP2⟩
        | true =>
          have HP2 := Sc.mk (HOK.out rfl)
          obtain ⟨d0, d1⟩ := cells_page HQ.out.cells
          obtain ⟨e0, e1⟩ := cells_page HMC.out.cells
          have y0 := unfrozen_at HMC.out.cells 0
          have y1 := unfrozen_at HMC.out.cells 1
          have HMD : Sc (PageMk w0 w ((wc.setCell ⟨w1.heap.size, 0, none⟩ (.int .i64 n8)).setCell ⟨w1.heap.size, 1, none⟩ (.slice A8 s2 c2)) b w.heap.size w1.heap.size a len cap zs (k' + 1 + 1) n8 (.slice A8 s2 c2) l8) :=
            ⟨HMC.out.store (HQ.out.own.mono HM3.out.kp.size) (fun he => by have := (HQ.out.own.lt _ he).1; have := heap_lt HM3.out.res; omega) (fun he => by have := (HQ.out.own.lt _ he).1; have := heap_lt HM3.out.cells; omega)⟩
          clear c0 c1
          go_wp2
          go_roundg i
          case measure => omega
          case rel => exact ⟨i, _, _, _, _, _, _, by go_num, Nat.le_refl _, HMD, HP2⟩
end Go.Proofs.YtmafogagkjafbaaDoor
