/- The walk of PageKeys: what was put is found, what was removed is not. -/
import Derived.Test.YtmafogagkjafbaaDoorPageGet
import Derived.Test.YtmafogagkjafbaaDoorPlainK
import Derived.Test.YtmafogagkjafbaaDoorFirst7
import Derived.Test.YtmafogagkjafbaaDoorPageC
import Derived.Test.YtmafogagkjafbaaDoorErrs3
namespace Go.Proofs.YtmafogagkjafbaaDoor
open Go.RowKit

/-- A page under way beside two arrays. -/
structure KS (w W : World) (b6 b7 b8 : Nat) (v : Value) (l : List (Int × Int)) (hs : List Bool) (vs : List Int) : Prop where
  page : PageVar w W b6 3 v l
  hc : W.heap[b7]? = some (.cells (hs.map Value.bool).toArray 81 (0, 0))
  vc : W.heap[b8]? = some (.cells (vs.map (Value.int .i64)).toArray 82 (0, 0))
  n7 : w.heap.size ≤ b7
  n8 : w.heap.size ≤ b8
  d67 : b6 ≠ b7
  d68 : b6 ≠ b8
  d78 : b7 ≠ b8
  a7 : v.ownBlock ≠ some b7
  a8 : v.ownBlock ≠ some b8
section
variable {w W W' : World} {b6 b7 b8 : Nat} {v v' : Value} {l l' : List (Int × Int)} {hs : List Bool} {vs : List Int}
theorem KS.bel (h : KS w W b6 b7 b8 v l hs vs) (hb : Below W.heap.size W W') : KS w W' b6 b7 b8 v l hs vs :=
  ⟨h.page.bel hb, up hb h.hc, up hb h.vc, h.n7, h.n8, h.d67, h.d68, h.d78, h.a7, h.a8⟩
theorem KS.alloc (h : KS w W b6 b7 b8 v l hs vs) (o : Obj) : KS w (W.alloc o) b6 b7 b8 v l hs vs := h.bel ((Below.refl _ _).alloc (Nat.le_refl _) o)
theorem KS.cellH (h : KS w W b6 b7 b8 v l hs vs) {k : Nat} {x : Bool} (hx : hs[k]? = some x) : W.cell? ⟨b7, k, none⟩ = some (.bool x) := by
  simp [World.cell?, h.hc, hx]
theorem KS.cellV (h : KS w W b6 b7 b8 v l hs vs) {k : Nat} {x : Int} (hx : vs[k]? = some x) : W.cell? ⟨b8, k, none⟩ = some (.int .i64 x) := by
  simp [World.cell?, h.vc, hx]
theorem set_list {α : Type} (f : α → Value) (l : List α) (k : Nat) (x : α) : (l.map f).toArray.setIfInBounds k (f x) = ((l.set k x).map f).toArray := by
  simp [List.map_set]
theorem KS.setH (h : KS w W b6 b7 b8 v l hs vs) (k : Nat) (x : Bool) : KS w (W.setCell ⟨b7, k, none⟩ (.bool x)) b6 b7 b8 v l (hs.set k x) vs :=
  ⟨h.page.store h.d67.symm h.a7 h.n7, by rw [set_one h.hc, set_list], (Below.heap_setCell _ _ _ _ h.d78.symm).trans h.vc, h.n7, h.n8, h.d67, h.d68, h.d78, h.a7, h.a8⟩
theorem KS.setV (h : KS w W b6 b7 b8 v l hs vs) (k : Nat) (x : Int) : KS w (W.setCell ⟨b8, k, none⟩ (.int .i64 x)) b6 b7 b8 v l hs (vs.set k x) :=
  ⟨h.page.store h.d68.symm h.a8 h.n8, (Below.heap_setCell _ _ _ _ h.d78).trans h.hc, by rw [set_one h.vc, set_list], h.n7, h.n8, h.d67, h.d68, h.d78, h.a7, h.a8⟩
/-- Another page into the variable. -/
theorem KS.turn (h : KS w W b6 b7 b8 v l hs vs) {B : Nat} (ho : Own enc2 2 56 B W v' l') (h6 : b6 < B) (h7 : b7 < B) (h8 : b8 < B) :
    KS w ((W.setCell ⟨b6, 0, none⟩ (.int .i64 3)).setCell ⟨b6, 1, none⟩ v') b6 b7 b8 v' l' hs vs := by
  have hne : ∀ b, b < B → v'.ownBlock ≠ some b := fun b hb he => by have := (ho.lt b he).1; omega
  have hk : Kp (fun q => q = b6) W ((W.setCell ⟨b6, 0, none⟩ (.int .i64 3)).setCell ⟨b6, 1, none⟩ v') := (Kp.setCell W ⟨b6, 0, none⟩ (.int .i64 3)).trans (Kp.setCell _ ⟨b6, 1, none⟩ v') (fun _ hq => .inl hq)
  refine ⟨⟨(h.page.below.setCell h.page.new _).setCell h.page.new _, h.page.new, ?_, ?_, hne b6 h6⟩, hk.at h.hc h.d67.symm, hk.at h.vc h.d68.symm, h.n7, h.n8, h.d67, h.d68, h.d78, hne b7 h7, hne b8 h8⟩
  · rw [set_one (set_one h.page.cells 0 _) 1 _]; rfl
  · exact (ho.mono (by have := h.page.new; omega)).kp hk (fun q hq he => hne b6 h6 (by rw [hq, he]))
theorem KS.lt (h : KS w W b6 b7 b8 v l hs vs) : b6 < W.heap.size ∧ b7 < W.heap.size ∧ b8 < W.heap.size := ⟨heap_lt h.page.cells, heap_lt h.hc, heap_lt h.vc⟩
end
theorem KS.zero {w w1 : World} (hb : Below w.heap.size w w1) :
    KS w (((w1.alloc (.cells #[.int .i64 3, .slice none 0 0] 29)).alloc (.cells ((List.replicate 50 false).map Value.bool).toArray 81)).alloc (.cells ((List.replicate 50 0).map (Value.int .i64)).toArray 82))
      w1.heap.size (w1.heap.size + 1) (w1.heap.size + 1 + 1) (.slice none 0 0) [] (List.replicate 50 false) (List.replicate 50 0) := by
  have hp : PageVar w (w1.alloc (.cells #[.int .i64 3, .slice none 0 0] 29)) w1.heap.size 3 (.slice none 0 0) [] := PageVar.of hb Own.nil
  refine ⟨(hp.alloc _).alloc _, upa (by have := heap_alloc_new (w1.alloc (.cells #[.int .i64 3, .slice none 0 0] 29)) (.cells ((List.replicate 50 false).map Value.bool).toArray 81); simpa using this) _, ?_, ?_, ?_, by omega, by omega, by omega, by simp [Value.ownBlock], by simp [Value.ownBlock]⟩
  · have := heap_alloc_new ((w1.alloc (.cells #[.int .i64 3, .slice none 0 0] 29)).alloc (.cells ((List.replicate 50 false).map Value.bool).toArray 81)) (.cells ((List.replicate 50 0).map (Value.int .i64)).toArray 82)
    simpa using this
  · have := hb.size; omega
  · have := hb.size; omega
theorem wrap_rng (x : Int) : -9223372036854775808 ≤ IntKind.i64.wrap x ∧ IntKind.i64.wrap x ≤ 9223372036854775807 := by rw [IntKind.wrap_i64]; omega

set_option maxRecDepth 10000 in
set_option maxHeartbeats 2000000 in
theorem pageKeys_walk (a : Option Addr) (len cap : Nat) (zs : List Int) (v : Int) (w : World) (hrow : IsRow .i64 w a len cap zs) (f : Nat → Addr) (hE : Errs w f) :
    Calls Tryd.prog 13 #[.slice a len cap, .int .i64 v] w fun e w' => e = .returned (.bool true) ∧ Below w.heap.size w w' := by
  have HW := Sc.mk hrow
  have HE := Sc.mk hE
  clear hrow hE
  by_cases hbig : 60 < len
  · have hbig' : (60 : Int) < len := by omega
    clear HW
    go_enter Tryd.func13, Tryd.ntmps13
    go_wp2_with (go_at_call 28; refine (first7_any f _ HE.out).mono ?_; rintro e w1 ⟨rfl, hb⟩)
    go_ret
    exact ⟨rfl, hb⟩
  · have hbig' : ¬ (60 : Int) < len := by omega
    go_enter Tryd.func13, Tryd.ntmps13
    go_wp2_with fail
    refine (first7_any f _ HE.out).mono ?_
    rintro e w1 ⟨rfl, hb⟩
    have HB1 := Sc.mk hb
    clear hb
    go_wp2_with fail
    obtain ⟨wz, hwz⟩ : ∃ wz, (((w1.alloc (.cells #[.int .i64 3, .slice none 0 0] 29)).alloc (.cells ((List.replicate 50 false).map Value.bool).toArray 81)).alloc (.cells ((List.replicate 50 0).map (Value.int .i64)).toArray 82)) = wz := ⟨_, rfl⟩
    have HKZ : Sc (KS w wz w1.heap.size (w1.heap.size + 1) (w1.heap.size + 1 + 1) (.slice none 0 0) [] (List.replicate 50 false) (List.replicate 50 0)) := ⟨hwz ▸ KS.zero HB1.out⟩
    obtain ⟨b6, hb6⟩ : ∃ b, w1.heap.size = b := ⟨_, rfl⟩
    obtain ⟨b7, hb7⟩ : ∃ b, b6 + 1 = b := ⟨_, rfl⟩
    obtain ⟨b8, hb8⟩ : ∃ b, b7 + 1 = b := ⟨_, rfl⟩
    change Code.wp _ _ _ _ (((w1.alloc (.cells #[.int .i64 3, .slice none 0 0] 29)).alloc (.cells ((List.replicate 50 false).map Value.bool).toArray 81)).alloc (.cells ((List.replicate 50 0).map (Value.int .i64)).toArray 82))
    rw [hwz]
    simp only [hb6, hb7, hb8] at HKZ ⊢
    clear hwz hb6 hb7 hb8
    go_loopg [4, 9, 10] len (fun kx s4 s9 s10 wr => ∃ (i : Nat) (A : Option Addr) (s c : Nat) (l : List (Int × Int)) (hs : List Bool) (vs : List Int), s4 = .bool false ∧ s9 = .int .i64 s ∧ s10 = .int .i64 i ∧ i ≤ len ∧ len - i ≤ kx ∧ Sc (KS w wr b6 b7 b8 (.slice A s c) l hs vs) ∧ Sc (Kv l hs vs))
    case atStart => exact ⟨0, _, _, _, _, _, _, rfl, rfl, rfl, by omega, by omega, HKZ, ⟨Kv.zero⟩⟩
    case round =>
      obtain ⟨i, A, s, c, l, hs, vs, rfl, rfl, rfl, hi, hg, HK, HV⟩ := hrel
      by_cases hlt : i < len
      · have hil : (i : Int) < len := by omega
        obtain ⟨g, off, rfl, hgw, hz⟩ := HW.out.at (by omega)
        have c0 := (HK.out.page.below.cell (p := ⟨g, off + i, none⟩) hgw).trans (hz i hlt)
        generalize zs.getD i 0 = z at c0
        clear hz
        have hsl := HK.out.page.own.len
        have hs20 : s ≤ 20 := by rw [hsl]; exact HV.out.fits
        have HSL := Sc.mk hsl
        clear hsl
        obtain ⟨k, hk⟩ : ∃ k : Nat, z % 50 = (k : Int) := ⟨(z % 50).toNat, by omega⟩
        have hk50 : k < 50 := by omega
        have hki : (k : Int) < 50 := by omega
        have HKD := Sc.mk hk
        clear hk
        go_wp2_with fail
        refine (number_is z 50 k _ HKD.out (by omega) (by omega)).mono ?_
        rintro e w' ⟨rfl, rfl⟩
        go_upto_if 47 with fail
        go_cut [4, 9, 12, 13, 14, 15] from 47 to 99 (fun s4 s9 s12 s13 s14 s15 wx => ∃ (A2 : Option Addr) (s2 c2 : Nat) (l2 : List (Int × Int)) (hs2 : List Bool) (vs2 : List Int), s4 = .bool false ∧ s9 = .int .i64 s2 ∧ Sc (KS w wx b6 b7 b8 (.slice A2 s2 c2) l2 hs2 vs2) ∧ Sc (Kv l2 hs2 vs2))
        case first =>
          generalize (bits BinOp.and IntKind.i64 z 3 == 0) = qa
          obtain ⟨p0, p1⟩ := cells_page HK.out.page.cells
          obtain ⟨bq, hbq⟩ : ∃ bq, has l (k : Int) = bq := ⟨_, rfl⟩
          have HQ := Sc.mk hbq
          have HH : Sc (hs[k]? = some bq) := ⟨by rw [HV.out.here k hk50, hbq]⟩
          have HLB := Sc.mk HK.out.lt
          have n67 : ¬ b6 = b7 := HK.out.d67
          have n76 : ¬ b7 = b6 := fun h => HK.out.d67 h.symm
          have n68 : ¬ b6 = b8 := HK.out.d68
          have n86 : ¬ b8 = b6 := fun h => HK.out.d68 h.symm
          have n78 : ¬ b7 = b8 := HK.out.d78
          have n87 : ¬ b8 = b7 := fun h => HK.out.d78 h.symm
          clear hbq c0
          cases qa with
          | true =>
            go_wp2_with fail
            refine (pageRemove_any _ w.heap.size 3 _ l k HK.out.page.own HV.out.rising (by have := HV.out.fits; omega)).mono ?_
            rw [HQ.out]
            rintro e w5 ⟨A5, s5, c5, rfl, ho, hb⟩
            have HK5 := Sc.mk ((HK.out.bel hb).alloc (.cells #[.int .i64 3, .slice A5 s5 c5] 29))
            have HO5 : Sc (Own enc2 2 56 wr.heap.size (w5.alloc (.cells #[.int .i64 3, .slice A5 s5 c5] 29)) (.slice A5 s5 c5) (drop' l k)) := ⟨ho.alloc _⟩
            have HN5 := Sc.mk (heap_alloc_new w5 (.cells #[.int .i64 3, .slice A5 s5 c5] 29))
            have H5 : Sc ((s5 : Int) = if bq = true then (s : Int) - 1 else s) := ⟨by rw [ho.len, drop_len HV.out.rising, HQ.out, HSL.out]⟩
            obtain ⟨q0, q1⟩ := cells_page HK5.out.page.cells
            obtain ⟨r0, r1⟩ := cells_page HN5.out
            have hc := HK5.out.cellH HH.out
            have g0 := unfrozen_at HK5.out.page.cells 0
            have g1 := unfrozen_at HK5.out.page.cells 1
            have g7 := unfrozen_at HK5.out.hc k
            have l6 := heap_lt HK5.out.page.cells
            have l7 := heap_lt HK5.out.hc
            have l5 := heap_lt HN5.out
            clear ho hb p0 p1
            cases bq with
            | true =>
              have hw : IntKind.i64.wrap ((s : Int) - 1) = (s5 : Int) := by rw [H5.out, if_pos rfl]; exact IntWalk.i64_in _ ⟨by omega, by omega⟩
              go_wp2_with fail
              go_meet
              case rel => exact ⟨_, _, _, _, _, _, rfl, rfl, ⟨(HK5.out.turn HO5.out HLB.out.1 HLB.out.2.1 HLB.out.2.2).setH k false⟩, ⟨HV.out.drop hk50⟩⟩
            | false =>
              have hw : (s : Int) = (s5 : Int) := by rw [H5.out, if_neg (by simp)]
              have HW5 := Sc.mk hw
              clear hw
              go_wp2_with fail
              go_meet
              case rel => exact ⟨_, _, _, _, _, _, rfl, by rw [HW5.out], ⟨(HK5.out.turn HO5.out HLB.out.1 HLB.out.2.1 HLB.out.2.2).setH k false⟩, ⟨HV.out.drop hk50⟩⟩
          | false =>
            obtain ⟨Y, hY⟩ : ∃ Y, IntKind.i64.wrap (v + bits BinOp.and IntKind.i64 (i : Int) 7) = Y := ⟨_, rfl⟩
            have HYR : Sc (-9223372036854775808 ≤ Y ∧ Y ≤ 9223372036854775807) := ⟨by rw [← hY]; exact wrap_rng _⟩
            go_wp2_with fail
            refine (pagePut_any _ w.heap.size 3 _ l k Y HK.out.page.own HV.out.rising (by have := HV.out.fits; omega)).mono ?_
            intro e w5 hp
            by_cases hroom : has l (k : Int) = true ∨ l.length < 20
            · obtain ⟨A5, s5, c5, rfl, ho, hb⟩ := hp.fits hroom
              have HRM := Sc.mk hroom
              have HK5 := Sc.mk ((HK.out.bel hb).alloc (.cells #[.int .i64 3, .slice A5 s5 c5] 29))
              have HO5 : Sc (Own enc2 2 56 wr.heap.size (w5.alloc (.cells #[.int .i64 3, .slice A5 s5 c5] 29)) (.slice A5 s5 c5) (setIn l ((k : Int), Y))) := ⟨ho.alloc _⟩
              have HN5 := Sc.mk (heap_alloc_new w5 (.cells #[.int .i64 3, .slice A5 s5 c5] 29))
              have H5 : Sc (s5 = if bq = true then s else s + 1) := ⟨by rw [ho.len, setIn_len, HSL.out, ← HQ.out]⟩
              obtain ⟨y, hy⟩ : ∃ y, vs[k]? = some y := ⟨_, List.getElem?_eq_getElem (by rw [HV.out.vl]; exact hk50)⟩
              obtain ⟨q0, q1⟩ := cells_page HK5.out.page.cells
              obtain ⟨r0, r1⟩ := cells_page HN5.out
              have hc := HK5.out.cellH HH.out
              have hv := HK5.out.cellV hy
              have g0 := unfrozen_at HK5.out.page.cells 0
              have g1 := unfrozen_at HK5.out.page.cells 1
              have g7 := unfrozen_at HK5.out.hc k
              have g8 := unfrozen_at HK5.out.vc k
              have l6 := heap_lt HK5.out.page.cells
              have l7 := heap_lt HK5.out.hc
              have l8 := heap_lt HK5.out.vc
              have l5 := heap_lt HN5.out
              clear ho hb p0 p1 hp hy
              cases bq with
              | true =>
                obtain rfl : s5 = s := by rw [H5.out, if_pos rfl]
                clear hroom
                go_wp2_with fail
                go_meet
                case rel => exact ⟨_, _, _, _, _, _, rfl, rfl, ⟨((HK5.out.turn HO5.out HLB.out.1 HLB.out.2.1 HLB.out.2.2).setH k true).setV k Y⟩, ⟨HV.out.put hk50 HYR.out HRM.out⟩⟩
              | false =>
                obtain rfl : s5 = s + 1 := by rw [H5.out, if_neg (by simp)]
                have hs19 : decide ((s : Int) < 20) = true := decide_eq_true (by have h : l.length < 20 := hroom.resolve_left (by rw [HQ.out]; simp); have := HSL.out; omega)
                have hw : IntKind.i64.wrap ((s : Int) + 1) = ((s + 1 : Nat) : Int) := by rw [IntWalk.i64_in _ ⟨by omega, by omega⟩]; omega
                clear hroom
                go_wp2_with fail
                go_meet
                case rel => exact ⟨_, _, _, _, _, _, rfl, by go_num, ⟨((HK5.out.turn HO5.out HLB.out.1 HLB.out.2.1 HLB.out.2.2).setH k true).setV k Y⟩, ⟨HV.out.put hk50 HYR.out HRM.out⟩⟩
            · obtain ⟨A5, s5, c5, rfl, ho, hb⟩ := hp.full hroom
              obtain rfl : bq = false := by
                cases bq with
                | false => rfl
                | true => exact absurd (.inl HQ.out) hroom
              have hs19 : decide ((s : Int) < 20) = false := decide_eq_false (fun h => hroom (.inr (by have := HSL.out; omega)))
              have HK5 := Sc.mk ((HK.out.bel hb).alloc (.cells #[.int .i64 0, .slice A5 s5 c5] 29))
              have hc := HK5.out.cellH HH.out
              have l7 := heap_lt HK5.out.hc
              clear ho hb p0 p1 hp hroom
              go_wp2_with fail
              go_meet
              case rel => exact ⟨_, _, _, _, _, _, rfl, rfl, HK5, HV⟩
        case rest =>
          obtain ⟨A2, s2, c2, l2, hs2, vs2, rfl, rfl, HK2, HV2⟩ := hcut
          obtain ⟨p0, p1⟩ := cells_page HK2.out.page.cells
          clear c0
          go_wp2_with fail
          go_roundg (len - (i + 1))
          case measure => omega
          case rel => exact ⟨i + 1, _, _, _, _, _, _, rfl, rfl, by go_num, by omega, Nat.le_refl _, HK2, HV2⟩
      · obtain rfl : len = i := by omega
        go_wp2_with fail
        obtain ⟨wo, rfl⟩ : ∃ wo, wo = wr := ⟨_, rfl⟩
        go_loopg [4, 16] 50 (fun kx s4 s16 wr => ∃ (k : Nat), s4 = .bool false ∧ s16 = .int .i64 k ∧ k ≤ 50 ∧ 50 - k ≤ kx ∧ Sc (Below wo.heap.size wo wr))
        case atStart => exact ⟨0, rfl, rfl, by omega, by omega, ⟨Below.refl _ _⟩⟩
        case round =>
          obtain ⟨k, rfl, rfl, hk, hg, HB⟩ := hrel
          have HK2 := Sc.mk (HK.out.bel HB.out)
          obtain ⟨p0, p1⟩ := cells_page HK2.out.page.cells
          by_cases hlt : k < 50
          · obtain ⟨bq, hbq⟩ : ∃ bq, has l (k : Int) = bq := ⟨_, rfl⟩
            obtain ⟨yv, hyv⟩ : ∃ yv, (look l (k : Int)).getD 0 = yv := ⟨_, rfl⟩
            have HH : Sc (hs[k]? = some bq) := ⟨by rw [HV.out.here k hlt, hbq]⟩
            have HY : Sc (bq = true → vs[k]? = some yv) := ⟨fun h => by rw [HV.out.value k hlt (hbq.trans h), hyv]⟩
            have HQ := Sc.mk hbq
            have HYV := Sc.mk hyv
            have hki : (k : Int) < 50 := by omega
            clear hbq hyv
            go_wp2_with fail
            refine (pageGet_any _ w.heap.size 3 _ l k HK2.out.page.own HV.out.rising (by have := HV.out.fits; omega)).mono ?_
            rw [HQ.out, HYV.out]
            rintro e w5 ⟨rfl, hb⟩
            have HK5 := Sc.mk (HK2.out.bel hb)
            have HB5 : Sc (Below wo.heap.size wo w5) := ⟨below_down HB.out hb⟩
            have hc := HK5.out.cellH HH.out
            clear hb p0 p1
            cases bq with
            | true =>
              have hv := HK5.out.cellV (HY.out rfl)
              go_wp2
              go_roundg (50 - (k + 1))
              case measure => omega
              case rel => exact ⟨k + 1, rfl, by go_num, by omega, Nat.le_refl _, HB5⟩
            | false =>
              go_wp2
              go_roundg (50 - (k + 1))
              case measure => omega
              case rel => exact ⟨k + 1, rfl, by go_num, by omega, Nat.le_refl _, HB5⟩
          · obtain rfl : k = 50 := by omega
            have HOK := Sc.mk (HV.out.ok (n := 3) (by omega) (by omega))
            have HPB := Sc.mk (pageB_ok HOK.out HV.out.vals)
            go_wp2_with fail
            refine (pageBytes_any f _ w.heap.size 3 _ l (HE.out.bel HK2.out.page.below) HK2.out.page.own (by have := HV.out.fits; omega)).mono ?_
            intro e w5 hres
            obtain ⟨g, cx, rfl, hox, hb⟩ := hres.yes HOK.out
            have HK5 := Sc.mk (HK2.out.bel hb)
            have HX5 := Sc.mk hox.rd
            clear hres hox hb p0 p1
            go_wp2_with fail
            refine (pageRead_any f _ _ (pageB 3 l) (HE.out.bel HK5.out.page.below) HX5.out (pageB_byt _ _) (by rw [pageB_length]; omega)).mono ?_
            intro e w6 hres
            obtain ⟨A6, s6, c6, rfl, ho, hb⟩ := hres.yes (pageB_length _ _) HPB.out.1
            rw [HPB.out.2.1]
            rw [HPB.out.2.2] at ho
            have HK6 := Sc.mk ((HK5.out.bel hb).alloc (.cells #[.int .i64 3, .slice A6 s6 c6] 29))
            have HO6 : Sc (PageVar w (w6.alloc (.cells #[.int .i64 3, .slice A6 s6 c6] 29)) w6.heap.size 3 (.slice A6 s6 c6) l) := ⟨PageVar.of (HK5.out.bel hb).page.below (ho.mono HK5.out.page.below.size)⟩
            clear hres ho hb
            obtain ⟨q0, q1⟩ := cells_page HK6.out.page.cells
            obtain ⟨r0, r1⟩ := cells_page HO6.out.cells
            have l6 := heap_lt HK6.out.page.cells
            have l7 := heap_lt HO6.out.cells
            go_wp2_with fail
            refine (samePage_refl _ w.heap.size w.heap.size 3 _ _ l HK6.out.page.own HO6.out.own (by have := HV.out.fits; omega)).mono ?_
            rintro e w7 ⟨rfl, hb⟩
            have HK7 := Sc.mk (HK6.out.bel hb)
            clear hb q0 q1 r0 r1 l6 l7
            obtain ⟨q0, q1⟩ := cells_page HK7.out.page.cells
            go_wp2_with fail
            refine (pageCheck_any f _ w.heap.size 3 _ l (HE.out.bel HK7.out.page.below) HK7.out.page.own (by have := HV.out.fits; omega)).mono ?_
            rintro e w8 ⟨hres, hb⟩
            have HB8 : Sc (Below w.heap.size w w8) := ⟨below_down HK7.out.page.below hb⟩
            rcases hres with ⟨_, rfl⟩ | ⟨hno, _⟩
            · clear hb q0 q1
              go_wp2_with fail
              go_ret
              exact ⟨rfl, HB8.out⟩
            · exact absurd HOK.out hno
end Go.Proofs.YtmafogagkjafbaaDoor
