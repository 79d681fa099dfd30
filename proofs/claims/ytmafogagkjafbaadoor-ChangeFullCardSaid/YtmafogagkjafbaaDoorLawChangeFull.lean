/- The walk of ChangeFull: a key more than there is room for is told. -/
import Derived.Test.YtmafogagkjafbaaDoorSee
import Derived.Test.YtmafogagkjafbaaDoorLawChangeBack
namespace Go.Proofs.YtmafogagkjafbaaDoor
open Go.RowKit

/-- The full page's keys. -/
def fullN (i : Nat) : List (Int × Int) := (List.range i).map fun j : Nat => (2 * (j : Int), (j : Int))
theorem fullN_succ (i : Nat) : fullN (i + 1) = fullN i ++ [(2 * (i : Int), (i : Int))] := by unfold fullN; rw [List.range_succ, List.map_append]; rfl
theorem fullN_length (i : Nat) : (fullN i).length = i := by unfold fullN; simp
theorem fullN_rising (i : Nat) : Rising (fullN i) := by
  unfold fullN Rising
  rw [List.pairwise_map]
  refine List.Pairwise.imp ?_ (List.pairwise_lt_range)
  intro a b h
  show 2 * (a : Int) < 2 * (b : Int)
  omega
theorem fullN_has : ∀ k : Nat, k < 60 → has (fullN 20) (k : Int) = decide (k % 2 = 0 ∧ k < 40) := by decide +kernel
theorem full_there {k : Int} (h0 : 0 ≤ k) (h1 : k < 60) : has (fullN 20) k = decide (k % 2 = 0 ∧ k < 40) := by
  obtain ⟨m, rfl⟩ := Int.eq_ofNat_of_zero_le h0
  rw [fullN_has m (by omega)]
  congr 1
  rw [eq_iff_iff]
  omega
theorem full_rows (r : RecD) (h : r.has = true → has (fullN 20) r.key = true) : ((if r.has = true then setIn (fullN 20) (r.key, r.new) else drop' (fullN 20) r.key).length : Int) = if has (fullN 20) r.key = true ∧ r.has = false then 19 else 20 := by
  cases hh : r.has with
  | true =>
    rw [if_pos rfl, setIn_yes (x := (r.key, r.new)) (h hh), List.length_set, fullN_length, if_neg (by simp)]; rfl
  | false =>
    rw [if_neg (by simp)]
    cases ht : has (fullN 20) r.key with
    | true =>
      have := drop'_length_yes (fullN_rising 20) ht
      rw [fullN_length] at this
      rw [if_pos ⟨rfl, rfl⟩]; omega
    | false => rw [drop'_no ht, fullN_length, if_neg (by simp)]; rfl
theorem redoChange'_any (w : World) (base : Nat) (n : Int) (v : Value) (l : List (Int × Int)) (lsn : Int) (r : RecD) (hown : Own enc2 2 56 base w v l) (hr : Rising l) (hlen : l.length ≤ 1000000) (hfit : r.has = true → has l r.key = true ∨ l.length < 20) (hk : r.kind = 2 ∨ r.kind = 3) (hn : n < lsn) :
    Calls Tryd.prog 18 #[aggP n v, .int .i64 lsn, aggR r] w (RedoLeft lsn (if r.has = true then setIn l (r.key, r.new) else drop' l r.key) true w) := by
  cases hh : r.has with
  | true => rw [if_pos rfl]; exact redoPut_any w base n v l lsn r hown hr hlen hk hn hh (hfit hh)
  | false => rw [if_neg (by simp)]; exact redoDrop_any w base n v l lsn r hown hr hlen hk hn hh

abbrev fullR (key : Int) (th has1 : Bool) (v : Int) : RecD := ⟨2, 1, 1, 0, 0, key, th, has1, 0, v⟩
set_option maxRecDepth 10000 in
set_option maxHeartbeats 8000000 in
theorem changeFull_walk (key0 : Int) (has1 : Bool) (v : Int) (w : World) (f : Nat → Addr) (hS : Sents w f) :
    Calls Tryd.prog 6 #[.int .i64 key0, .bool has1, .int .i64 v] w fun e w' => e = .returned (.bool true) ∧ Below w.heap.size w w' := by
  obtain ⟨i0, hi, hz0, hz1, hz2⟩ := info_parts infoCloE
  have HS := Sc.mk hS
  obtain ⟨key, hkd⟩ : ∃ kd, key0 % 60 = kd := ⟨_, rfl⟩
  have hk0 : 0 ≤ key := by omega
  have hk1 : key < 60 := by omega
  have HKD := Sc.mk hkd
  clear hkd hS
  go_enter Tryd.func6, Tryd.ntmps6
  go_wp2_with fail
  refine (first8_any _).mono ?_
  rintro e w1 ⟨rfl, hb⟩
  have HB1 := Sc.mk hb
  clear hb
  go_wp2_with fail
  go_loopg [9] 20 (fun kx s9 wr => ∃ (i : Nat) (A8 : Option Addr) (k8 c8 : Nat), s9 = .int .i64 i ∧ i ≤ 20 ∧ 20 - i ≤ kx ∧ Sc (PageVar w1 wr w1.heap.size 3 (.slice A8 k8 c8) (fullN i)))
  case atStart => exact ⟨0, none, 0, 0, rfl, by omega, by omega, ⟨PageVar.made (Below.refl _ _) Own.nil (Nat.le_refl _)⟩⟩
  case round =>
    obtain ⟨i, A8, k8, c8, rfl, hin, hg, HP⟩ := hrel
    have lb := heap_lt HP.out.cells
    obtain ⟨e0, e1⟩ := cells_page HP.out.cells
    have f1 := unfrozen_at HP.out.cells 1
    by_cases hlt : i < 20
    · have hil : (i : Int) < 20 := by omega
      have HL : Sc ((fullN i).length = i) := ⟨fullN_length i⟩
      have HA2 : Sc ((fullN i).length + 1 ≤ maxLen) := ⟨by rw [fullN_length]; unfold maxLen; omega⟩
      have HA3 : Sc (((fullN i).length + 1) * 16 ≤ 140737488355328) := ⟨by rw [fullN_length]; omega⟩
      have HLW : Sc (w1.heap.size ≤ wr.heap.size) := ⟨HP.out.below.size⟩
      go_wp2_with (at_builtin; go_loud (refine wpList_append_lies _ rfl (.tmp 25) (.tmp 30) 27 rfl w1.heap.size 56 i0 (.agg #[.int .i64 0, .int .i64 0]) 2 16 Tryd.underlying27 hi hz0 hz1 hz2 rfl (by decide) _ (fullN i).length (flat enc2 (fullN i)) rfl (HP.out.own.alloc _) ⟨wr.heap.size, 0, none⟩ 1 1 (enc2 (2 * (i : Int), (i : Int))) rfl rfl (World.news_of_block (heap_alloc_new wr (.cells (enc2 (2 * (i : Int), (i : Int))).toArray 56))) (kind2.one _) Nat.one_pos HA2.out HA3.out (by have := HLW.out; simp; omega) (wr.heap.size + 1) (by simp) ?_))
      intro ga ca wa h1 h2 h3 h4
      obtain ⟨hce, hpv⟩ := HP.out.append h1 h2 h3
      have c1 := (cells_page hce).2
      have f2 := unfrozen_at hce 1
      have HPA := Sc.mk hpv
      clear h1 h2 h3 h4 hce hpv e0 e1 f1
      go_wp2
      go_roundg (20 - (i + 1))
      case measure => omega
      case rel => exact ⟨i + 1, _, _, _, by go_num, by omega, Nat.le_refl _, ⟨by rw [fullN_succ]; exact HPA.out⟩⟩
    · obtain rfl : i = 20 := by omega
      have HB2 : Sc (Below w.heap.size w wr) := ⟨below_down HB1.out HP.out.below⟩
      obtain ⟨th, hth⟩ : ∃ th, decide (key % 2 = 0 ∧ key < 40) = th := ⟨_, rfl⟩
      have HTH : Sc (has (fullN 20) key = th) := ⟨by rw [full_there hk0 hk1, hth]⟩
      have HT2 := Sc.mk hth
      clear hth
      go_wp2_with fail
      refine (number_is key0 60 key _ HKD.out (by omega) (by omega)).mono ?_
      rintro e w3 ⟨rfl, rfl⟩
      go_upto_region 10 with fail
      go_cut [10] from 35 to 41 (fun s10 wx => s10 = .bool th ∧ wr = wx)
      case first =>
        by_cases he : key % 2 = 0
        · have hb : (key % 2 == 0) = true := by simp [he]
          by_cases h40 : key < 40
          · obtain rfl : true = th := by rw [← HT2.out]; simp [he, h40]
            clear he
            go_wp2_with fail
            go_meet
            case rel => exact ⟨rfl, rfl⟩
          · obtain rfl : false = th := by rw [← HT2.out]; simp; omega
            clear he
            go_wp2_with fail
            go_meet
            case rel => exact ⟨by first | rfl | simp [h40], rfl⟩
        · have hb : (key % 2 == 0) = false := by simp [he]
          obtain rfl : false = th := by rw [← HT2.out]; simp; omega
          clear he
          go_wp2_with fail
          go_meet
          case rel => exact ⟨rfl, rfl⟩
      case rest =>
        obtain ⟨rfl, rfl⟩ := hcut
        obtain ⟨v1, hv1⟩ : ∃ v1, (if has1 = true then v else 0) = v1 := ⟨_, rfl⟩
        have HV1 := Sc.mk hv1
        clear hv1
        go_upto_if 46 with fail
        go_cut [] from 46 to 48 (fun wx => wx = wr.alloc (.cells (cellsR (fullR key th has1 v1)) 32))
        case first =>
          cases has1 with
          | true =>
            obtain rfl : v = v1 := by simpa using HV1.out
            go_wp2_with fail
            go_meet
            case rel => rfl
          | false =>
            obtain rfl : (0 : Int) = v1 := by simpa using HV1.out
            go_wp2_with fail
            go_meet
            case rel => rfl
        case rest =>
          subst hcut
          have HS2 := Sc.mk (HS.out.bel HB2.out)
          by_cases hfull : has1 = true ∧ th = false
          · obtain ⟨rfl, rfl⟩ := hfull
            go_wp2_with fail
            refine (redoFull_any f _ w1.heap.size 3 _ (fullN 20) 4 (fullR key false true v1) (HS2.out.bel (dn_alloc (Below.refl _ _) _)) (HP.out.own.alloc _) (fullN_rising 20) (by rw [fullN_length]; omega) (.inl rfl) (by omega) rfl (by rw [HTH.out, fullN_length]; simp)).mono ?_
            rintro e w4 ⟨rfl, hb4⟩
            have HB4 := Sc.mk (below_down (dn_alloc HB2.out _) hb4)
            have HS4 := Sc.mk (HS.out.bel HB4.out)
            clear hb4 e0 e1 f1 lb
            go_wp2_with fail
            refine (is_any (ErrIs.bad 6 (by omega) (HS4.out.bel (dn_alloc (Below.refl _ _) _)))).mono ?_
            rintro e w5 ⟨rfl, hb5⟩
            have hx := up hb5 (heap_alloc_new w4 (.cells #[.int .i64 0, .slice none 0 0] 29))
            obtain ⟨x0, x1⟩ := cells_page hx
            have HB5 := Sc.mk (below_down (dn_alloc HB4.out _) hb5)
            clear hb5 hx
            go_wp2
            go_ret
            exact ⟨rfl, HB5.out⟩
          · have HFIT : Sc ((fullR key th has1 v1).has = true → has (fullN 20) (fullR key th has1 v1).key = true) := ⟨fun h => by
              cases hth : th with
              | false => exact absurd ⟨h, hth⟩ hfull
              | true => rw [← hth]; exact HTH.out⟩
            have HN : Sc (¬ (has1 = true ∧ th = false)) := ⟨hfull⟩
            clear hfull
            go_wp2_with fail
            refine (redoChange'_any _ w1.heap.size 3 _ (fullN 20) 4 (fullR key th has1 v1) (HP.out.own.alloc _) (fullN_rising 20) (by rw [fullN_length]; omega) (fun h => .inl (HFIT.out h)) (.inl rfl) (by omega)).mono ?_
            rintro e w4 ⟨A4, s4, c4, rfl, ho4, hb4⟩
            have HB4 := Sc.mk (below_down (dn_alloc HB2.out _) hb4)
            have HLEN : Sc ((s4 : Int) = if th = true ∧ has1 = false then 19 else 20) := ⟨by
              have h1 := ho4.len
              have h2 := full_rows (fullR key th has1 v1) HFIT.out
              rw [← h1] at h2
              rw [h2, HTH.out]⟩
            clear hb4 ho4 e0 e1 f1 lb
            cases th with
            | true =>
              cases has1 with
              | true =>
                have hs : ((s4 : Int) == 20) = true := by have := HLEN.out; simp at this ⊢; omega
                go_wp2
                go_ret
                exact ⟨rfl, dn_alloc HB4.out _⟩
              | false =>
                have hs : ((s4 : Int) == 19) = true := by have := HLEN.out; simp at this ⊢; omega
                go_wp2
                go_ret
                exact ⟨rfl, dn_alloc HB4.out _⟩
            | false =>
              cases has1 with
              | true => exact absurd ⟨rfl, rfl⟩ HN.out
              | false =>
                have hs : ((s4 : Int) == 20) = true := by have := HLEN.out; simp at this ⊢; omega
                go_wp2
                go_ret
                exact ⟨rfl, dn_alloc HB4.out _⟩
end Go.Proofs.YtmafogagkjafbaaDoor
