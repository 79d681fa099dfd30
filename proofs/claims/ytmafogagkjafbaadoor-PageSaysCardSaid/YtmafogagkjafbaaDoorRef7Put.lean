/- The document's page: Put. -/
import Derived.Test.YtmafogagkjafbaaDoorRef7
namespace Go.Proofs.YtmafogagkjafbaaDoor
open Go.RowKit

/-- One round of the document's Put. -/
def stepP (p f : Int) (s : Bool × List (Int × Int)) (x : Int × Int) : Bool × List (Int × Int) :=
  (s.1 || decide (p ≤ x.1), (if s.1 = false ∧ p ≤ x.1 then s.2 ++ [(p, f)] else s.2) ++ if x.1 = p then [] else [x])
def endP (p f : Int) (s : Bool × List (Int × Int)) : List (Int × Int) := if s.1 = true then s.2 else s.2 ++ [(p, f)]
theorem stepP_true (p f : Int) (l o : List (Int × Int)) : l.foldl (stepP p f) (true, o) = (true, o ++ others l p) := by
  induction l generalizing o with
  | nil => simp [others]
  | cons x r ih =>
    rw [List.foldl_cons]
    have hs : stepP p f (true, o) x = (true, o ++ if x.1 = p then [] else [x]) := by simp [stepP]
    rw [hs, ih]
    unfold others
    by_cases hx : x.1 = p
    · rw [if_pos hx, List.filter_cons_of_neg (by simpa using hx)]; simp
    · rw [if_neg hx, List.filter_cons_of_pos (by simpa using hx)]; simp
theorem others_above {l : List (Int × Int)} {p : Int} (h : ∀ y ∈ l, p < y.1) : others l p = l :=
  List.filter_eq_self.2 fun y hy => by have := h y hy; simp; omega
theorem setIn_cons_lt {x : Int × Int} {r : List (Int × Int)} {p f : Int} (hx : x.1 < p) : setIn (x :: r) (p, f) = x :: setIn r (p, f) := by
  have hp : pos (x :: r) p = pos r p + 1 := by unfold pos; rw [List.countP_cons_of_pos (by simpa using hx)]
  have hh : has (x :: r) p = has r p := by unfold has; rw [List.any_cons]; simp; omega
  unfold setIn
  show (if has (x :: r) p = true then (x :: r).set (pos (x :: r) p) (p, f) else put (x :: r) (p, f)) = x :: (if has r p = true then r.set (pos r p) (p, f) else put r (p, f))
  rw [hh, hp]
  split
  · rfl
  · unfold put
    show (x :: r).take (pos (x :: r) p) ++ (p, f) :: (x :: r).drop (pos (x :: r) p) = x :: (r.take (pos r p) ++ (p, f) :: r.drop (pos r p))
    rw [hp]; rfl
theorem endP_setIn {l : List (Int × Int)} (hr : Rising l) (p f : Int) (o : List (Int × Int)) : endP p f (l.foldl (stepP p f) (false, o)) = o ++ setIn l (p, f) := by
  induction l generalizing o with
  | nil => rfl
  | cons x r ih =>
    rw [List.foldl_cons]
    rcases Int.lt_trichotomy x.1 p with h | h | h
    · have hs : stepP p f (false, o) x = (false, o ++ [x]) := by
        have h1 : ¬ p ≤ x.1 := by omega
        have h2 : ¬ x.1 = p := by omega
        simp [stepP, h1, h2]
      rw [hs, ih hr.tail, setIn_cons_lt h]
      simp
    · have hs : stepP p f (false, o) x = (true, o ++ [(p, f)]) := by
        have h1 : p ≤ x.1 := by omega
        simp [stepP, h]
      have hp : pos (x :: r) p = 0 := by
        have := pos_below hr p (t := 0) (x := x) rfl
        omega
      have hh : has (x :: r) p = true := by unfold has; rw [List.any_cons]; simp [h]
      rw [hs, stepP_true, others_above (fun y hy => by have := hr.head y hy; omega)]
      unfold endP setIn
      show (if true = true then _ else _) = o ++ (if has (x :: r) p = true then (x :: r).set (pos (x :: r) p) (p, f) else _)
      rw [if_pos rfl, if_pos hh, hp]
      simp
    · have hs : stepP p f (false, o) x = (true, o ++ [(p, f), x]) := by
        have h1 : p ≤ x.1 := by omega
        have h2 : ¬ x.1 = p := by omega
        simp [stepP, h1, h2]
      have hp : pos (x :: r) p = 0 := by
        have := pos_below hr p (t := 0) (x := x) rfl
        omega
      have hh : has (x :: r) p = false := by
        cases hc : has (x :: r) p with
        | false => rfl
        | true =>
          obtain ⟨y, hy, hk⟩ := has_iff.1 hc
          rcases List.mem_cons.1 hy with rfl | hy
          · omega
          · have := hr.head y hy; omega
      rw [hs, stepP_true, others_above (fun y hy => by have := hr.head y hy; omega)]
      unfold endP setIn
      show (if true = true then _ else _) = o ++ (if has (x :: r) p = true then _ else put (x :: r) (p, f))
      rw [if_pos rfl, if_neg (by rw [hh]; simp)]
      unfold put
      show _ = o ++ ((x :: r).take (pos (x :: r) p) ++ (p, f) :: (x :: r).drop (pos (x :: r) p))
      rw [hp]
      simp
theorem stepP_length (p f : Int) (l : List (Int × Int)) : (l.foldl (stepP p f) (false, [])).2.length ≤ 2 * l.length := by
  have h : ∀ (l : List (Int × Int)) (s : Bool × List (Int × Int)), (l.foldl (stepP p f) s).2.length ≤ s.2.length + 2 * l.length := by
    intro l
    induction l with
    | nil => intro s; simp
    | cons x r ih =>
      intro s
      rw [List.foldl_cons]
      have h1 := ih (stepP p f s x)
      have h2 : (stepP p f s x).2.length ≤ s.2.length + 2 := by
        unfold stepP
        simp only [List.length_append]
        split <;> split <;> simp
      rw [List.length_cons]
      omega
  simpa using h l (false, [])

set_option maxRecDepth 4000 in
set_option maxHeartbeats 4000000 in
theorem refPut_any (w : World) (base : Nat) (n0 : Int) (v : Value) (l : List (Int × Int)) (p f : Int) (hown : Own enc2 2 56 base w v l) (hr : Rising l) (hlen : l.length ≤ 100000) :
    Calls Tryd.prog 42 #[aggP n0 v, .int .i64 p, .int .i64 f] w (PutLeft n0 l p f w) := by
  obtain ⟨i0, hi, hz0, hz1, hz2⟩ := info_parts infoCloE
  obtain ⟨A, cap, rfl, hnc, hcm⟩ := hown.slice
  obtain ⟨n, hn⟩ : ∃ n, l.length = n := ⟨_, rfl⟩
  rw [hn] at hown hlen ⊢
  have HN := Sc.mk hn
  have HOA : Sc (Own enc2 2 56 base ((w.alloc (.cells #[.int .i64 n0, .slice A n cap] 29)).alloc (.cells #[.int .i64 0, .slice none 0 0] 29)) (.slice A n cap) l) := ⟨(hown.alloc _).alloc _⟩
  have HBW : Sc (Below w.heap.size w ((w.alloc (.cells #[.int .i64 n0, .slice A n cap] 29)).alloc (.cells #[.int .i64 0, .slice none 0 0] 29))) := ⟨((Below.refl _ _).alloc (Nat.le_refl _) _).alloc (by simp) _⟩
  have H2 := Sc.mk (heap2 w (.cells #[.int .i64 n0, .slice A n cap] 29) (.cells #[.int .i64 0, .slice none 0 0] 29))
  have HR := Sc.mk hr
  have HLN : Sc (l.length ≤ 1000000) := ⟨by omega⟩
  clear hown hr hn hnc
  go_enter Tryd.func42, Tryd.ntmps42
  go_wp2_with fail
  refine (refFind_any _ base n0 _ l p HOA.out HR.out HLN.out).mono ?_
  rintro e w1 ⟨rfl, hb1⟩
  have HB1 := Sc.mk ((hb1.block _ (heap_lt H2.out.1)).trans H2.out.1)
  have HZ1 := Sc.mk ((hb1.block _ (heap_lt H2.out.2)).trans H2.out.2)
  have HO1 : Sc (Own enc2 2 56 base w1 (.slice A n cap) l) := ⟨HOA.out.below hb1⟩
  have HW1 : Sc (Below w.heap.size w w1) := ⟨HBW.out.trans (hb1.mono HBW.out.size)⟩
  obtain ⟨p0, p1⟩ := cells_page HB1.out
  have l1 := heap_lt HB1.out
  have l2 := heap_lt HZ1.out
  clear hb1
  by_cases hfull : has l p = false ∧ 20 ≤ n
  · obtain ⟨hh, hn20⟩ := hfull
    have HF : Sc (¬ (has l p = true ∨ l.length < 20)) := ⟨by rw [hh, HN.out]; simp; omega⟩
    obtain ⟨z0, z1⟩ := cells_page HZ1.out
    have y0 := unfrozen_at HZ1.out 0
    have y1 := unfrozen_at HZ1.out 1
    have hn20' : (20 : Int) ≤ n := by omega
    clear hn20
    go_wp2
    refine bodyPost_ret (v := .tuple #[aggP 0 (.slice none 0 0), .bool false]) (by simp [results, Tryd.results42, go_sem, z0, z1]) rfl (PutLeft.no HF.out ⟨_, _, _, rfl, ?_⟩)
    exact page_end HW1.out (Own.nil (base := w1.heap.size)) (Nat.le_succ _) l2
  · have HF : Sc (has l p = true ∨ l.length < 20) := ⟨by
      cases hh : has l p with
      | true => exact .inl rfl
      | false => exact .inr (by rw [HN.out]; have : ¬ 20 ≤ n := fun h => hfull ⟨hh, h⟩; omega)⟩
    have HG : Sc (has l p = true ∨ has l p = false ∧ ¬ (20 : Int) ≤ n) := ⟨by
      cases hh : has l p with
      | true => exact .inl rfl
      | false => exact .inr ⟨rfl, by have : ¬ 20 ≤ n := fun h => hfull ⟨hh, h⟩; omega⟩⟩
    clear hfull
    go_upto_region 2 with fail
    go_cut [26] from 19 to 26 (fun s26 wx => s26 = .bool false ∧ w1 = wx)
    case first =>
      rcases HG.out with hh | ⟨hh, hn20⟩
      all_goals
        clear HG
        go_wp2_with fail
        go_meet
        case rel => exact ⟨by first | rfl | simp [hn20], rfl⟩
    case rest =>
      obtain ⟨rfl, rfl⟩ := hcut
      go_wp2_with fail
      go_loopg [11, 12] n (fun kx s11 s12 wr => ∃ (i : Nat) (b : Bool) (m : List (Int × Int)) (A8 : Option Addr) (k8 c8 : Nat), s12 = .int .i64 i ∧ s11 = .bool b ∧ i ≤ n ∧ n - i ≤ kx ∧ Sc ((l.take i).foldl (stepP p f) (false, []) = (b, m)) ∧ Sc (PageVar w1 wr w1.heap.size n0 (.slice A8 k8 c8) m))
      case atStart => exact ⟨0, false, [], none, 0, 0, rfl, rfl, by omega, by omega, ⟨rfl⟩, ⟨PageVar.made (Below.refl _ _) Own.nil (Nat.le_refl _)⟩⟩
      case round =>
        obtain ⟨i, b, m, A8, k8, c8, rfl, rfl, hin, hg, HF2, HP⟩ := hrel
        have HML : Sc (m.length ≤ 200000) := ⟨by
          have h1 := stepP_length p f (l.take i)
          rw [HF2.out, List.length_take] at h1
          simp only [] at h1
          omega⟩
        have HA2 : Sc (m.length + 1 ≤ maxLen) := ⟨by have := HML.out; unfold maxLen; omega⟩
        have HA3 : Sc ((m.length + 1) * 16 ≤ 140737488355328) := ⟨by have := HML.out; omega⟩
        have HLW : Sc (w1.heap.size ≤ wr.heap.size) := ⟨HP.out.below.size⟩
        have lb := heap_lt HP.out.cells
        obtain ⟨e0, e1⟩ := cells_page HP.out.cells
        have f1 := unfrozen_at HP.out.cells 1
        obtain ⟨q0, q1⟩ := cells_page ((HP.out.below.block _ l1).trans HB1.out)
        by_cases hlt : i < n
        · obtain ⟨x, hx⟩ : ∃ x, l[i]? = some x := ⟨_, List.getElem?_eq_getElem (by rw [HN.out]; exact hlt)⟩
          obtain ⟨g, cq, he, _, hgw, _, _⟩ := HO1.out.form (by rw [HN.out]; omega)
          injection he with hA hn2 hC
          subst hA
          obtain ⟨d0, d1⟩ := (HO1.out.below HP.out.below).cells2 hx
          have hil : (i : Int) < n := by omega
          have HX : Sc (∀ {q : Bool × List (Int × Int)}, Sc (stepP p f (b, m) x = q) → Sc ((l.take (i + 1)).foldl (stepP p f) (false, []) = q)) := ⟨fun hq => ⟨by
            rw [List.take_add_one, hx]
            show (l.take i ++ [x]).foldl _ _ = _
            rw [List.foldl_append, HF2.out]
            exact hq.out⟩⟩
          have hi0' : (0 : Int) ≤ (i : Int) := Int.natCast_nonneg _
          have HXX := Sc.mk hx
          clear hx hn2 hC p0 p1
          cases b with
          | true =>
            by_cases hp : x.1 = p
            · have hb : (x.1 != p) = false := by simp [hp]
              have HS : Sc (stepP p f (true, m) x = (true, m)) := ⟨by simp [stepP, hp]⟩
              clear hp
              go_wp2
              go_roundg (n - (i + 1))
              case measure => omega
              case rel => exact ⟨i + 1, _, _, _, _, _, by go_num, rfl, by omega, Nat.le_refl _, HX.out HS, HP⟩
            · have hb : (x.1 != p) = true := by simp [hp]
              have HS : Sc (stepP p f (true, m) x = (true, m ++ [x])) := ⟨by simp [stepP, hp]⟩
              clear hp
              go_wp2_with fail
              go_region_law (go_loud (refine step_append_lies _ (by rfl) (.tmp 67) (.tmp 73) 27 (by rfl) w1.heap.size 56 i0 (.agg #[.int .i64 0, .int .i64 0]) 2 16 Tryd.underlying27 hi hz0 hz1 hz2 rfl (by decide) _ (m).length (flat enc2 (m)) (by rfl) ((HP.out.own.alloc _).drew) ⟨wr.heap.size, 0, none⟩ 1 1 (enc2 x) (by rfl) (by rfl) (World.news_of_block (heap_alloc_new wr (.cells (enc2 x).toArray 56))) (kind2.one x) Nat.one_pos HA2.out HA3.out (by have := HLW.out; simp; omega) (wr.heap.size + 1) (by simp) ?_; intro ge ce we h1 h2 h3 h4; obtain ⟨hce, hpv⟩ := HP.out.append h1 (grown_drew h2) h3; have c1 := (cells_page hce).2; have f2 := unfrozen_at hce 1; have HPV := Sc.mk hpv; clear h1 h2 h3 h4 hce hpv))
              all_goals
                go_wp2
                go_roundg (n - (i + 1))
                case measure => omega
                case rel => exact ⟨i + 1, _, _, _, _, _, by go_num, rfl, by omega, Nat.le_refl _, HX.out HS, HPV⟩
          | false =>
            by_cases hge : p ≤ x.1
            · go_wp2_with (at_builtin; go_loud (refine wpList_append_lies _ rfl (.tmp 51) (.tmp 55) 27 rfl w1.heap.size 56 i0 (.agg #[.int .i64 0, .int .i64 0]) 2 16 Tryd.underlying27 hi hz0 hz1 hz2 rfl (by decide) _ m.length (flat enc2 m) rfl (HP.out.own.alloc _) ⟨wr.heap.size, 0, none⟩ 1 1 (enc2 (p, f)) rfl rfl (World.news_of_block (heap_alloc_new wr (.cells (enc2 (p, f)).toArray 56))) (kind2.one (p, f)) Nat.one_pos HA2.out HA3.out (by have := HLW.out; simp; omega) (wr.heap.size + 1) (by simp) ?_))
              intro ga ca wa h1 h2 h3 h4
              obtain ⟨hce, hpv⟩ := HP.out.append h1 h2 h3
              have c1 := (cells_page hce).2
              have f2 := unfrozen_at hce 1
              have HPA := Sc.mk hpv
              clear h1 h2 h3 h4 hce hpv d0 d1 q0 q1 e0 e1 f1
              go_upto_region 12 with fail
              generalize hwy : wa.setCell _ _ = wy
              obtain ⟨m1, hm1⟩ : ∃ m1, m ++ [(p, f)] = m1 := ⟨_, rfl⟩
              rw [hwy, hm1] at HPA
              have HM1 := Sc.mk hm1
              have HLW2 : Sc (w1.heap.size ≤ wy.heap.size) := ⟨HPA.out.below.size⟩
              have HA4 : Sc (m1.length + 1 ≤ maxLen) := ⟨by have := HML.out; rw [← HM1.out, List.length_append]; unfold maxLen; simp; omega⟩
              have HA5 : Sc ((m1.length + 1) * 16 ≤ 140737488355328) := ⟨by have := HML.out; rw [← HM1.out, List.length_append]; simp; omega⟩
              have lb2 := heap_lt HPA.out.cells
              obtain ⟨e0, e1⟩ := cells_page HPA.out.cells
              have f1 := unfrozen_at HPA.out.cells 1
              obtain ⟨q0, q1⟩ := cells_page ((HPA.out.below.block _ l1).trans HB1.out)
              obtain ⟨d0, d1⟩ := (HO1.out.below HPA.out.below).cells2 HXX.out
              clear hwy c1 f2 hm1
              by_cases hp : x.1 = p
              · have hb : (x.1 != p) = false := by simp [hp]
                have HS : Sc (stepP p f (false, m) x = (true, m1)) := ⟨by rw [← HM1.out]; simp [stepP, hp]⟩
                clear hp hge
                go_wp2
                go_roundg (n - (i + 1))
                case measure => omega
                case rel => exact ⟨i + 1, _, _, _, _, _, by go_num, rfl, by omega, Nat.le_refl _, HX.out HS, HPA⟩
              · have hb : (x.1 != p) = true := by simp [hp]
                have HS : Sc (stepP p f (false, m) x = (true, m1 ++ [x])) := ⟨by rw [← HM1.out]; simp [stepP, hp, hge]⟩
                clear hp hge
                go_wp2_with fail
                go_region_law (go_loud (refine step_append_lies _ (by rfl) (.tmp 67) (.tmp 73) 27 (by rfl) w1.heap.size 56 i0 (.agg #[.int .i64 0, .int .i64 0]) 2 16 Tryd.underlying27 hi hz0 hz1 hz2 rfl (by decide) _ m1.length (flat enc2 m1) (by rfl) ((HPA.out.own.alloc _).drew) ⟨wy.heap.size, 0, none⟩ 1 1 (enc2 x) (by rfl) (by rfl) (World.news_of_block (heap_alloc_new wy (.cells (enc2 x).toArray 56))) (kind2.one x) Nat.one_pos HA4.out HA5.out (by have := HLW2.out; simp; omega) (wy.heap.size + 1) (by simp) ?_; intro ge ce we h1 h2 h3 h4; obtain ⟨hce, hpv⟩ := HPA.out.append h1 (grown_drew h2) h3; have c1 := (cells_page hce).2; have f2 := unfrozen_at hce 1; have HPV := Sc.mk hpv; clear h1 h2 h3 h4 hce hpv))
                all_goals
                  go_wp2
                  go_roundg (n - (i + 1))
                  case measure => omega
                  case rel => exact ⟨i + 1, _, _, _, _, _, by go_num, rfl, by omega, Nat.le_refl _, HX.out HS, HPV⟩
            · have hne : ¬ x.1 = p := by omega
              have hb : (x.1 != p) = true := by simp [hne]
              have HS : Sc (stepP p f (false, m) x = (false, m ++ [x])) := ⟨by simp [stepP, hne, hge]⟩
              clear hne
              go_wp2_with fail
              go_region_law (go_loud (refine step_append_lies _ (by rfl) (.tmp 67) (.tmp 73) 27 (by rfl) w1.heap.size 56 i0 (.agg #[.int .i64 0, .int .i64 0]) 2 16 Tryd.underlying27 hi hz0 hz1 hz2 rfl (by decide) _ (m).length (flat enc2 (m)) (by rfl) ((HP.out.own.alloc _).drew) ⟨wr.heap.size, 0, none⟩ 1 1 (enc2 x) (by rfl) (by rfl) (World.news_of_block (heap_alloc_new wr (.cells (enc2 x).toArray 56))) (kind2.one x) Nat.one_pos HA2.out HA3.out (by have := HLW.out; simp; omega) (wr.heap.size + 1) (by simp) ?_; intro ge ce we h1 h2 h3 h4; obtain ⟨hce, hpv⟩ := HP.out.append h1 (grown_drew h2) h3; have c1 := (cells_page hce).2; have f2 := unfrozen_at hce 1; have HPV := Sc.mk hpv; clear h1 h2 h3 h4 hce hpv))
              all_goals
                go_wp2
                go_roundg (n - (i + 1))
                case measure => omega
                case rel => exact ⟨i + 1, _, _, _, _, _, by go_num, rfl, by omega, Nat.le_refl _, HX.out HS, HPV⟩
        · obtain rfl : i = n := by omega
          have HE : Sc (endP p f (b, m) = setIn l (p, f)) := ⟨by
            have h1 := endP_setIn HR.out p f []
            have h2 := HF2.out
            rw [← HN.out, List.take_length] at h2
            rw [h2] at h1
            exact h1⟩
          obtain ⟨z0, z1⟩ := cells_page ((HP.out.below.block _ l2).trans HZ1.out)
          have y0 := unfrozen_at ((HP.out.below.block _ l2).trans HZ1.out) 0
          have y1 := unfrozen_at ((HP.out.below.block _ l2).trans HZ1.out) 1
          clear p0 p1
          cases b with
          | true =>
            go_wp2
            refine bodyPost_ret (v := .tuple #[aggP n0 (.slice A8 k8 c8), .bool true]) (by simp [results, Tryd.results42, go_sem, z0, z1]) rfl (PutLeft.yes HF.out ⟨A8, k8, c8, rfl, ?_⟩)
            rw [← HE.out]
            exact page_end (HW1.out.trans (HP.out.below.mono HW1.out.size)) HP.out.own (Nat.le_succ _) l2
          | false =>
            go_wp2_with (at_builtin; go_loud (refine wpList_append_lies _ rfl (.tmp 79) (.tmp 83) 27 rfl w1.heap.size 56 i0 (.agg #[.int .i64 0, .int .i64 0]) 2 16 Tryd.underlying27 hi hz0 hz1 hz2 rfl (by decide) _ m.length (flat enc2 m) rfl (HP.out.own.alloc _) ⟨wr.heap.size, 0, none⟩ 1 1 (enc2 (p, f)) rfl rfl (World.news_of_block (heap_alloc_new wr (.cells (enc2 (p, f)).toArray 56))) (kind2.one (p, f)) Nat.one_pos HA2.out HA3.out (by have := HLW.out; simp; omega) (wr.heap.size + 1) (by simp) ?_))
            intro ga ca wa h1 h2 h3 h4
            obtain ⟨hce, hpv⟩ := HP.out.append h1 h2 h3
            have c1 := (cells_page hce).2
            have f2 := unfrozen_at hce 1
            have HPA := Sc.mk hpv
            clear h1 h2 h3 h4 hce hpv q0 q1 e0 e1 f1 z0 z1 y0 y1
            go_upto_region 16 with fail
            generalize hwy : wa.setCell _ _ = wy
            rw [hwy] at HPA
            obtain ⟨e0, e1⟩ := cells_page HPA.out.cells
            have lb2 := heap_lt HPA.out.cells
            obtain ⟨z0, z1⟩ := cells_page ((HPA.out.below.block _ l2).trans HZ1.out)
            have y0 := unfrozen_at ((HPA.out.below.block _ l2).trans HZ1.out) 0
            have y1 := unfrozen_at ((HPA.out.below.block _ l2).trans HZ1.out) 1
            clear hwy c1 f2
            go_wp2
            refine bodyPost_ret (v := .tuple #[aggP n0 (.slice (some ⟨ga, 0, none⟩) (m.length + 1) ca), .bool true]) (by simp [results, Tryd.results42, go_sem, z0, z1]) rfl (PutLeft.yes HF.out ⟨_, _, _, rfl, ?_⟩)
            rw [← HE.out]
            exact page_end (HW1.out.trans (HPA.out.below.mono HW1.out.size)) HPA.out.own (Nat.le_succ _) l2
end Go.Proofs.YtmafogagkjafbaaDoor
