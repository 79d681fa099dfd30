/- A row of records, a row of pages: what ChangeRows holds. -/
import Derived.Test.YtmafogagkjafbaaDoorLawChangeApart
namespace Go.Proofs.YtmafogagkjafbaaDoor
open Go.RowKit

abbrev encR (r : RecD) : List Value := (cellsR r).toList
theorem kindR : Kind encR 10 := ⟨fun _ => rfl, fun x u hu => by simp [encR] at hu; rcases hu with rfl | rfl | rfl | rfl | rfl | rfl | rfl | rfl | rfl | rfl <;> rfl, by omega⟩
/-- A page as an element: its number, its row's value. -/
abbrev PgT := Int × Option Addr × Nat × Nat
abbrev slv (s : Option Addr × Nat × Nat) : Value := .slice s.1 s.2.1 s.2.2
abbrev encG (x : PgT) : List Value := [.int .i64 x.1, slv x.2]
theorem kindG : Kind encG 2 := ⟨fun _ => rfl, fun x u hu => by simp [encG] at hu; rcases hu with rfl | rfl <;> rfl, by omega⟩
theorem infoRec : (Tryd.prog.info? 32).map (fun i => (i.zero, i.size, i.bytes)) = some (some (aggR zeroR), 10, 72) := by kernel_rfl
theorem infoPage : (Tryd.prog.info? 29).map (fun i => (i.zero, i.size, i.bytes)) = some (some (aggP 0 (.slice none 0 0)), 2, 32) := by kernel_rfl

/-- The keys behind so many records. -/
def play (rs : List RecD) (j : Nat) : List (Int × Int) := (rs.take j).foldl chg []
theorem play_rising (rs : List RecD) (j : Nat) : Rising (play rs j) := by
  unfold play
  have h : ∀ (l : List RecD) (m : List (Int × Int)), Rising m → Rising (l.foldl chg m) := by
    intro l
    induction l with
    | nil => intro m hm; exact hm
    | cons r l ih => intro m hm; exact ih _ (chg_rising hm r)
  exact h _ _ List.Pairwise.nil
theorem play_keys {rs : List RecD} (hg : ∀ r ∈ rs, 0 ≤ r.key ∧ r.key < 19) (j : Nat) : ∀ x ∈ play rs j, 0 ≤ x.1 ∧ x.1 < 19 := by
  unfold play
  have h : ∀ (l : List RecD) (m : List (Int × Int)), (∀ r ∈ l, 0 ≤ r.key ∧ r.key < 19) → (∀ x ∈ m, 0 ≤ x.1 ∧ x.1 < 19) → ∀ x ∈ l.foldl chg m, 0 ≤ x.1 ∧ x.1 < 19 := by
    intro l
    induction l with
    | nil => intro m _ hm; exact hm
    | cons r l ih =>
      intro m hl hm
      refine ih _ (fun q hq => hl q (List.mem_cons_of_mem _ hq)) fun x hx => ?_
      unfold chg at hx
      split at hx
      · rcases mem_setIn hx with rfl | hx
        · exact hl r List.mem_cons_self
        · exact hm x hx
      · have : x ∈ m := by
          unfold drop' cut at hx
          split at hx
          · rcases List.mem_append.1 hx with h1 | h1
            · exact List.mem_of_mem_take h1
            · exact List.mem_of_mem_drop h1
          · exact hx
        exact hm x this
  exact h _ _ (fun r hr => hg r (List.mem_of_mem_take hr)) (by simp)
/-- So many keys there are at most. -/
theorem rising_count {l : List (Int × Int)} (hr : Rising l) (lo : Int) (m : Nat) (h : ∀ x ∈ l, lo ≤ x.1 ∧ x.1 < lo + m) : l.length ≤ m := by
  induction l generalizing lo m with
  | nil => simp
  | cons x r ih =>
    have hx := h x List.mem_cons_self
    obtain ⟨d, hd⟩ := Int.eq_ofNat_of_zero_le (show 0 ≤ x.1 - lo by omega)
    have h1 := ih hr.tail (x.1 + 1) (m - (d + 1)) (fun y hy => by have := hr.head y hy; have := h y (List.mem_cons_of_mem _ hy); omega)
    rw [List.length_cons]
    omega
theorem play_room {rs : List RecD} (hg : ∀ r ∈ rs, 0 ≤ r.key ∧ r.key < 19) (j : Nat) : (play rs j).length < 20 := by
  have := rising_count (play_rising rs j) 0 19 (fun x hx => by have := play_keys hg j x hx; omega)
  omega
theorem play_succ {rs : List RecD} {j : Nat} {r : RecD} (h : rs[j]? = some r) : play rs (j + 1) = chg (play rs j) r := by
  unfold play
  rw [List.take_add_one, h]
  show (rs.take j ++ [r]).foldl chg [] = _
  rw [List.foldl_append]; rfl
theorem play_append (rs : List RecD) (r : RecD) {j : Nat} (h : j ≤ rs.length) : play (rs ++ [r]) j = play rs j := by
  unfold play
  rw [List.take_append_of_le_length h]

theorem Own.gr {α : Type} {enc : α → List Value} {sz : Nat} {e : TypeId} {base : Nat} {w w2 : World} {o : Obj} {v : Value} {l : List α} {row : Option Nat} (h : Own enc sz e base w v l) (hg : (w.alloc o).grownBy w2 row) (hne : ∀ q, row = some q → v.ownBlock ≠ some q) : Own enc sz e base w2 v l :=
  (h.alloc o).kept hg (by
    cases hv : v.ownBlock with
    | none => exact .inl rfl
    | some q => exact .inr (fun he => hne q he.symm hv))
theorem up_gr {w w2 : World} {o o' : Obj} {b : Nat} {row : Option Nat} (h : w.heap[b]? = some o') (hg : (w.alloc o).grownBy w2 row) (hne : row ≠ some b) : w2.heap[b]? = some o' :=
  (hg.block b (by have := heap_lt h; simp; omega) (fun he => hne he.symm)).trans (upa h o)

theorem SeqIs.kpr {w0 w w' : World} {b b2 : Nat} {a : Option Addr} {len cap : Nat} {zs : List Int} {k : Nat} (h : SeqIs w0 w b a len cap zs k) (hk : Kp (fun q => q = b2) w w') (hne : b ≠ b2) (h0 : w0.heap.size ≤ b2) : SeqIs w0 w' b a len cap zs k :=
  ⟨h.row, hk.at h.cells hne, h.new, h.below.trans (hk.below h.below.size (fun q hq => by rw [hq]; exact h0))⟩
/-- What ChangeRows holds: the numbers, the page under way, the records, the pages. -/
structure RowsSt (w0 wr : World) (B b b9 : Nat) (a : Option Addr) (len cap : Nat) (zs : List Int) (k : Nat) (n9 : Int) (sl : Option Addr × Nat × Nat) (L : List (Int × Int)) (rs : List RecD) (pgs : List PgT) (s8 s10 : Option Addr × Nat × Nat) : Prop where
  seq : SeqIs w0 wr b a len cap zs k
  page : wr.heap[b9]? = some (.cells #[.int .i64 n9, slv sl] 29 (0, 0))
  own : Own enc2 2 56 B wr (slv sl) L
  recs : Own encR 10 32 B wr (slv s8) rs
  pags : Own encG 2 29 B wr (slv s10) pgs
  each : ∀ (j : Nat) (x : PgT), pgs[j]? = some x → x.1 = (j : Int) ∧ Own enc2 2 56 B wr (slv x.2) (play rs j)
  fits : pgs.length ≤ rs.length
  good : ∀ r ∈ rs, r.kind = 2 ∧ 0 ≤ r.key ∧ r.key < 19
  ne1 : ∀ q, (slv s8).ownBlock = some q → (slv s10).ownBlock ≠ some q ∧ (slv sl).ownBlock ≠ some q ∧ ∀ x ∈ pgs, (slv x.2).ownBlock ≠ some q
  ne2 : ∀ q, (slv s10).ownBlock = some q → (slv sl).ownBlock ≠ some q ∧ ∀ x ∈ pgs, (slv x.2).ownBlock ≠ some q
  low : b < B
  low9 : b9 < B
  apart : b ≠ b9
  base : B ≤ wr.heap.size
  new9 : w0.heap.size ≤ b9
section
variable {w0 wr w' : World} {B b b9 : Nat} {a : Option Addr} {len cap : Nat} {zs : List Int} {k k' : Nat} {n9 n9' : Int} {sl sl' s8 s10 s8' s10' : Option Addr × Nat × Nat} {L L' : List (Int × Int)} {rs : List RecD} {pgs : List PgT}
theorem RowsSt.bel (h : RowsSt w0 wr B b b9 a len cap zs k n9 sl L rs pgs s8 s10) (hb : Below wr.heap.size wr w') : RowsSt w0 w' B b b9 a len cap zs k n9 sl L rs pgs s8 s10 :=
  ⟨h.seq.bel hb, up hb h.page, h.own.below hb, h.recs.below hb, h.pags.below hb, fun j x hx => ⟨(h.each j x hx).1, (h.each j x hx).2.below hb⟩, h.fits, h.good, h.ne1, h.ne2, h.low, h.low9, h.apart, Nat.le_trans h.base hb.size, h.new9⟩
theorem RowsSt.next (h : RowsSt w0 wr B b b9 a len cap zs k n9 sl L rs pgs s8 s10) (hs : SeqIs w0 w' b a len cap zs k') (hk : Kp (fun q => q = b) wr w') : RowsSt w0 w' B b b9 a len cap zs k' n9 sl L rs pgs s8 s10 :=
  ⟨hs, hk.at h.page (fun he => h.apart he.symm), h.own.kp hk (fun q hq he => by have := (h.own.lt q hq).1; have := h.low; omega), h.recs.kp hk (fun q hq he => by have := (h.recs.lt q hq).1; have := h.low; omega),
    h.pags.kp hk (fun q hq he => by have := (h.pags.lt q hq).1; have := h.low; omega), fun j x hx => ⟨(h.each j x hx).1, (h.each j x hx).2.kp hk (fun q hq he => by have := ((h.each j x hx).2.lt q hq).1; have := h.low; omega)⟩,
    h.fits, h.good, h.ne1, h.ne2, h.low, h.low9, h.apart, Nat.le_trans h.base hk.size, h.new9⟩
theorem slv_block {g n c : Nat} : (slv (some ⟨g, 0, none⟩, n, c)).ownBlock = some g := rfl
theorem RowsSt.addRec {w2 : World} {g c : Nat} {r : RecD} {o : Obj} (h : RowsSt w0 wr B b b9 a len cap zs k n9 sl L rs pgs s8 s10)
    (hown : w2.ownsRow B 32 10 (.slice (some ⟨g, 0, none⟩) (rs.length + 1) c) (rs.length + 1) (flat encR rs ++ encR r)) (hg : (wr.alloc o).grownBy w2 (slv s8).ownBlock) (hat : (slv s8).ownBlock = some g ∨ g = wr.heap.size + 1)
    (hr : r.kind = 2 ∧ 0 ≤ r.key ∧ r.key < 19) : RowsSt w0 w2 B b b9 a len cap zs k n9 sl L (rs ++ [r]) pgs (some ⟨g, 0, none⟩, rs.length + 1, c) s10 := by
  have hlow : ∀ q, (slv s8).ownBlock = some q → B ≤ q := fun q hq => (h.recs.lt q hq).1
  have hnb : ∀ q, q < B → (slv s8).ownBlock ≠ some q := fun q hq he => by have := hlow q he; omega
  refine ⟨⟨h.seq.row, up_gr h.seq.cells hg (hnb b h.low), h.seq.new, (h.seq.below.alloc h.seq.below.size o).grown hg (by have := h.seq.below.size; simp; omega) (fun q hq => by have := hlow q hq; have := h.low; have := h.seq.new; omega)⟩,
    up_gr h.page hg (hnb b9 h.low9), h.own.gr hg (fun q hq => (h.ne1 q hq).2.1), Own.of_rows hown (by simp) (by rw [flat_append, flat_single]), h.pags.gr hg (fun q hq => (h.ne1 q hq).1), fun j x hx => ⟨(h.each j x hx).1, ?_⟩,
    by have := h.fits; rw [List.length_append]; omega, ?_, ?_, h.ne2, h.low, h.low9, h.apart, by have := h.base; have := hg.size; simp at this; omega, h.new9⟩
  · have hj : j ≤ rs.length := by have := (List.getElem?_eq_some_iff.1 hx).1; have := h.fits; omega
    rw [play_append rs r hj]
    exact (h.each j x hx).2.gr hg (fun q hq => (h.ne1 q hq).2.2 x (List.mem_of_getElem? hx))
  · intro q hq
    rcases List.mem_append.1 hq with hq | hq
    · exact h.good q hq
    · simp at hq; subst hq; exact hr
  · intro q hq
    have hq : g = q := by injection hq
    subst hq
    rcases hat with hat | hat
    · exact h.ne1 g hat
    · subst hat
      refine ⟨fun he => ?_, fun he => ?_, fun x hx he => ?_⟩
      · have := (h.pags.lt _ he).2; omega
      · have := (h.own.lt _ he).2; omega
      · obtain ⟨j, hj⟩ := List.mem_iff_getElem?.1 hx
        have := ((h.each j x hj).2.lt _ he).2; omega
theorem RowsSt.addPage {w2 : World} {g c : Nat} {o : Obj} (h : RowsSt w0 wr B b b9 a len cap zs k n9 sl L rs pgs s8 s10)
    (hown : w2.ownsRow B 29 2 (.slice (some ⟨g, 0, none⟩) (pgs.length + 1) c) (pgs.length + 1) (flat encG pgs ++ encG (n9, sl))) (hg : (wr.alloc o).grownBy w2 (slv s10).ownBlock) (hat : (slv s10).ownBlock = some g ∨ g = wr.heap.size + 1)
    (hn : n9 = pgs.length) (hL : L = play rs pgs.length) (hlt : pgs.length < rs.length) : RowsSt w0 w2 B b b9 a len cap zs k n9 sl L rs (pgs ++ [(n9, sl)]) s8 (some ⟨g, 0, none⟩, pgs.length + 1, c) := by
  have hlow : ∀ q, (slv s10).ownBlock = some q → B ≤ q := fun q hq => (h.pags.lt q hq).1
  have hnb : ∀ q, q < B → (slv s10).ownBlock ≠ some q := fun q hq he => by have := hlow q he; omega
  have hown' := h.own.gr hg (fun q hq => (h.ne2 q hq).1)
  refine ⟨⟨h.seq.row, up_gr h.seq.cells hg (hnb b h.low), h.seq.new, (h.seq.below.alloc h.seq.below.size o).grown hg (by have := h.seq.below.size; simp; omega) (fun q hq => by have := hlow q hq; have := h.low; have := h.seq.new; omega)⟩,
    up_gr h.page hg (hnb b9 h.low9), hown', h.recs.gr hg (fun q hq he => (h.ne1 q he).1 hq), Own.of_rows hown (by simp) (by rw [flat_append, flat_single]), fun j x hx => ?_,
    by rw [List.length_append]; simp; omega, h.good, ?_, ?_, h.low, h.low9, h.apart, by have := h.base; have := hg.size; simp at this; omega, h.new9⟩
  · rcases Nat.lt_or_ge j pgs.length with hj | hj
    · rw [List.getElem?_append_left hj] at hx
      exact ⟨(h.each j x hx).1, (h.each j x hx).2.gr hg (fun q hq => (h.ne2 q hq).2 x (List.mem_of_getElem? hx))⟩
    · rw [List.getElem?_append_right hj] at hx
      have hj2 : j - pgs.length = 0 := by
        have := (List.getElem?_eq_some_iff.1 hx).1
        simp at this; omega
      rw [hj2] at hx
      simp at hx
      subst hx
      have : j = pgs.length := by omega
      subst this
      exact ⟨hn, hL ▸ hown'⟩
  · intro q hq
    obtain ⟨h1, h2, h3⟩ := h.ne1 q hq
    refine ⟨fun he => ?_, h2, fun x hx => ?_⟩
    · have he : g = q := by injection he
      subst he
      rcases hat with hat | hat
      · exact h1 hat
      · have := (h.recs.lt g hq).2; omega
    · rcases List.mem_append.1 hx with hx | hx
      · exact h3 x hx
      · simp at hx; subst hx; exact h2
  · intro q hq
    have hq : g = q := by injection hq
    subst hq
    have key : (slv sl).ownBlock ≠ some g ∧ ∀ x ∈ pgs, (slv x.2).ownBlock ≠ some g := by
      rcases hat with hat | hat
      · exact h.ne2 g hat
      · refine ⟨fun he => ?_, fun x hx he => ?_⟩
        · have := (h.own.lt _ he).2; omega
        · obtain ⟨j, hj⟩ := List.mem_iff_getElem?.1 hx
          have := ((h.each j x hj).2.lt _ he).2; omega
    refine ⟨key.1, fun x hx => ?_⟩
    rcases List.mem_append.1 hx with hx | hx
    · exact key.2 x hx
    · simp at hx; subst hx; exact key.1
/-- The page under way is another one, in new memory. -/
theorem RowsSt.turn {wq : World} (h : RowsSt w0 wr B b b9 a len cap zs k n9 sl L rs pgs s8 s10) (hb : Below wr.heap.size wr wq) (ho : Own enc2 2 56 wr.heap.size wq (slv sl') L') :
    RowsSt w0 ((wq.setCell ⟨b9, 0, none⟩ (.int .i64 n9')).setCell ⟨b9, 1, none⟩ (slv sl')) B b b9 a len cap zs k n9' sl' L' rs pgs s8 s10 := by
  have hq := h.bel hb
  have hk : Kp (fun q => q = b9) wq ((wq.setCell ⟨b9, 0, none⟩ (.int .i64 n9')).setCell ⟨b9, 1, none⟩ (slv sl')) := (Kp.setCell wq ⟨b9, 0, none⟩ _).trans (Kp.setCell _ ⟨b9, 1, none⟩ _) (fun _ hq => .inl hq)
  have hl9 := h.low9
  refine ⟨⟨hq.seq.row, hk.at hq.seq.cells h.apart, hq.seq.new, ?_⟩, ?_, ?_, hq.recs.kp hk (fun q hx he => by have := (hq.recs.lt q hx).1; omega), hq.pags.kp hk (fun q hx he => by have := (hq.pags.lt q hx).1; omega),
    fun j x hx => ⟨(hq.each j x hx).1, (hq.each j x hx).2.kp hk (fun q hy he => by have := ((hq.each j x hx).2.lt q hy).1; omega)⟩, h.fits, h.good, ?_, ?_, h.low, h.low9, h.apart, Nat.le_trans hq.base hk.size, h.new9⟩
  · exact (hq.seq.below.setCell h.new9 _).setCell h.new9 _
  · rw [set_one (set_one hq.page 0 _) 1 _]; rfl
  · exact (ho.mono h.base).kp hk (fun q hx he => by have := (ho.lt q hx).1; have := h.base; omega)
  · intro q hx
    obtain ⟨h1, h2, h3⟩ := h.ne1 q hx
    exact ⟨h1, fun he => by have := (ho.lt q he).1; have := (h.recs.lt q hx).2; omega, h3⟩
  · intro q hx
    obtain ⟨h2, h3⟩ := h.ne2 q hx
    exact ⟨fun he => by have := (ho.lt q he).1; have := (h.pags.lt q hx).2; omega, h3⟩
/-- A store behind all that is held. -/
theorem RowsSt.far {wo : World} {z : Nat} (h : RowsSt w0 wr B b b9 a len cap zs k n9 sl L rs pgs s8 s10) {ko : Nat} (ho : RowsSt w0 wo B b b9 a len cap zs ko n9 sl L rs pgs s8 s10) (hz : wo.heap.size ≤ z) (hk : Kp (fun q => q = z) wr w') : RowsSt w0 w' B b b9 a len cap zs k n9 sl L rs pgs s8 s10 :=
  have hB := ho.base
  ⟨h.seq.kpr hk (by have := h.low; omega) (by have := h.new9; have := h.low9; omega), hk.at h.page (by have := h.low9; omega), h.own.kp hk (fun q hq he => by have := (ho.own.lt q hq).2; omega), h.recs.kp hk (fun q hq he => by have := (ho.recs.lt q hq).2; omega),
    h.pags.kp hk (fun q hq he => by have := (ho.pags.lt q hq).2; omega), fun j x hx => ⟨(h.each j x hx).1, (h.each j x hx).2.kp hk (fun q hq he => by have := ((ho.each j x hx).2.lt q hq).2; omega)⟩,
    h.fits, h.good, h.ne1, h.ne2, h.low, h.low9, h.apart, Nat.le_trans h.base hk.size, h.new9⟩
end
end Go.Proofs.YtmafogagkjafbaaDoor
