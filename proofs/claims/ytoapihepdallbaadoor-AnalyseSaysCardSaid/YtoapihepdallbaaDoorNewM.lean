/- The two logs' making: disk.New, phoenixref1.NewDisk, wal.New, phoenixref1.NewLog. The document's disk. -/
import Derived.Test.YtoapihepdallbaaDoorWal2
namespace Go.Proofs.YtoapihepdallbaaDoor
section
open Go.RowKit

abbrev zrow : Array Value := #[.int .u8 0]
def zero256 : Array Value := (List.replicate 256 (Value.int .u8 0)).toArray
def encS (g : Nat) : List Value := [.slice (some ⟨g, 0, none⟩) 256 256, .slice none 0 0]
theorem kindS : Kind encS 2 := ⟨fun _ => rfl, fun _ u hu => by simp [encS] at hu; rcases hu with rfl | rfl <;> rfl, by omega⟩
def encQ (g : Nat) : List Value := [.slice (some ⟨g, 0, none⟩) 1 1]
theorem kindQ : Kind encQ 1 := ⟨fun _ => rfl, fun _ u hu => by simp [encQ] at hu; rcases hu with rfl; rfl, by omega⟩
theorem infoS : (Tryd.prog.info? 109).map (fun i => (i.zero, i.size, i.bytes)) = some (some (.agg #[.slice none 0 0, .slice none 0 0]), 2, 48) := by kernel_rfl
theorem infoQ : (Tryd.prog.info? 107).map (fun i => (i.zero, i.size, i.bytes)) = some (some (.slice none 0 0), 1, 24) := by kernel_rfl

/-- A disk in block b with k sectors: its row lies from B on. -/
def DiskP {α : Type} (enc : α → List Value) (sz : Nat) (te td : TypeId) (x y : Value) (B : Nat) (w : World) (b k : Nat) : Prop :=
  ∃ (A : Option Addr) (c : Nat) (l : List α), w.heap[b]? = some (.cells #[.slice A k c, x, y] td (0, 0)) ∧ (Value.slice A k c).ownBlock ≠ some b ∧ (∀ q, (Value.slice A k c).ownBlock = some q → B ≤ q) ∧ Own enc sz te 0 w (.slice A k c) l ∧ l.length = k
theorem DiskP.app {α : Type} {enc : α → List Value} {sz : Nat} {te td : TypeId} {x y : Value} {B b k g cap c : Nat} {A : Option Addr} {wr W w2 : World} {l : List α} {z : α}
    (h1 : wr.heap[b]? = some (.cells #[.slice A k c, x, y] td (0, 0))) (h2 : (Value.slice A k c).ownBlock ≠ some b) (h3 : ∀ q, (Value.slice A k c).ownBlock = some q → B ≤ q) (hbB : B ≤ b) (hlen : l.length = k) (hB : B ≤ wr.heap.size)
    (hb : Below wr.heap.size wr W) (hown : w2.ownsRow 0 te sz (.slice (some ⟨g, 0, none⟩) (k + 1) cap) (k + 1) (flat enc l ++ enc z)) (hg : W.grownBy w2 (Value.slice A k c).ownBlock) (hat : (Value.slice A k c).ownBlock = some g ∨ W.heap.size ≤ g) :
    w2.heap[b]? = some (.cells #[.slice A k c, x, y] td (0, 0)) ∧ DiskP enc sz te td x y B (w2.setCell ⟨b, 0, none⟩ (.slice (some ⟨g, 0, none⟩) (k + 1) cap)) b (k + 1) ∧ Below B wr (w2.setCell ⟨b, 0, none⟩ (.slice (some ⟨g, 0, none⟩) (k + 1) cap)) := by
  have hW := up hb h1
  have hc2 : w2.heap[b]? = some (.cells #[.slice A k c, x, y] td (0, 0)) := (hg.block b (heap_lt hW) (fun he => h2 he.symm)).trans hW
  have hne : g ≠ b := by
    rcases hat with h | h
    · intro he; subst he; exact h2 h
    · have := heap_lt hW; omega
  have hgB : B ≤ g := by
    rcases hat with h | h
    · exact h3 g h
    · have := hb.size; omega
  have ho : Own enc sz te 0 w2 (.slice (some ⟨g, 0, none⟩) (k + 1) cap) (l ++ [z]) := Own.of_rows hown (by simp [hlen]) (by rw [flat_append, flat_single])
  refine ⟨hc2, ⟨some ⟨g, 0, none⟩, cap, l ++ [z], ?_, fun he => hne (by injection he), fun q hq => by injection hq with hq; rw [← hq]; exact hgB, ho.kp (Kp.setCell w2 _ _) (fun q hq he => ?_), by simp [hlen]⟩, ?_⟩
  · rw [set_one hc2 0 _]; rfl
  · injection hq with hq; exact hne (hq.trans he)
  · refine ((((Kp.of_below hb (fun q => q = b ∨ some q = (Value.slice A k c).ownBlock)).trans (Kp.of_grown hg) (fun q hq => .inl (.inr hq)))).trans (Kp.setCell w2 ⟨b, 0, none⟩ _) (fun q hq => .inl (.inl hq))).below hB (fun q hq => ?_)
    rcases hq with hq | hq
    · rw [hq]; exact hbB
    · exact h3 q hq.symm
theorem newest2 (w : World) : ((w.alloc (.cells zero256 5)).alloc (.cells (encS w.heap.size).toArray 109)).heap[w.heap.size + 1]? = some (.cells (encS w.heap.size).toArray 109 (0, 0)) := by
  have := heap_alloc_new (w.alloc (.cells zero256 5)) (.cells (encS w.heap.size).toArray 109)
  have h : (w.alloc (.cells zero256 5)).heap.size = w.heap.size + 1 := by simp
  rwa [h] at this
theorem cells_dk {w : World} {b : Nat} {t : TypeId} {v x y : Value} (h : w.heap[b]? = some (.cells #[v, x, y] t (0, 0))) : w.cell? ⟨b, 0, none⟩ = some v := by simp [World.cell?, h]

set_option maxRecDepth 4000 in
set_option maxHeartbeats 2000000 in
theorem walNew_any (w : World) (dp : Option Addr) (bs : Int) :
    Calls Tryd.prog 19 #[.pointer dp, .int .i64 1, .int .i64 29, .int .i64 bs, .int .i64 1] w fun e w' => e = .returned (.pointer (some ⟨w.heap.size, 0, none⟩)) ∧ LogP w' w.heap.size none [] bs ∧ Below w.heap.size w w' := by
  go_enter Tryd.func19, Tryd.ntmps19
  go_wp2
  go_ret
  exact ⟨rfl, ⟨⟨dp, none, 0, 0, rfl, heap_alloc_new w _, Own.nil⟩, by simp⟩, dn_alloc (Below.refl _ _) _⟩

set_option maxRecDepth 4000 in
set_option maxHeartbeats 4000000 in
theorem diskNew_any (w : World) :
    Calls Tryd.prog 18 #[.int .i64 30] w fun e w' => e = .returned (.pointer (some ⟨w.heap.size, 0, none⟩)) ∧ Below w.heap.size w w' := by
  obtain ⟨i0, hi, hz0, hz1, hz2⟩ := info_parts infoS
  have hmk : ∀ W, (Instr.makeSlice 106 (.int .i64 256) (.int .i64 256)).run Tryd.prog W = .ok (.slice (some ⟨W.heap.size, 0, none⟩) 256 256) (W.alloc (.cells zero256 5)) := fun _ => by kernel_rfl
  go_enter Tryd.func18, Tryd.ntmps18
  go_wp2_with fail
  go_loopg [9] 30 (fun kx s9 wr => ∃ i : Nat, s9 = .int .i64 i ∧ i ≤ 30 ∧ 30 - i ≤ kx ∧ Sc (Below w.heap.size w wr) ∧ Sc (DiskP encS 2 109 105 (.bool false) (.int .i64 (-1)) w.heap.size wr w.heap.size i))
  case atStart => exact ⟨0, rfl, by omega, by omega, ⟨dn_alloc (Below.refl _ _) _⟩, ⟨none, 0, [], heap_alloc_new w _, fun h => by injection h, fun q h => by injection h, Own.nil, rfl⟩⟩
  case round =>
    obtain ⟨i, rfl, hi30, hk, HB, HD⟩ := hrel
    by_cases hlt : i < 30
    · obtain ⟨A, c, l, hc, hap, hB, hown, hlen⟩ := HD.out
      have h1 := cells_dk hc
      have z0 := unfrozen_at hc 0
      have lb := heap_lt hc
      have HC := Sc.mk hc
      have HO : Sc (Own encS 2 109 0 wr (.slice A i c) l ∧ l.length = i) := ⟨hown, hlen⟩
      have HAP := Sc.mk (And.intro hap hB)
      have HA2 : Sc (i + 1 ≤ maxLen) := ⟨by unfold maxLen; omega⟩
      have HA3 : Sc ((i + 1) * 48 ≤ 140737488355328) := ⟨by omega⟩
      have hd : decide ((i : Int) < 30) = true := decide_eq_true (by omega)
      have hiw : IntKind.i64.wrap ((i : Int) + 1) = ((i + 1 : Nat) : Int) := by rw [IntWalk.i64_in _ ⟨by omega, by omega⟩]; omega
      clear hc hap hB hown hlen
      go_upto_region 4 with fail
      go_region_law (first | ((refine step_append_lies _ (by rfl) (.tmp 15) (.tmp 18) 103 (by rfl) 0 109 i0 (.agg #[.slice none 0 0, .slice none 0 0]) 2 48 Tryd.underlying103 hi hz0 hz1 hz2 rfl (by decide) _ i (flat encS l) (by rfl) (((HO.out.1.alloc _).alloc _).drew.rows HO.out.2) ⟨wr.heap.size + 1, 0, none⟩ 1 1 (encS wr.heap.size) (by rfl) (by rfl) (World.news_of_block (newest2 wr)) (kindS.one _) Nat.one_pos HA2.out HA3.out (Nat.zero_le _) (wr.heap.size + 2) (by simp) ?_); intro ga ca wa g1 g2 g3 g4; obtain ⟨hce, hdp, hbe⟩ := DiskP.app (z := wr.heap.size) HC.out HAP.out.1 HAP.out.2 (Nat.le_refl _) HO.out.2 HB.out.size (dn_alloc (dn_alloc (Below.refl wr.heap.size wr) _) _) g1 (grown_drewR g2) (g3.elim .inl (fun h => .inr (by rw [h]; simp))); have y0 := unfrozen_at hce 0; have y1 := cells_dk hce; have lw := heap_lt hce; have HDP := Sc.mk hdp; have HBE := Sc.mk hbe; clear g1 g2 g3 g4 hce hdp hbe))
      all_goals
        go_wp2
        go_roundg (30 - (i + 1))
        case measure => omega
        case rel => exact ⟨i + 1, by rw [show ((i + 1 : Nat) : Int) = (i : Int) + 1 from by omega], by omega, Nat.le_refl _, ⟨HB.out.trans HBE.out⟩, HDP⟩
    · have hd : decide ((i : Int) < 30) = false := decide_eq_false (by omega)
      go_wp2
      go_ret
      exact ⟨rfl, HB.out⟩
end
section
open Go.RowKit

theorem newest3 (w : World) : (((w.alloc (.cells zero256 5)).alloc (.cells #[.slice (some ⟨w.heap.size, 0, none⟩) 256 256] 106)).alloc (.cells (encQ (w.heap.size + 1)).toArray 107)).heap[w.heap.size + 2]? = some (.cells (encQ (w.heap.size + 1)).toArray 107 (0, 0)) := by
  have := heap_alloc_new ((w.alloc (.cells zero256 5)).alloc (.cells #[.slice (some ⟨w.heap.size, 0, none⟩) 256 256] 106)) (.cells (encQ (w.heap.size + 1)).toArray 107)
  have h : ((w.alloc (.cells zero256 5)).alloc (.cells #[.slice (some ⟨w.heap.size, 0, none⟩) 256 256] 106)).heap.size = w.heap.size + 2 := by simp
  rwa [h] at this

set_option maxRecDepth 4000 in
set_option maxHeartbeats 4000000 in
theorem refDisk_any (w : World) :
    Calls Tryd.prog 21 #[.int .i64 30] w fun e w' => e = .returned (.pointer (some ⟨w.heap.size, 0, none⟩)) ∧ Below w.heap.size w w' := by
  obtain ⟨i0, hi, hz0, hz1, hz2⟩ := info_parts infoQ
  have hmk : ∀ W, (Instr.makeSlice 106 (.int .i64 256) (.int .i64 256)).run Tryd.prog W = .ok (.slice (some ⟨W.heap.size, 0, none⟩) 256 256) (W.alloc (.cells zero256 5)) := fun _ => by kernel_rfl
  go_enter Tryd.func21, Tryd.ntmps21
  go_wp2_with fail
  go_loopg [4] 30 (fun kx s4 wr => ∃ i : Nat, s4 = .int .i64 i ∧ i ≤ 30 ∧ 30 - i ≤ kx ∧ Sc (Below w.heap.size w wr) ∧ Sc (DiskP encQ 1 107 114 (.int .i64 (-1)) (.bool false) w.heap.size wr w.heap.size i))
  case atStart => exact ⟨0, rfl, by omega, by omega, ⟨dn_alloc (Below.refl _ _) _⟩, ⟨none, 0, [], heap_alloc_new w _, fun h => by injection h, fun q h => by injection h, Own.nil, rfl⟩⟩
  case round =>
    obtain ⟨i, rfl, hi30, hk, HB, HD⟩ := hrel
    by_cases hlt : i < 30
    · obtain ⟨A, c, l, hc, hap, hB, hown, hlen⟩ := HD.out
      have h1 := cells_dk hc
      have z0 := unfrozen_at hc 0
      have lb := heap_lt hc
      have lb1 : w.heap.size < wr.heap.size + 1 := by omega
      have lb2 : w.heap.size < wr.heap.size + 1 + 1 := by omega
      have n0 : ¬ w.heap.size = wr.heap.size := by omega
      have n1 : ¬ w.heap.size = wr.heap.size + 1 := by omega
      have n2 : ¬ w.heap.size = wr.heap.size + 1 + 1 := by omega
      have HC := Sc.mk hc
      have HO : Sc (Own encQ 1 107 0 wr (.slice A i c) l ∧ l.length = i) := ⟨hown, hlen⟩
      have HAP := Sc.mk (And.intro hap hB)
      have HA2 : Sc (i + 1 ≤ maxLen) := ⟨by unfold maxLen; omega⟩
      have HA3 : Sc ((i + 1) * 24 ≤ 140737488355328) := ⟨by omega⟩
      have hd : decide ((i : Int) < 30) = true := decide_eq_true (by omega)
      have hiw : IntKind.i64.wrap ((i : Int) + 1) = ((i + 1 : Nat) : Int) := by rw [IntWalk.i64_in _ ⟨by omega, by omega⟩]; omega
      clear hc hap hB hown hlen
      go_upto_region 5 with fail
      go_region_law (first | ((refine step_append_lies _ (by rfl) (.tmp 18) (.tmp 21) 112 (by rfl) 0 107 i0 (.slice none 0 0) 1 24 Tryd.underlying112 hi hz0 hz1 hz2 rfl (by decide) _ i (flat encQ l) (by rfl) ((((HO.out.1.alloc _).alloc _).alloc _).drew.rows HO.out.2) ⟨wr.heap.size + 2, 0, none⟩ 1 1 (encQ (wr.heap.size + 1)) (by rfl) (by rfl) (World.news_of_block (newest3 wr)) (kindQ.one _) Nat.one_pos HA2.out HA3.out (Nat.zero_le _) (wr.heap.size + 3) (by simp) ?_); intro ga ca wa g1 g2 g3 g4; obtain ⟨hce, hdp, hbe⟩ := DiskP.app (z := wr.heap.size + 1) HC.out HAP.out.1 HAP.out.2 (Nat.le_refl _) HO.out.2 HB.out.size (dn_alloc (dn_alloc (dn_alloc (Below.refl wr.heap.size wr) _) _) _) g1 (grown_drewR g2) (g3.elim .inl (fun h => .inr (by rw [h]; simp))); have y0 := unfrozen_at hce 0; have y1 := cells_dk hce; have lw := heap_lt hce; have HDP := Sc.mk hdp; have HBE := Sc.mk hbe; clear g1 g2 g3 g4 hce hdp hbe))
      all_goals
        go_wp2
        go_roundg (30 - (i + 1))
        case measure => omega
        case rel => exact ⟨i + 1, by rw [show ((i + 1 : Nat) : Int) = (i : Int) + 1 from by omega], by omega, Nat.le_refl _, ⟨HB.out.trans HBE.out⟩, HDP⟩
    · have hd : decide ((i : Int) < 30) = false := decide_eq_false (by omega)
      go_wp2
      go_ret
      exact ⟨rfl, HB.out⟩
end
end Go.Proofs.YtoapihepdallbaaDoor
