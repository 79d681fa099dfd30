/- The document's disk. -/
import Derived.Test.YtoapihepdallbaaDoorNew
namespace Go.Proofs.YtoapihepdallbaaDoor
open Go.RowKit

theorem newest3 (w : World) : (((w.alloc (.cells zero256 5)).alloc (.cells #[.slice (some ⟨w.heap.size, 0, none⟩) 256 256] 106)).alloc (.cells (encQ (w.heap.size + 1)).toArray 107)).heap[w.heap.size + 2]? = some (.cells (encQ (w.heap.size + 1)).toArray 107 (0, 0)) := by
  have := heap_alloc_new ((w.alloc (.cells zero256 5)).alloc (.cells #[.slice (some ⟨w.heap.size, 0, none⟩) 256 256] 106)) (.cells (encQ (w.heap.size + 1)).toArray 107)
  have h : ((w.alloc (.cells zero256 5)).alloc (.cells #[.slice (some ⟨w.heap.size, 0, none⟩) 256 256] 106)).heap.size = w.heap.size + 2 := by simp
  rwa [h] at this

set_option maxRecDepth 4000 in
set_option maxHeartbeats 4000000 in
theorem refDisk_any (w : World) :
    Calls Tryd.prog 21 #[.int .i64 30] w fun e w' => e = .returned (.pointer (some ⟨w.heap.size, 0, none⟩)) ∧ Below w.heap.size w w' := by
  obtain ⟨i0, hi, hz0, hz1, hz2⟩ := info_parts infoQ
  have hmk : ∀ W, (Instr.makeSlice 106 (.int .i64 256) (.int .i64 256)).run Tryd.prog W = .ok (.slice (some ⟨W.heap.size, 0, none⟩) 256 256) (W.alloc (.cells zero256 5)) := fun _ => by kernel_rfl
  go_enter Tryd.func21, Tryd.ntmps21
  go_wp2_with fail
  go_loopg [4] 30 (fun kx s4 wr => ∃ i : Nat, s4 = .int .i64 i ∧ i ≤ 30 ∧ 30 - i ≤ kx ∧ Sc (Below w.heap.size w wr) ∧ Sc (DiskP encQ 1 107 114 (.int .i64 (-1)) (.bool false) w.heap.size wr w.heap.size i))
  case atStart => exact ⟨0, rfl, by omega, by omega, ⟨dn_alloc (Below.refl _ _) _⟩, ⟨none, 0, [], heap_alloc_new w _, fun h => by injection h, fun q h => by injection h, Own.nil, rfl⟩⟩
  case round =>
    obtain ⟨i, rfl, hi30, hk, HB, HD⟩ := hrel
    by_cases hlt : i < 30
    · obtain ⟨A, c, l, hc, hap, hB, hown, hlen⟩ := HD.out
      have h1 := cells_dk hc
      have z0 := unfrozen_at hc 0
      have lb := heap_lt hc
      have lb1 : w.heap.size < wr.heap.size + 1 := by omega
      have lb2 : w.heap.size < wr.heap.size + 1 + 1 := by omega
      have n0 : ¬ w.heap.size = wr.heap.size := by omega
      have n1 : ¬ w.heap.size = wr.heap.size + 1 := by omega
      have n2 : ¬ w.heap.size = wr.heap.size + 1 + 1 := by omega
      have HC := Sc.mk hc
      have HO : Sc (Own encQ 1 107 0 wr (.slice A i c) l ∧ l.length = i) := ⟨hown, hlen⟩
      have HAP := Sc.mk (And.intro hap hB)
      have HA2 : Sc (i + 1 ≤ maxLen) := ⟨by unfold maxLen; omega⟩
      have HA3 : Sc ((i + 1) * 24 ≤ 140737488355328) := ⟨by omega⟩
      have hd : decide ((i : Int) < 30) = true := decide_eq_true (by omega)
      have hiw : IntKind.i64.wrap ((i : Int) + 1) = ((i + 1 : Nat) : Int) := by rw [IntWalk.i64_in _ ⟨by omega, by omega⟩]; omega
      clear hc hap hB hown hlen
      go_upto_region 5 with fail
      go_region_law (first | ((refine step_append_lies _ (by rfl) (.tmp 18) (.tmp 21) 112 (by rfl) 0 107 i0 (.slice none 0 0) 1 24 Tryd.underlying112 hi hz0 hz1 hz2 rfl (by decide) _ i (flat encQ l) (by rfl) ((((HO.out.1.alloc _).alloc _).alloc _).drew.rows HO.out.2) ⟨wr.heap.size + 2, 0, none⟩ 1 1 (encQ (wr.heap.size + 1)) (by rfl) (by rfl) (World.news_of_block (newest3 wr)) (kindQ.one _) Nat.one_pos HA2.out HA3.out (Nat.zero_le _) (wr.heap.size + 3) (by simp) ?_); intro ga ca wa g1 g2 g3 g4; obtain ⟨hce, hdp, hbe⟩ := DiskP.app (z := wr.heap.size + 1) HC.out HAP.out.1 HAP.out.2 (Nat.le_refl _) HO.out.2 HB.out.size (dn_alloc (dn_alloc (dn_alloc (Below.refl wr.heap.size wr) _) _) _) g1 (grown_drewR g2) (g3.elim .inl (fun h => .inr (by rw [h]; simp))); have y0 := unfrozen_at hce 0; have y1 := cells_dk hce; have lw := heap_lt hce; have HDP := Sc.mk hdp; have HBE := Sc.mk hbe; clear g1 g2 g3 g4 hce hdp hbe))
      all_goals
        go_wp2
        go_roundg (30 - (i + 1))
        case measure => omega
        case rel => exact ⟨i + 1, by rw [show ((i + 1 : Nat) : Int) = (i : Int) + 1 from by omega], by omega, Nat.le_refl _, ⟨HB.out.trans HBE.out⟩, HDP⟩
    · have hd : decide ((i : Int) < 30) = false := decide_eq_false (by omega)
      go_wp2
      go_ret
      exact ⟨rfl, HB.out⟩
end Go.Proofs.YtoapihepdallbaaDoor
