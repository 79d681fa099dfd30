/- Numbers taken one by one: (*phoenixmake.Seq).Next; the document's equality of pages and records. -/
import Derived.Test.YtmafogagkjafbaaDoorRef7Put
import Derived.Test.YtmafogagkjafbaaDoorNum
namespace Go.Proofs.YtmafogagkjafbaaDoor
open Go.RowKit

/-- Numbers that came in, k of them taken. -/
structure SeqIs (w0 w : World) (b : Nat) (a : Option Addr) (len cap : Nat) (zs : List Int) (k : Nat) : Prop where
  row : IsRow .i64 w0 a len cap zs
  cells : w.heap[b]? = some (.cells #[.slice a len cap, .int .i64 k] 26 (0, 0))
  new : w0.heap.size ≤ b
  below : Below w0.heap.size w0 w
theorem SeqIs.bel {w0 w w' : World} {b : Nat} {a : Option Addr} {len cap : Nat} {zs : List Int} {k : Nat} (h : SeqIs w0 w b a len cap zs k) (hb : Below w.heap.size w w') : SeqIs w0 w' b a len cap zs k :=
  ⟨h.row, (hb.block _ (heap_lt h.cells)).trans h.cells, h.new, h.below.trans (hb.mono h.below.size)⟩
theorem SeqIs.next {w0 w w' : World} {b : Nat} {a : Option Addr} {len cap : Nat} {zs : List Int} {k : Nat} (h : SeqIs w0 w b a len cap zs k) (hb : Below w.heap.size w w') :
    SeqIs w0 (w'.setCell ⟨b, 1, none⟩ (.int .i64 ((k : Int) + 1))) b a len cap zs (k + 1) ∧ Kp (fun q => q = b) w (w'.setCell ⟨b, 1, none⟩ (.int .i64 ((k : Int) + 1))) := by
  have hc := (hb.block _ (heap_lt h.cells)).trans h.cells
  refine ⟨⟨h.row, ?_, h.new, (h.below.trans (hb.mono h.below.size)).setCell h.new _⟩, (Kp.of_below hb _).trans (Kp.setCell w' ⟨b, 1, none⟩ _) (fun q hq => .inl hq)⟩
  rw [set_one hc 1 _]; rfl
/-- What Next leaves. -/
def NextLeft (w0 w : World) (b : Nat) (a : Option Addr) (len cap : Nat) (zs : List Int) (k : Nat) (m : Int) (e : Ending) (w' : World) : Prop :=
  ∃ r : Int, 0 ≤ r ∧ r < m ∧ e = .returned (.int .i64 r) ∧ SeqIs w0 w' b a len cap zs (k + 1) ∧ Kp (fun q => q = b) w w'

theorem below_drewN' {B : Nat} {w0 w : World} (h : Below B w0 w) (n : Nat) : Below B w0 (w.drewN n) := ⟨h.os, h.tape, h.output, h.size, h.block⟩

set_option maxRecDepth 4000 in
set_option maxHeartbeats 1000000 in
theorem next_any (w0 w : World) (b : Nat) (a : Option Addr) (len cap : Nat) (zs : List Int) (k : Nat) (m : Int) (h : SeqIs w0 w b a len cap zs k) (hk : k ≤ 1000000) (h0 : 0 < m) (h1 : m ≤ 1000000) :
    Calls Tryd.prog 27 #[.pointer (some ⟨b, 0, none⟩), .int .i64 m] w (NextLeft w0 w b a len cap zs k m) := by
  have HS := Sc.mk h
  obtain ⟨c0, c1⟩ := cells_page h.cells
  have f1 := unfrozen_at h.cells 1
  have lb := heap_lt h.cells
  by_cases hlt : k < len
  · obtain ⟨g, off, rfl, hgw, hz⟩ := h.row.at (by omega)
    have hd := (h.below.cell (p := ⟨g, off + k, none⟩) hgw).trans (hz k hlt)
    generalize zs.getD k 0 = z at hd
    have hki : (k : Int) < len := by omega
    have hk0 : (0 : Int) ≤ (k : Int) := Int.natCast_nonneg _
    clear h hz
    go_enter Tryd.func27, Tryd.ntmps27
    go_wp2_with fail
    go_quiet (fail)
    go_wp2_with fail
    go_quiet (fail)
    go_wp2_with (go_at_call 17; go_loud (refine (number_any z m _ h0 h1).mono ?_; rintro e w2 ⟨rfl, rfl⟩))
    go_ret
    exact ⟨z % m, Int.emod_nonneg _ (by omega), Int.emod_lt_of_pos _ h0, rfl, HS.out.next (below_drewN' (Below.refl _ _) _)⟩
  · have hki : ¬ (k : Int) < len := by omega
    have hk0 : (0 : Int) ≤ (k : Int) := Int.natCast_nonneg _
    clear h
    go_enter Tryd.func27, Tryd.ntmps27
    go_wp2_with fail
    go_quiet (fail)
    go_wp2_with (go_at_call 17; go_loud (refine (number_any 0 m _ h0 h1).mono ?_; rintro e w2 ⟨rfl, rfl⟩))
    go_ret
    exact ⟨0 % m, Int.emod_nonneg _ (by omega), Int.emod_lt_of_pos _ h0, rfl, HS.out.next (below_drewN' (Below.refl _ _) _)⟩

set_option maxRecDepth 4000 in
set_option maxHeartbeats 1000000 in
theorem samePage_any (w : World) (base base' : Nat) (n n' : Int) (u v : Value) (l m : List (Int × Int)) (hown : Own enc2 2 56 base w u l) (hown' : Own enc2 2 56 base' w v m) (hlen : l.length ≤ 1000000) (hlen' : m.length ≤ 1000000) :
    Calls Tryd.prog 22 #[aggP n u, aggP n' v] w fun e w' => e = .returned (.bool (decide (n = n' ∧ l = m))) ∧ Below w.heap.size w w' := by
  obtain ⟨A, k, c, rfl⟩ := hown.slice3
  obtain ⟨A', k', c', rfl⟩ := hown'.slice3
  have HO : Sc (Own enc2 2 56 base ((w.alloc (.cells #[.int .i64 n, .slice A k c] 29)).alloc (.cells #[.int .i64 n', .slice A' k' c'] 29)) (.slice A k c) l) := ⟨(hown.alloc _).alloc _⟩
  have HO' : Sc (Own enc2 2 56 base' ((w.alloc (.cells #[.int .i64 n, .slice A k c] 29)).alloc (.cells #[.int .i64 n', .slice A' k' c'] 29)) (.slice A' k' c') m) := ⟨(hown'.alloc _).alloc _⟩
  have HBW : Sc (Below w.heap.size w ((w.alloc (.cells #[.int .i64 n, .slice A k c] 29)).alloc (.cells #[.int .i64 n', .slice A' k' c'] 29))) := ⟨((Below.refl _ _).alloc (Nat.le_refl _) _).alloc (by simp) _⟩
  have HL := Sc.mk hlen
  have HL' := Sc.mk hlen'
  clear hown hown' hlen hlen'
  by_cases hn : n = n'
  · have hb : (n == n') = true := by simp [hn]
    have HN : Sc (decide (n = n' ∧ l = m) = decide (l = m)) := ⟨by simp [hn]⟩
    rw [HN.out]
    clear hn
    go_enter Tryd.func22, Tryd.ntmps22
    go_wp2_with (go_at_call 26; go_loud (refine (entrySame_any _ base base' _ _ l m HO.out HO'.out HL.out HL'.out).mono ?_; rintro e w2 ⟨rfl, hb2⟩))
    go_ret
    exact ⟨rfl, HBW.out.trans (hb2.mono HBW.out.size)⟩
  · have hb : (n == n') = false := by simp [hn]
    have HN : Sc (decide (n = n' ∧ l = m) = false) := ⟨by simp [hn]⟩
    rw [HN.out]
    clear hn
    go_enter Tryd.func22, Tryd.ntmps22
    go_wp2_with fail
    go_ret
    exact ⟨rfl, HBW.out⟩
theorem samePage_refl (w : World) (base base' : Nat) (n : Int) (u v : Value) (l : List (Int × Int)) (hown : Own enc2 2 56 base w u l) (hown' : Own enc2 2 56 base' w v l) (hlen : l.length ≤ 1000000) :
    Calls Tryd.prog 22 #[aggP n u, aggP n v] w fun e w' => e = .returned (.bool true) ∧ Below w.heap.size w w' :=
  (samePage_any w base base' n n u v l l hown hown' hlen hlen).mono fun e w' ⟨he, hb⟩ => ⟨by rw [he, decide_eq_true ⟨rfl, rfl⟩], hb⟩

set_option maxRecDepth 4000 in
set_option maxHeartbeats 1000000 in
theorem sameRec_refl (w : World) (r : RecD) :
    Calls Tryd.prog 24 #[aggR r, aggR r] w fun e w' => e = .returned (.bool true) ∧ Below w.heap.size w w' := by
  go_enter Tryd.func24, Tryd.ntmps24
  go_wp2_with fail
  go_ret
  exact ⟨rfl, ((Below.refl _ _).alloc (Nat.le_refl _) _).alloc (by simp) _⟩
end Go.Proofs.YtmafogagkjafbaaDoor
