/- bytes.Equal. -/
import Derived.Laws.BytesArg
import Derived.Lib.Bytes
import Derived.Test.YtmafogagkjafbaaDoorCell
namespace Go.Proofs.YtmafogagkjafbaaDoor
open Go.RowKit

theorem strOf_inj {a b : List Int} (ha : Byt a) (hb : Byt b) (h1 : (a.map fun n => UInt8.ofNat n.toNat) = b.map fun n => UInt8.ofNat n.toNat) : a = b := by
  induction a generalizing b with
  | nil => cases b with
    | nil => rfl
    | cons y b => simp at h1
  | cons x a ih => cases b with
    | nil => simp at h1
    | cons y b =>
      rw [List.map_cons, List.map_cons] at h1
      injection h1 with h2 h3
      have hx := ha x (List.mem_cons_self ..)
      have hy := hb y (List.mem_cons_self ..)
      have h4 := congrArg UInt8.toNat h2
      rw [UInt8.toNat_ofNat', UInt8.toNat_ofNat'] at h4
      rw [ih (fun z hz => ha z (List.mem_cons_of_mem _ hz)) (fun z hz => hb z (List.mem_cons_of_mem _ hz)) h3, show x = y by omega]
set_option maxRecDepth 4000 in
theorem RdB.convert {w : World} {A : Option Addr} {c k : Nat} {l : List Int} (h : RdB w (.slice A k c) l) (hl : 0 < l.length) :
    (convert 61 9 (.slice A k c)).run Tryd.prog w = .ok (.string (strOfNums l)) w := by
  obtain ⟨b, off, cap, he, _, _, hc⟩ := h.form hl
  injection he with h1 h2 h3
  subst h1 h2 h3
  exact run_convert_bytes_arg (P := Tryd.prog) w 61 5 Tryd.underlying61 Tryd.underlying5 b off l.length c l rfl (fun i hi => by rw [hc i l[i] (List.getElem?_eq_getElem hi), List.getD_eq_getElem?_getD, List.getElem?_eq_getElem hi]; rfl) 9 Tryd.underlying9

set_option maxHeartbeats 400000 in
theorem bytesEqual_any (w : World) (va vb : Value) (a b : List Int) (ha : RdB w va a) (hb : RdB w vb b) (hla : 0 < a.length) (hlb : 0 < b.length) (hya : Byt a) (hyb : Byt b) :
    Calls Tryd.prog 51 #[va, vb] w fun e w' => e = .returned (.bool (decide (a = b))) ∧ w' = w := by
  obtain ⟨A, c, rfl⟩ := ha.slice
  obtain ⟨B, d, rfl⟩ := hb.slice
  have h1 := ha.convert hla
  have h2 := hb.convert hlb
  obtain ⟨s, hs⟩ : ∃ s, strOfNums a = s := ⟨_, rfl⟩
  obtain ⟨t, ht⟩ : ∃ t, strOfNums b = t := ⟨_, rfl⟩
  have HQ : Sc (decide (a = b) = (s.toList == t.toList)) := ⟨by
    subst hs ht
    rw [Lib.strOfNums_toList, Lib.strOfNums_toList]
    by_cases h : a = b
    · rw [h]; simp
    · rw [decide_eq_false h]
      exact (beq_eq_false_iff_ne.2 (fun he => h (strOf_inj hya hyb he))).symm⟩
  rw [hs] at h1
  rw [ht] at h2
  clear hs ht ha hb hya hyb hla hlb
  go_enter Tryd.func51, Tryd.ntmps51
  go_wp2
  go_ret
  exact ⟨by rw [HQ.out]; rfl, rfl⟩
end Go.Proofs.YtmafogagkjafbaaDoor
