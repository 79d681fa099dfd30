/- What the analysis of a log comes to: plain, no program. -/
import Derived.Test.YtoapihepdallbaaDoorRecB
import Derived.Test.YtoapihepdallbaaDoorFTabT2
namespace Go.Proofs.YtoapihepdallbaaDoor
open Go.RowKit

/-- What was found so far: who is open, the greatest number, what is dirty; inside of the checkpoint? -/
structure An where
  t : List TX
  m : Int
  d : List (Int × Int)
  ins : Bool
abbrev An.zero (i : Bool) : An := ⟨[], 0, [], i⟩
/-- A checkpoint's record. -/
def stepC (base lsn : Int) (r : RecD) (s : An) : Bool × An :=
  if r.kind = 8 then (decide (r.prev < lsn) && decide (r.next < lsn), { s with t := setIn s.t (r.txn, r.key, r.prev, r.next), m := max s.m r.txn })
  else if r.kind = 9 then (decide (base < r.prev) && decide (r.prev < lsn), { s with d := add s.d (r.page, r.prev) })
  else if r.kind = 10 then (true, { s with m := max s.m r.next, ins := false })
  else (false, s)
/-- How a transaction is noted behind a record of its own. -/
def noteG (lsn : Int) (r : RecD) (x : TX) : TX :=
  (x.1, if r.kind = 4 then 1 else if r.kind = 5 then 2 else x.2.1, lsn, if r.kind = 2 then lsn else if r.kind = 3 then r.next else x.2.2.2)
/-- A transaction's record. -/
def stepG (lsn : Int) (r : RecD) (s : An) : Bool × An :=
  if r.kind = 1 then (!has s.t r.txn, { s with t := setIn s.t (r.txn, 0, lsn, 0), m := max s.m r.txn })
  else if has s.t r.txn = false ∨ r.prev ≠ (got s.t r.txn).2.2.1 then (false, s)
  else if r.kind = 6 then (true, { s with t := drop' s.t r.txn })
  else (if r.kind = 3 then decide ((got s.t r.txn).2.1 ≠ 1) && decide (r.next < lsn) else decide ((got s.t r.txn).2.1 = 0),
    { s with t := setIn s.t (noteG lsn r (got s.t r.txn)), m := max s.m (got s.t r.txn).1, d := if r.kind = 2 ∨ r.kind = 3 then add s.d (r.page, lsn) else s.d })
def stepO (base lsn : Int) (r : RecD) (s : An) : Bool × An :=
  if s.ins = true then stepC base lsn r s else if 7 ≤ r.kind then (true, s) else stepG lsn r s
/-- From a record on: the place of the one that can't be. -/
def runA (base : Int) : Int → List RecD → An → Option Int × An
  | _, [], s => (none, s)
  | lsn, r :: rs, s => if (stepO base lsn r s).1 = true then runA base (lsn + 1) rs (stepO base lsn r s).2 else (some lsn, (stepO base lsn r s).2)
def badPage (pages : Int) : Int → List RecD → Option Int
  | _, [] => none
  | lsn, r :: rs => if (r.kind = 2 ∨ r.kind = 3 ∨ r.kind = 9) ∧ pages < r.page then some lsn else badPage pages (lsn + 1) rs
/-- What the analysis says: the place of what can't be, or what was found. -/
def anaRes (last : Int) (x : Option Int × An) : Option Int × An :=
  match x.1 with
  | some p => (some p, An.zero false)
  | none => if x.2.ins = true then (some (last + 1), An.zero false) else (none, x.2)
def recAt (L : List RecD) (base lsn : Int) : Option RecD := if base < lsn ∧ lsn ≤ base + L.length then L[(lsn - base - 1).toNat]? else none
def anaP (L : List RecD) (base pages ckpt : Int) : Option Int × An :=
  match badPage pages (base + 1) L with
  | some p => (some p, An.zero false)
  | none =>
    if ckpt = 0 then anaRes (base + L.length) (runA base (base + 1) L (An.zero false))
    else match recAt L base ckpt with
      | some r => if r.kind = 7 then anaRes (base + L.length) (runA base (ckpt + 1) (L.drop (ckpt - base).toNat) (An.zero true)) else (some ckpt, An.zero false)
      | none => (some ckpt, An.zero false)
end Go.Proofs.YtoapihepdallbaaDoor
