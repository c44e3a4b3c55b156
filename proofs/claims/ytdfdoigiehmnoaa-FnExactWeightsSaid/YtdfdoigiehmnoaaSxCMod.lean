/- Contracts: arithmetic modulo a number. No condition. -/
import Derived.Test.YtdfdoigiehmnoaaSxCField
namespace Go.SF
open Go.SX Go
set_option linter.unusedVariables false
def addM (p a b : Int) : Int := (a + b) % p
def subM (p a b : Int) : Int := (a - b) % p
def mulM (p a b : Int) : Int := a * b % p
def powM (p a : Int) (e : Nat) : Int := a ^ e % p
def redM (p a : Int) : Int := a % p
def redS (f x : Int) : Int := if modF f = 0 then -1 else x % modF f
def addS (f a b : Int) : Int := if modF f = 0 then -1 else addM (modF f) a b
def subS (f a b : Int) : Int := if modF f = 0 then -1 else subM (modF f) a b
def mulS (f a b : Int) : Int := if modF f = 0 then -1 else mulM (modF f) a b
def powP (p a e : Int) : Int := if a % p = 0 then (if e = 0 then 1 else if e < 0 then -1 else 0) else powM p a (e % (p - 1)).toNat
def powS (f a e : Int) : Int := if modF f = 0 then -1 else powP (modF f) a e
def IsMod (p : Int) : Prop := 17 ≤ p ∧ p ≤ 1004535809
def El (p x : Int) : Prop := 0 ≤ x ∧ x < p
def invM (p a : Int) : Int := powM p a (p - 2).toNat
def fS_ReduceC : PC := { ts := [i64T, i64T], rs := [i64T], pre := fun _ => True, F := fun x => redS x.1 x.2 }
def fS_AddC : PC := { ts := [i64T, i64T, i64T], rs := [i64T], pre := fun _ => True, F := fun x => addS x.1 x.2.1 x.2.2 }
def fS_SubC : PC := { ts := [i64T, i64T, i64T], rs := [i64T], pre := fun _ => True, F := fun x => subS x.1 x.2.1 x.2.2 }
def fS_MulC : PC := { ts := [i64T, i64T, i64T], rs := [i64T], pre := fun _ => True, F := fun x => mulS x.1 x.2.1 x.2.2 }
def fS_PowerC : PC := { ts := [i64T, i64T, i64T], rs := [i64T], pre := fun _ => True, F := fun x => powS x.1 x.2.1 x.2.2 }
def fS_InverseC : PC := { ts := [i64T, i64T], rs := [i64T], pre := fun _ => True, F := fun x => powS x.1 x.2 (-1) }
def fI_reduceC : PC := { ts := [fldT, i64T], rs := [i64T], pre := fun x => IsMod x.1.1, F := fun x => redM x.1.1 x.2 }
def fI_addC : PC := { ts := [fldT, i64T, i64T], rs := [i64T], pre := fun x => IsMod x.1.1 ∧ El x.1.1 x.2.1 ∧ El x.1.1 x.2.2, F := fun x => addM x.1.1 x.2.1 x.2.2 }
def fI_subC : PC := { ts := [fldT, i64T, i64T], rs := [i64T], pre := fun x => IsMod x.1.1 ∧ El x.1.1 x.2.1 ∧ El x.1.1 x.2.2, F := fun x => subM x.1.1 x.2.1 x.2.2 }
def fI_mulC : PC := { ts := [fldT, i64T, i64T], rs := [i64T], pre := fun x => IsMod x.1.1 ∧ El x.1.1 x.2.1 ∧ El x.1.1 x.2.2, F := fun x => mulM x.1.1 x.2.1 x.2.2 }
def fI_powerC : PC := { ts := [fldT, i64T, i64T], rs := [i64T], pre := fun x => IsMod x.1.1 ∧ El x.1.1 x.2.1 ∧ 0 ≤ x.2.2, F := fun x => powM x.1.1 x.2.1 x.2.2.toNat }
def fI_inverseC : PC := { ts := [fldT, i64T], rs := [i64T], pre := fun x => IsMod x.1.1 ∧ El x.1.1 x.2, F := fun x => invM x.1.1 x.2 }
def PowJ (p r : Int) (x : Int × Int × Nat) : Prop := El p x.1 ∧ El p x.2.1 ∧ x.2.1 * x.1 ^ x.2.2 % p = r ∧ (x.2.2 : Int) ≤ 9223372036854775807
def aS_Power (x : Int × Int × Int) : Nat → Option Ann := fun
  | 100014 => some (.mk Unit (fun _ => True) (fun st _ => (st.keep 9 []).sets [(9, si (x.2.2 % (modF x.1 - 1)).toNat)]) (fun _ => 0) () (fun _ => fun
    | 15 => some (.mk (Int × Int × Nat) (fun t => PowJ (modF x.1) (powM (modF x.1) x.2.1 (x.2.2 % (modF x.1 - 1)).toNat) t) (fun st t => (st.keep 8 []).sets [(8, si t.1), (9, si t.2.2), (10, si t.2.1)]) (fun t => t.2.2) (x.2.1 % modF x.1, 1, (x.2.2 % (modF x.1 - 1)).toNat) (fun _ _ => none))
    | _ => none))
  | _ => none
def aI_power (x : Fd × Int × Int) : Nat → Option Ann := fun
  | 2 => some (.mk (Int × Int × Nat) (fun t => PowJ x.1.1 (powM x.1.1 x.2.1 x.2.2.toNat) t) (fun st t => (st.keep 8 []).sets [(1, si t.1), (2, si t.2.2), (7, si t.2.1)]) (fun t => t.2.2) (x.2.1, 1, x.2.2.toNat) (fun _ _ => none))
  | _ => none
end Go.SF
