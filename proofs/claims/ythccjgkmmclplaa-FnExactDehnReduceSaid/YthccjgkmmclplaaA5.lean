/- What functions of the program compute, in plain words: batch 5. -/
import Derived.Test.YthccjgkmmclplaaGD
import Derived.Test.YthccjgkmmclplaaH36
import Derived.Test.YthccjgkmmclplaaA1
namespace Go.Proofs.Ythccjgkmmclplaa
open Go.H
set_option linter.unusedVariables false
set_option linter.unusedSimpArgs false
set_option maxRecDepth 10000
def M_spec_l2Order (p0 : Int) (p1 : Int) : Option (Int) := (if (decide (p0 = p1)) = true then some 0 else (if (bif (bif (decide ((if (IntKind.i64.wrap (0 - p0)) > p0 then (IntKind.i64.wrap (0 - p0)) else p0) < 0)) then true else (bif (decide ((if (IntKind.i64.wrap (0 - p1)) > p1 then (IntKind.i64.wrap (0 - p1)) else p1) ≥ 0)) then (decide ((if (IntKind.i64.wrap (0 - p0)) > p0 then (IntKind.i64.wrap (0 - p0)) else p0) > (if (IntKind.i64.wrap (0 - p1)) > p1 then (IntKind.i64.wrap (0 - p1)) else p1))) else false)) then true else (bif (decide ((if (IntKind.i64.wrap (0 - p0)) > p0 then (IntKind.i64.wrap (0 - p0)) else p0) = (if (IntKind.i64.wrap (0 - p1)) > p1 then (IntKind.i64.wrap (0 - p1)) else p1))) then (decide (p0 < p1)) else false)) = true then some 1 else some (-1)))

def L_spec_CompareWords_0 (p0 : LIntS) (p1 : LIntS) : Nat → Int → Option ((Int) ⊕ (Unit))
  | 0, _ => none
  | fuel + 1, u4 => (if (decide (u4 < ((p0.length : Nat) : Int))) = true then (gi p0 u4).bind fun x8 => (gi p1 u4).bind fun x9 => (M_spec_l2Order x8 x9).bind fun x10 => (grd (In64 x10)).bind fun _ => (if (!decide (x10 = 0)) = true then some (.inl x10) else (L_spec_CompareWords_0 p0 p1 fuel (IntKind.i64.wrap (u4 + 1)))) else some (.inr ()))
theorem L_spec_CompareWords_0_succ (p0 : LIntS) (p1 : LIntS) (fuel : Nat) (u4 : Int) : L_spec_CompareWords_0 p0 p1 (fuel + 1) u4 = (if (decide (u4 < ((p0.length : Nat) : Int))) = true then (gi p0 u4).bind fun x8 => (gi p1 u4).bind fun x9 => (M_spec_l2Order x8 x9).bind fun x10 => (grd (In64 x10)).bind fun _ => (if (!decide (x10 = 0)) = true then some (.inl x10) else (L_spec_CompareWords_0 p0 p1 fuel (IntKind.i64.wrap (u4 + 1)))) else some (.inr ())) := rfl
def M_spec_CompareWords (p0 : LIntS) (p1 : LIntS) : Option (Int) := (if (!decide (((p0.length : Nat) : Int) = ((p1.length : Nat) : Int))) = true then (if (decide (((p0.length : Nat) : Int) < ((p1.length : Nat) : Int))) = true then some (-1) else some 1) else (L_spec_CompareWords_0 p0 p1 FUEL 0).bind fun X15 => outK X15 (fun _ => some 0))

def L_spec_EqualWords_0 (p0 : LIntS) (p1 : LIntS) : Nat → Int → Option ((Bool) ⊕ (Unit))
  | 0, _ => none
  | fuel + 1, u3 => (if (decide (u3 < ((p0.length : Nat) : Int))) = true then (gi p0 u3).bind fun x7 => (gi p1 u3).bind fun x8 => (if (!decide (x7 = x8)) = true then some (.inl false) else (L_spec_EqualWords_0 p0 p1 fuel (IntKind.i64.wrap (u3 + 1)))) else some (.inr ()))
theorem L_spec_EqualWords_0_succ (p0 : LIntS) (p1 : LIntS) (fuel : Nat) (u3 : Int) : L_spec_EqualWords_0 p0 p1 (fuel + 1) u3 = (if (decide (u3 < ((p0.length : Nat) : Int))) = true then (gi p0 u3).bind fun x7 => (gi p1 u3).bind fun x8 => (if (!decide (x7 = x8)) = true then some (.inl false) else (L_spec_EqualWords_0 p0 p1 fuel (IntKind.i64.wrap (u3 + 1)))) else some (.inr ())) := rfl
def M_spec_EqualWords (p0 : LIntS) (p1 : LIntS) : Option (Bool) := (if (!decide (((p0.length : Nat) : Int) = ((p1.length : Nat) : Int))) = true then some false else (L_spec_EqualWords_0 p0 p1 FUEL 0).bind fun X12 => outK X12 (fun _ => some true))

def M_impl_copyInts (p0 : LIntS) : Option (LIntS) := (grd ((([] : LIntS).length + p0.length) * 8 ≤ 140737488355328)).bind fun _ => some (([] : LIntS) ++ p0)

def M_impl_compareInts (p0 : Int) (p1 : Int) : Option (Int) := (if (decide (p0 < p1)) = true then some (-1) else (if (decide (p0 > p1)) = true then some 1 else some 0))

def M_impl_compareLetters (p0 : Int) (p1 : Int) : Option (Int) := (if (decide (p0 = p1)) = true then some 0 else (if (decide (p0 = (-9223372036854775808))) = true then some 1 else (if (decide (p1 = (-9223372036854775808))) = true then some (-1) else (M_impl_compareInts (if (IntKind.i64.wrap (0 - p0)) > p0 then (IntKind.i64.wrap (0 - p0)) else p0) (if (IntKind.i64.wrap (0 - p1)) > p1 then (IntKind.i64.wrap (0 - p1)) else p1)).bind fun x4 => (grd (In64 x4)).bind fun _ => (if (!decide (x4 = 0)) = true then some x4 else (M_impl_compareInts p1 p0).bind fun x7 => (grd (In64 x7)).bind fun _ => some x7))))

def L_impl_CompareWords_0 (p0 : LIntS) (p1 : LIntS) : Nat → Int → Option ((Int) ⊕ (Unit))
  | 0, _ => none
  | fuel + 1, u5 => (if (decide (u5 < ((p0.length : Nat) : Int))) = true then (gi p0 u5).bind fun x9 => (gi p1 u5).bind fun x10 => (M_impl_compareLetters x9 x10).bind fun x11 => (grd (In64 x11)).bind fun _ => (if (!decide (x11 = 0)) = true then some (.inl x11) else (L_impl_CompareWords_0 p0 p1 fuel (IntKind.i64.wrap (u5 + 1)))) else some (.inr ()))
theorem L_impl_CompareWords_0_succ (p0 : LIntS) (p1 : LIntS) (fuel : Nat) (u5 : Int) : L_impl_CompareWords_0 p0 p1 (fuel + 1) u5 = (if (decide (u5 < ((p0.length : Nat) : Int))) = true then (gi p0 u5).bind fun x9 => (gi p1 u5).bind fun x10 => (M_impl_compareLetters x9 x10).bind fun x11 => (grd (In64 x11)).bind fun _ => (if (!decide (x11 = 0)) = true then some (.inl x11) else (L_impl_CompareWords_0 p0 p1 fuel (IntKind.i64.wrap (u5 + 1)))) else some (.inr ())) := rfl
def M_impl_CompareWords (p0 : LIntS) (p1 : LIntS) : Option (Int) := (M_impl_compareInts ((p0.length : Nat) : Int) ((p1.length : Nat) : Int)).bind fun x1 => (grd (In64 x1)).bind fun _ => (if (!decide (x1 = 0)) = true then some x1 else (L_impl_CompareWords_0 p0 p1 FUEL 0).bind fun X16 => outK X16 (fun _ => some 0))

def L_impl_EqualWords_0 (p0 : LIntS) (p1 : LIntS) : Nat → Int → Option ((Bool) ⊕ (Unit))
  | 0, _ => none
  | fuel + 1, u3 => (if (decide (u3 < ((p0.length : Nat) : Int))) = true then (gi p0 u3).bind fun x7 => (gi p1 u3).bind fun x8 => (if (!decide (x7 = x8)) = true then some (.inl false) else (L_impl_EqualWords_0 p0 p1 fuel (IntKind.i64.wrap (u3 + 1)))) else some (.inr ()))
theorem L_impl_EqualWords_0_succ (p0 : LIntS) (p1 : LIntS) (fuel : Nat) (u3 : Int) : L_impl_EqualWords_0 p0 p1 (fuel + 1) u3 = (if (decide (u3 < ((p0.length : Nat) : Int))) = true then (gi p0 u3).bind fun x7 => (gi p1 u3).bind fun x8 => (if (!decide (x7 = x8)) = true then some (.inl false) else (L_impl_EqualWords_0 p0 p1 fuel (IntKind.i64.wrap (u3 + 1)))) else some (.inr ())) := rfl
def M_impl_EqualWords (p0 : LIntS) (p1 : LIntS) : Option (Bool) := (if (!decide (((p0.length : Nat) : Int) = ((p1.length : Nat) : Int))) = true then some false else (L_impl_EqualWords_0 p0 p1 FUEL 0).bind fun X12 => outK X12 (fun _ => some true))

end Go.Proofs.Ythccjgkmmclplaa
