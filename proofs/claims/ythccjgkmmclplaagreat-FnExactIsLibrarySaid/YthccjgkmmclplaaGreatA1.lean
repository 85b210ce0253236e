/- What functions of the program compute, in plain words: batch 1. -/
import Derived.Test.YthccjgkmmclplaaGreatGD
import Derived.Test.YthccjgkmmclplaaGreatH36
namespace Go.Proofs.YthccjgkmmclplaaGreat
open Go.H
set_option linter.unusedVariables false
set_option linter.unusedSimpArgs false
set_option maxRecDepth 10000
def M_spec_l1In (p0 : Int) (p1 : Int) (p2 : Int) : Option (Bool) := some (bif (decide (p0 ≥ p1)) then (decide (p0 ≤ p2)) else false)

def L_spec_IsWord_0 (p1 : LIntS) (p0 : Int) : Nat → Int → Option ((Bool) ⊕ (Unit))
  | 0, _ => none
  | fuel + 1, u2 => (if (decide (u2 < ((p1.length : Nat) : Int))) = true then (gi p1 u2).bind fun x6 => (chk (!(decide (x6 = 0))) (gi p1 u2) 0).bind fun x7 => (chk (!(decide (x6 = 0))) (M_spec_l1In x7 (IntKind.i64.wrap (0 - p0)) p0) false).bind fun x8 => (chk ((decide (u2 > 0)) && (!(bif (decide (x6 = 0)) then true else (!x8)))) (gi p1 u2) 0).bind fun x9 => (chk ((decide (u2 > 0)) && (!(bif (decide (x6 = 0)) then true else (!x8)))) (gi p1 (IntKind.i64.wrap (u2 - 1))) 0).bind fun x10 => (if (bif (bif (decide (x6 = 0)) then true else (!x8)) then true else (bif (decide (u2 > 0)) then (decide (x9 = (IntKind.i64.wrap (0 - x10)))) else false)) = true then some (.inl false) else (L_spec_IsWord_0 p1 p0 fuel (IntKind.i64.wrap (u2 + 1)))) else some (.inr ()))
theorem L_spec_IsWord_0_succ (p1 : LIntS) (p0 : Int) (fuel : Nat) (u2 : Int) : L_spec_IsWord_0 p1 p0 (fuel + 1) u2 = (if (decide (u2 < ((p1.length : Nat) : Int))) = true then (gi p1 u2).bind fun x6 => (chk (!(decide (x6 = 0))) (gi p1 u2) 0).bind fun x7 => (chk (!(decide (x6 = 0))) (M_spec_l1In x7 (IntKind.i64.wrap (0 - p0)) p0) false).bind fun x8 => (chk ((decide (u2 > 0)) && (!(bif (decide (x6 = 0)) then true else (!x8)))) (gi p1 u2) 0).bind fun x9 => (chk ((decide (u2 > 0)) && (!(bif (decide (x6 = 0)) then true else (!x8)))) (gi p1 (IntKind.i64.wrap (u2 - 1))) 0).bind fun x10 => (if (bif (bif (decide (x6 = 0)) then true else (!x8)) then true else (bif (decide (u2 > 0)) then (decide (x9 = (IntKind.i64.wrap (0 - x10)))) else false)) = true then some (.inl false) else (L_spec_IsWord_0 p1 p0 fuel (IntKind.i64.wrap (u2 + 1)))) else some (.inr ())) := rfl
def M_spec_IsWord (p0 : Int) (p1 : LIntS) : Option (Bool) := (L_spec_IsWord_0 p1 p0 FUEL 0).bind fun X16 => outK X16 (fun _ => (M_spec_l1In p0 1 3).bind fun x14 => some (bif x14 then (decide (((p1.length : Nat) : Int) ≤ 24)) else false))

def L_spec_TotalLength_0 (p0 : LIntSS) : Nat → Int → Int → Option (Int)
  | 0, _, _ => none
  | fuel + 1, u2, u3 => (if (decide (u3 < ((p0.length : Nat) : Int))) = true then (gi p0 u3).bind fun x7 => (L_spec_TotalLength_0 p0 fuel (IntKind.i64.wrap (u2 + ((x7.length : Nat) : Int))) (IntKind.i64.wrap (u3 + 1))) else some (u2))
theorem L_spec_TotalLength_0_succ (p0 : LIntSS) (fuel : Nat) (u2 : Int) (u3 : Int) : L_spec_TotalLength_0 p0 (fuel + 1) u2 u3 = (if (decide (u3 < ((p0.length : Nat) : Int))) = true then (gi p0 u3).bind fun x7 => (L_spec_TotalLength_0 p0 fuel (IntKind.i64.wrap (u2 + ((x7.length : Nat) : Int))) (IntKind.i64.wrap (u3 + 1))) else some (u2)) := rfl
def M_spec_TotalLength (p0 : LIntSS) : Option (Int) := (L_spec_TotalLength_0 p0 FUEL 0 0).bind (fun y9 => some y9)

def L_spec_AreWords_0 (p1 : LIntSS) (p0 : Int) : Nat → Int → Option ((Bool) ⊕ (Unit))
  | 0, _ => none
  | fuel + 1, u2 => (if (decide (u2 < ((p1.length : Nat) : Int))) = true then (gi p1 u2).bind fun x6 => (M_spec_IsWord p0 x6).bind fun x7 => (if (!x7) = true then some (.inl false) else (L_spec_AreWords_0 p1 p0 fuel (IntKind.i64.wrap (u2 + 1)))) else some (.inr ()))
theorem L_spec_AreWords_0_succ (p1 : LIntSS) (p0 : Int) (fuel : Nat) (u2 : Int) : L_spec_AreWords_0 p1 p0 (fuel + 1) u2 = (if (decide (u2 < ((p1.length : Nat) : Int))) = true then (gi p1 u2).bind fun x6 => (M_spec_IsWord p0 x6).bind fun x7 => (if (!x7) = true then some (.inl false) else (L_spec_AreWords_0 p1 p0 fuel (IntKind.i64.wrap (u2 + 1)))) else some (.inr ())) := rfl
def M_spec_AreWords (p0 : Int) (p1 : LIntSS) : Option (Bool) := (L_spec_AreWords_0 p1 p0 FUEL 0).bind fun X17 => outK X17 (fun _ => (M_spec_l1In p0 1 3).bind fun x13 => (chk (bif x13 then (decide (((p1.length : Nat) : Int) ≤ 6)) else false) (M_spec_TotalLength p1) 0).bind fun x14 => (grd (In64 x14)).bind fun _ => some (bif (bif x13 then (decide (((p1.length : Nat) : Int) ≤ 6)) else false) then (decide (x14 < 40)) else false))

def L_spec_IsPresentation_0 (p0_1 : LIntSS) : Nat → Int → Option ((Bool) ⊕ (Unit))
  | 0, _ => none
  | fuel + 1, u2 => (if (decide (u2 < ((p0_1.length : Nat) : Int))) = true then (gi p0_1 u2).bind fun x6 => (chk (!(decide (((x6.length : Nat) : Int) = 0))) (gi x6 0) 0).bind fun x7 => (chk (!(decide (((x6.length : Nat) : Int) = 0))) (gi x6 (IntKind.i64.wrap (((x6.length : Nat) : Int) - 1))) 0).bind fun x8 => (if (bif (decide (((x6.length : Nat) : Int) = 0)) then true else (decide (x7 = (IntKind.i64.wrap (0 - x8))))) = true then some (.inl false) else (L_spec_IsPresentation_0 p0_1 fuel (IntKind.i64.wrap (u2 + 1)))) else some (.inr ()))
theorem L_spec_IsPresentation_0_succ (p0_1 : LIntSS) (fuel : Nat) (u2 : Int) : L_spec_IsPresentation_0 p0_1 (fuel + 1) u2 = (if (decide (u2 < ((p0_1.length : Nat) : Int))) = true then (gi p0_1 u2).bind fun x6 => (chk (!(decide (((x6.length : Nat) : Int) = 0))) (gi x6 0) 0).bind fun x7 => (chk (!(decide (((x6.length : Nat) : Int) = 0))) (gi x6 (IntKind.i64.wrap (((x6.length : Nat) : Int) - 1))) 0).bind fun x8 => (if (bif (decide (((x6.length : Nat) : Int) = 0)) then true else (decide (x7 = (IntKind.i64.wrap (0 - x8))))) = true then some (.inl false) else (L_spec_IsPresentation_0 p0_1 fuel (IntKind.i64.wrap (u2 + 1)))) else some (.inr ())) := rfl
def M_spec_IsPresentation (p0 : LPresentation) : Option (Bool) := match p0 with | (p0_0, p0_1) => (L_spec_IsPresentation_0 p0_1 FUEL 0).bind fun X14 => outK X14 (fun _ => (M_spec_AreWords p0_0 p0_1).bind fun x12 => some x12)

def M_impl_within (p0 : Int) (p1 : Int) (p2 : Int) : Option (Bool) := some (bif (decide (p0 ≥ p1)) then (decide (p0 ≤ p2)) else false)

def M_impl_isLetter (p0 : Int) (p1 : Int) : Option (Bool) := (chk (!decide (p1 = 0)) (M_impl_within p1 (IntKind.i64.wrap (0 - p0)) p0) false).bind fun x1 => some (bif (!decide (p1 = 0)) then x1 else false)

def M_impl_areInverse (p0 : Int) (p1 : Int) : Option (Bool) := some (bif (bif (!decide (p0 = 0)) then (!decide (p0 = (-9223372036854775808))) else false) then (decide (p1 = (IntKind.i64.wrap (0 - p0)))) else false)

def L_impl_IsWord_0 (p1 : LIntS) (p0 : Int) : Nat → Int → Option ((Bool) ⊕ (Unit))
  | 0, _ => none
  | fuel + 1, u4 => (if (decide (u4 < ((p1.length : Nat) : Int))) = true then (gi p1 u4).bind fun x8 => (M_impl_isLetter p0 x8).bind fun x9 => (chk ((decide (u4 > 0)) && (!(!x9))) (gi p1 (IntKind.i64.wrap (u4 - 1))) 0).bind fun x10 => (chk ((decide (u4 > 0)) && (!(!x9))) (M_impl_areInverse x10 x8) false).bind fun x11 => (if (bif (!x9) then true else (bif (decide (u4 > 0)) then x11 else false)) = true then some (.inl false) else (L_impl_IsWord_0 p1 p0 fuel (IntKind.i64.wrap (u4 + 1)))) else some (.inr ()))
theorem L_impl_IsWord_0_succ (p1 : LIntS) (p0 : Int) (fuel : Nat) (u4 : Int) : L_impl_IsWord_0 p1 p0 (fuel + 1) u4 = (if (decide (u4 < ((p1.length : Nat) : Int))) = true then (gi p1 u4).bind fun x8 => (M_impl_isLetter p0 x8).bind fun x9 => (chk ((decide (u4 > 0)) && (!(!x9))) (gi p1 (IntKind.i64.wrap (u4 - 1))) 0).bind fun x10 => (chk ((decide (u4 > 0)) && (!(!x9))) (M_impl_areInverse x10 x8) false).bind fun x11 => (if (bif (!x9) then true else (bif (decide (u4 > 0)) then x11 else false)) = true then some (.inl false) else (L_impl_IsWord_0 p1 p0 fuel (IntKind.i64.wrap (u4 + 1)))) else some (.inr ())) := rfl
def M_impl_IsWord (p0 : Int) (p1 : LIntS) : Option (Bool) := (M_impl_within p0 1 3).bind fun x1 => (if (bif (!x1) then true else (decide (((p1.length : Nat) : Int) > 24))) = true then some false else (L_impl_IsWord_0 p1 p0 FUEL 0).bind fun X15 => outK X15 (fun _ => some true))

def L_impl_TotalLength_0 (p0 : LIntSS) : Nat → Int → Int → Option (Int)
  | 0, _, _ => none
  | fuel + 1, u2, u3 => (if (decide (u3 < ((p0.length : Nat) : Int))) = true then (gi p0 u3).bind fun x7 => (L_impl_TotalLength_0 p0 fuel (IntKind.i64.wrap (u2 + ((x7.length : Nat) : Int))) (IntKind.i64.wrap (u3 + 1))) else some (u2))
theorem L_impl_TotalLength_0_succ (p0 : LIntSS) (fuel : Nat) (u2 : Int) (u3 : Int) : L_impl_TotalLength_0 p0 (fuel + 1) u2 u3 = (if (decide (u3 < ((p0.length : Nat) : Int))) = true then (gi p0 u3).bind fun x7 => (L_impl_TotalLength_0 p0 fuel (IntKind.i64.wrap (u2 + ((x7.length : Nat) : Int))) (IntKind.i64.wrap (u3 + 1))) else some (u2)) := rfl
def M_impl_TotalLength (p0 : LIntSS) : Option (Int) := (L_impl_TotalLength_0 p0 FUEL 0 0).bind (fun y9 => some y9)

def L_impl_AreWords_0 (p1 : LIntSS) (p0 : Int) : Nat → Int → Option ((Bool) ⊕ (Unit))
  | 0, _ => none
  | fuel + 1, u4 => (if (decide (u4 < ((p1.length : Nat) : Int))) = true then (gi p1 u4).bind fun x8 => (M_impl_IsWord p0 x8).bind fun x9 => (if (!x9) = true then some (.inl false) else (L_impl_AreWords_0 p1 p0 fuel (IntKind.i64.wrap (u4 + 1)))) else some (.inr ()))
theorem L_impl_AreWords_0_succ (p1 : LIntSS) (p0 : Int) (fuel : Nat) (u4 : Int) : L_impl_AreWords_0 p1 p0 (fuel + 1) u4 = (if (decide (u4 < ((p1.length : Nat) : Int))) = true then (gi p1 u4).bind fun x8 => (M_impl_IsWord p0 x8).bind fun x9 => (if (!x9) = true then some (.inl false) else (L_impl_AreWords_0 p1 p0 fuel (IntKind.i64.wrap (u4 + 1)))) else some (.inr ())) := rfl
def M_impl_AreWords (p0 : Int) (p1 : LIntSS) : Option (Bool) := (M_impl_within p0 1 3).bind fun x1 => (if (bif (!x1) then true else (decide (((p1.length : Nat) : Int) > 6))) = true then some false else (L_impl_AreWords_0 p1 p0 FUEL 0).bind fun X17 => outK X17 (fun _ => (M_impl_TotalLength p1).bind fun x14 => (grd (In64 x14)).bind fun _ => some (decide (x14 < 40))))

def L_impl_IsPresentation_0 (p0_1 : LIntSS) : Nat → Int → Option ((Bool) ⊕ (Unit))
  | 0, _ => none
  | fuel + 1, u4 => (if (decide (u4 < ((p0_1.length : Nat) : Int))) = true then (gi p0_1 u4).bind fun x8 => (chk (!(decide (((x8.length : Nat) : Int) = 0))) (gi x8 0) 0).bind fun x9 => (chk (!(decide (((x8.length : Nat) : Int) = 0))) (gi x8 (IntKind.i64.wrap (((x8.length : Nat) : Int) - 1))) 0).bind fun x10 => (chk (!(decide (((x8.length : Nat) : Int) = 0))) (M_impl_areInverse x9 x10) false).bind fun x11 => (if (bif (decide (((x8.length : Nat) : Int) = 0)) then true else x11) = true then some (.inl false) else (L_impl_IsPresentation_0 p0_1 fuel (IntKind.i64.wrap (u4 + 1)))) else some (.inr ()))
theorem L_impl_IsPresentation_0_succ (p0_1 : LIntSS) (fuel : Nat) (u4 : Int) : L_impl_IsPresentation_0 p0_1 (fuel + 1) u4 = (if (decide (u4 < ((p0_1.length : Nat) : Int))) = true then (gi p0_1 u4).bind fun x8 => (chk (!(decide (((x8.length : Nat) : Int) = 0))) (gi x8 0) 0).bind fun x9 => (chk (!(decide (((x8.length : Nat) : Int) = 0))) (gi x8 (IntKind.i64.wrap (((x8.length : Nat) : Int) - 1))) 0).bind fun x10 => (chk (!(decide (((x8.length : Nat) : Int) = 0))) (M_impl_areInverse x9 x10) false).bind fun x11 => (if (bif (decide (((x8.length : Nat) : Int) = 0)) then true else x11) = true then some (.inl false) else (L_impl_IsPresentation_0 p0_1 fuel (IntKind.i64.wrap (u4 + 1)))) else some (.inr ())) := rfl
def M_impl_IsPresentation (p0 : LPresentation) : Option (Bool) := match p0 with | (p0_0, p0_1) => (M_impl_AreWords p0_0 p0_1).bind fun x1 => (if (!x1) = true then some false else (L_impl_IsPresentation_0 p0_1 FUEL 0).bind fun X15 => outK X15 (fun _ => some true))

def M_impl_compareInts (p0 : Int) (p1 : Int) : Option (Int) := (if (decide (p0 < p1)) = true then some (-1) else (if (decide (p0 > p1)) = true then some 1 else some 0))

end Go.Proofs.YthccjgkmmclplaaGreat
