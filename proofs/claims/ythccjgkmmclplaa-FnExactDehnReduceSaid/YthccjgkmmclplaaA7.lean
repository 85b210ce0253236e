/- What functions of the program compute, in plain words: batch 7. -/
import Derived.Test.YthccjgkmmclplaaGD
import Derived.Test.YthccjgkmmclplaaH36
import Derived.Test.YthccjgkmmclplaaA1
import Derived.Test.YthccjgkmmclplaaA3
import Derived.Test.YthccjgkmmclplaaA5
import Derived.Test.YthccjgkmmclplaaA6
namespace Go.Proofs.Ythccjgkmmclplaa
open Go.H
set_option linter.unusedVariables false
set_option linter.unusedSimpArgs false
set_option maxRecDepth 10000
def L_impl_SymmetrizedSet_0 (x23 : LIntS) : Nat → Int → (List LIntS) → Option ((List LIntS))
  | 0, _, _ => none
  | fuel + 1, u25, u26 => (if (decide (u25 < ((x23.length : Nat) : Int))) = true then (M_impl_RotateWord x23 u25).bind fun x30 => (grd ((u26.length + [x30].length) * 24 ≤ 140737488355328)).bind fun _ => (L_impl_SymmetrizedSet_0 x23 fuel (IntKind.i64.wrap (u25 + 1)) (u26 ++ [x30])) else some (u26))
theorem L_impl_SymmetrizedSet_0_succ (x23 : LIntS) (fuel : Nat) (u25 : Int) (u26 : (List LIntS)) : L_impl_SymmetrizedSet_0 x23 (fuel + 1) u25 u26 = (if (decide (u25 < ((x23.length : Nat) : Int))) = true then (M_impl_RotateWord x23 u25).bind fun x30 => (grd ((u26.length + [x30].length) * 24 ≤ 140737488355328)).bind fun _ => (L_impl_SymmetrizedSet_0 x23 fuel (IntKind.i64.wrap (u25 + 1)) (u26 ++ [x30])) else some (u26)) := rfl
def L_impl_SymmetrizedSet_1 (x13 : LIntS) (x14 : LIntS) : Nat → Int → (List LIntS) → Option ((List LIntS))
  | 0, _, _ => none
  | fuel + 1, u18, u19 => (if (decide (u18 < ((2 : Nat) : Int))) = true then (gi [x13, x14] u18).bind fun x23 => (L_impl_SymmetrizedSet_0 x23 FUEL 0 u19).bind (fun y36 => (L_impl_SymmetrizedSet_1 x13 x14 fuel (IntKind.i64.wrap (u18 + 1)) y36)) else some (u19))
theorem L_impl_SymmetrizedSet_1_succ (x13 : LIntS) (x14 : LIntS) (fuel : Nat) (u18 : Int) (u19 : (List LIntS)) : L_impl_SymmetrizedSet_1 x13 x14 (fuel + 1) u18 u19 = (if (decide (u18 < ((2 : Nat) : Int))) = true then (gi [x13, x14] u18).bind fun x23 => (L_impl_SymmetrizedSet_0 x23 FUEL 0 u19).bind (fun y36 => (L_impl_SymmetrizedSet_1 x13 x14 fuel (IntKind.i64.wrap (u18 + 1)) y36)) else some (u19)) := rfl
def L_impl_SymmetrizedSet_2 (p0_1 : LIntSS) : Nat → Int → (List LIntS) → Option ((List LIntS))
  | 0, _, _ => none
  | fuel + 1, u8, u9 => (if (decide (u8 < ((p0_1.length : Nat) : Int))) = true then (gi p0_1 u8).bind fun x13 => (M_impl_InvertWord x13).bind fun x14 => (L_impl_SymmetrizedSet_1 x13 x14 FUEL 0 u9).bind (fun y40 => (L_impl_SymmetrizedSet_2 p0_1 fuel (IntKind.i64.wrap (u8 + 1)) y40)) else some (u9))
theorem L_impl_SymmetrizedSet_2_succ (p0_1 : LIntSS) (fuel : Nat) (u8 : Int) (u9 : (List LIntS)) : L_impl_SymmetrizedSet_2 p0_1 (fuel + 1) u8 u9 = (if (decide (u8 < ((p0_1.length : Nat) : Int))) = true then (gi p0_1 u8).bind fun x13 => (M_impl_InvertWord x13).bind fun x14 => (L_impl_SymmetrizedSet_1 x13 x14 FUEL 0 u9).bind (fun y40 => (L_impl_SymmetrizedSet_2 p0_1 fuel (IntKind.i64.wrap (u8 + 1)) y40)) else some (u9)) := rfl
def M_impl_SymmetrizedSet (p0 : LPresentation) : Option (LIntSS) := match p0 with | (p0_0, p0_1) => (M_impl_IsPresentation (p0_0, p0_1)).bind fun x1 => (if (!x1) = true then some ([] : LIntSS) else (L_impl_SymmetrizedSet_2 p0_1 FUEL 0 ([] : LIntSS)).bind (fun y50 => (grd (y50.length < 4611686018427387904)).bind fun _ => some (compL eqW (srtL F_CompareWords y50))))

def L_impl_LongestPiece_0 (x11 : LIntSS) (x10 : LIntS) : Nat → Int → Int → Option (Int)
  | 0, _, _ => none
  | fuel + 1, u13, u14 => (if (decide (u14 < ((x11.length : Nat) : Int))) = true then (gi x11 u14).bind fun x18 => (M_impl_common x10 x18).bind fun x19 => (grd (In64 x19)).bind fun _ => (L_impl_LongestPiece_0 x11 x10 fuel (if x19 > u13 then x19 else u13) (IntKind.i64.wrap (u14 + 1))) else some (u13))
theorem L_impl_LongestPiece_0_succ (x11 : LIntSS) (x10 : LIntS) (fuel : Nat) (u13 : Int) (u14 : Int) : L_impl_LongestPiece_0 x11 x10 (fuel + 1) u13 u14 = (if (decide (u14 < ((x11.length : Nat) : Int))) = true then (gi x11 u14).bind fun x18 => (M_impl_common x10 x18).bind fun x19 => (grd (In64 x19)).bind fun _ => (L_impl_LongestPiece_0 x11 x10 fuel (if x19 > u13 then x19 else u13) (IntKind.i64.wrap (u14 + 1))) else some (u13)) := rfl
def L_impl_LongestPiece_1 (x1 : LIntSS) : Nat → Int → Int → Option (Int)
  | 0, _, _ => none
  | fuel + 1, u5, u6 => (if (decide (u6 < ((x1.length : Nat) : Int))) = true then (gi x1 u6).bind fun x10 => (cutL x1 (IntKind.i64.wrap (u6 + 1)) (x1.length : Int)).bind fun x11 => (L_impl_LongestPiece_0 x11 x10 FUEL u5 0).bind (fun y22 => (L_impl_LongestPiece_1 x1 fuel y22 (IntKind.i64.wrap (u6 + 1)))) else some (u5))
theorem L_impl_LongestPiece_1_succ (x1 : LIntSS) (fuel : Nat) (u5 : Int) (u6 : Int) : L_impl_LongestPiece_1 x1 (fuel + 1) u5 u6 = (if (decide (u6 < ((x1.length : Nat) : Int))) = true then (gi x1 u6).bind fun x10 => (cutL x1 (IntKind.i64.wrap (u6 + 1)) (x1.length : Int)).bind fun x11 => (L_impl_LongestPiece_0 x11 x10 FUEL u5 0).bind (fun y22 => (L_impl_LongestPiece_1 x1 fuel y22 (IntKind.i64.wrap (u6 + 1)))) else some (u5)) := rfl
def M_impl_LongestPiece (p0 : LPresentation) : Option (Int) := match p0 with | (p0_0, p0_1) => (M_impl_SymmetrizedSet (p0_0, p0_1)).bind fun x1 => (L_impl_LongestPiece_1 x1 FUEL 0 0).bind (fun y26 => some y26)

def L_impl_IsSixth_0 (x12 : LIntSS) (x11 : LIntS) : Nat → Int → Option ((Bool) ⊕ (Unit))
  | 0, _ => none
  | fuel + 1, u14 => (if (decide (u14 < ((x12.length : Nat) : Int))) = true then (gi x12 u14).bind fun x18 => (M_impl_common x11 x18).bind fun x19 => (grd (In64 x19)).bind fun _ => (if (decide ((IntKind.i64.wrap (6 * x19)) ≥ (if ((x18.length : Nat) : Int) < ((x11.length : Nat) : Int) then ((x18.length : Nat) : Int) else ((x11.length : Nat) : Int)))) = true then some (.inl false) else (L_impl_IsSixth_0 x12 x11 fuel (IntKind.i64.wrap (u14 + 1)))) else some (.inr ()))
theorem L_impl_IsSixth_0_succ (x12 : LIntSS) (x11 : LIntS) (fuel : Nat) (u14 : Int) : L_impl_IsSixth_0 x12 x11 (fuel + 1) u14 = (if (decide (u14 < ((x12.length : Nat) : Int))) = true then (gi x12 u14).bind fun x18 => (M_impl_common x11 x18).bind fun x19 => (grd (In64 x19)).bind fun _ => (if (decide ((IntKind.i64.wrap (6 * x19)) ≥ (if ((x18.length : Nat) : Int) < ((x11.length : Nat) : Int) then ((x18.length : Nat) : Int) else ((x11.length : Nat) : Int)))) = true then some (.inl false) else (L_impl_IsSixth_0 x12 x11 fuel (IntKind.i64.wrap (u14 + 1)))) else some (.inr ())) := rfl
def L_impl_IsSixth_1 (x3 : LIntSS) : Nat → Int → Option ((Bool) ⊕ (Unit))
  | 0, _ => none
  | fuel + 1, u7 => (if (decide (u7 < ((x3.length : Nat) : Int))) = true then (gi x3 u7).bind fun x11 => (cutL x3 (IntKind.i64.wrap (u7 + 1)) (x3.length : Int)).bind fun x12 => (L_impl_IsSixth_0 x12 x11 FUEL 0).bind fun X24 => outL X24 (fun _ => (L_impl_IsSixth_1 x3 fuel (IntKind.i64.wrap (u7 + 1)))) else some (.inr ()))
theorem L_impl_IsSixth_1_succ (x3 : LIntSS) (fuel : Nat) (u7 : Int) : L_impl_IsSixth_1 x3 (fuel + 1) u7 = (if (decide (u7 < ((x3.length : Nat) : Int))) = true then (gi x3 u7).bind fun x11 => (cutL x3 (IntKind.i64.wrap (u7 + 1)) (x3.length : Int)).bind fun x12 => (L_impl_IsSixth_0 x12 x11 FUEL 0).bind fun X24 => outL X24 (fun _ => (L_impl_IsSixth_1 x3 fuel (IntKind.i64.wrap (u7 + 1)))) else some (.inr ())) := rfl
def M_impl_IsSixth (p0 : LPresentation) : Option (Bool) := match p0 with | (p0_0, p0_1) => (M_impl_IsPresentation (p0_0, p0_1)).bind fun x1 => (if (!x1) = true then some false else (M_impl_SymmetrizedSet (p0_0, p0_1)).bind fun x3 => (L_impl_IsSixth_1 x3 FUEL 0).bind fun X27 => outK X27 (fun _ => some true))

def M_impl_DehnStep (p0 : LPresentation) (p1 : LIntS) : Option (LIntS × Bool) := match p0 with | (p0_0, p0_1) => (M_impl_SymmetrizedSet (p0_0, p0_1)).bind fun x1 => (M_impl_ReduceLetters p1).bind fun x4 => (M_impl_dehn x1 x4).bind fun x7 => match x7 with | (x7_0, x7_1) => some (x7_0, x7_1)

def L_impl_DehnReduce_0 (x1 : LIntSS) : Nat → LIntS → Int → Option ((LIntS × Int) ⊕ (LIntS))
  | 0, _, _ => none
  | fuel + 1, u8, u9 => (if (decide (u9 < 500)) = true then (M_impl_dehn x1 u8).bind fun x13 => match x13 with | (x13_0, x13_1) => (if (!x13_1) = true then some (.inl (u8, u9)) else (L_impl_DehnReduce_0 x1 fuel x13_0 (IntKind.i64.wrap (u9 + 1)))) else some (.inr (u8)))
theorem L_impl_DehnReduce_0_succ (x1 : LIntSS) (fuel : Nat) (u8 : LIntS) (u9 : Int) : L_impl_DehnReduce_0 x1 (fuel + 1) u8 u9 = (if (decide (u9 < 500)) = true then (M_impl_dehn x1 u8).bind fun x13 => match x13 with | (x13_0, x13_1) => (if (!x13_1) = true then some (.inl (u8, u9)) else (L_impl_DehnReduce_0 x1 fuel x13_0 (IntKind.i64.wrap (u9 + 1)))) else some (.inr (u8))) := rfl
def M_impl_DehnReduce (p0 : LPresentation) (p1 : LIntS) : Option (LIntS × Int) := match p0 with | (p0_0, p0_1) => (M_impl_SymmetrizedSet (p0_0, p0_1)).bind fun x1 => (M_impl_ReduceLetters p1).bind fun x4 => (L_impl_DehnReduce_0 x1 FUEL x4 0).bind fun X20 => outK X20 (fun y18 => some (y18, 500))

end Go.Proofs.Ythccjgkmmclplaa
