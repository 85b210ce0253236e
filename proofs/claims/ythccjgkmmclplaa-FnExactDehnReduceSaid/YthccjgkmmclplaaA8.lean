/- What functions of the program compute, in plain words: batch 8. -/
import Derived.Test.YthccjgkmmclplaaGD
import Derived.Test.YthccjgkmmclplaaH36
import Derived.Test.YthccjgkmmclplaaA1
import Derived.Test.YthccjgkmmclplaaA3
import Derived.Test.YthccjgkmmclplaaA5
import Derived.Test.YthccjgkmmclplaaA6
namespace Go.Proofs.Ythccjgkmmclplaa
open Go.H
set_option linter.unusedVariables false
set_option linter.unusedSimpArgs false
set_option maxRecDepth 10000
def L_spec_DehnStep_0 (x4 : LIntSS) (x1 : LIntS) (u8 : Int) : Nat → Int → Option ((LIntS × Bool) ⊕ (Unit))
  | 0, _ => none
  | fuel + 1, u13 => (if (decide (u13 < ((x4.length : Nat) : Int))) = true then (cutL x1 u8 (x1.length : Int)).bind fun x17 => (gi x4 u13).bind fun x20 => (M_spec_l30Common x17 x20).bind fun x25 => (grd (In64 x25)).bind fun q26 => (gi x4 u13).bind fun x33 => (if (decide ((IntKind.i64.wrap (2 * x25)) > ((x33.length : Nat) : Int))) = true then (cutL x1 0 u8).bind fun x35 => (gi x4 u13).bind fun x38 => (cutL x38 x25 (x38.length : Int)).bind fun x43 => (M_spec_InvertWord x43).bind fun x46 => (M_spec_MultiplyWords x35 x46).bind fun x50 => (cutL x1 (IntKind.i64.wrap (u8 + x25)) (x1.length : Int)).bind fun x65 => (M_spec_MultiplyWords x50 x65).bind fun x66 => some (.inl (x66, true)) else (L_spec_DehnStep_0 x4 x1 u8 fuel (IntKind.i64.wrap (u13 + 1)))) else some (.inr ()))
theorem L_spec_DehnStep_0_succ (x4 : LIntSS) (x1 : LIntS) (u8 : Int) (fuel : Nat) (u13 : Int) : L_spec_DehnStep_0 x4 x1 u8 (fuel + 1) u13 = (if (decide (u13 < ((x4.length : Nat) : Int))) = true then (cutL x1 u8 (x1.length : Int)).bind fun x17 => (gi x4 u13).bind fun x20 => (M_spec_l30Common x17 x20).bind fun x25 => (grd (In64 x25)).bind fun q26 => (gi x4 u13).bind fun x33 => (if (decide ((IntKind.i64.wrap (2 * x25)) > ((x33.length : Nat) : Int))) = true then (cutL x1 0 u8).bind fun x35 => (gi x4 u13).bind fun x38 => (cutL x38 x25 (x38.length : Int)).bind fun x43 => (M_spec_InvertWord x43).bind fun x46 => (M_spec_MultiplyWords x35 x46).bind fun x50 => (cutL x1 (IntKind.i64.wrap (u8 + x25)) (x1.length : Int)).bind fun x65 => (M_spec_MultiplyWords x50 x65).bind fun x66 => some (.inl (x66, true)) else (L_spec_DehnStep_0 x4 x1 u8 fuel (IntKind.i64.wrap (u13 + 1)))) else some (.inr ())) := rfl
def L_spec_DehnStep_1 (x1 : LIntS) (x4 : LIntSS) : Nat → Int → Option ((LIntS × Bool) ⊕ (Unit))
  | 0, _ => none
  | fuel + 1, u8 => (if (decide (u8 < ((x1.length : Nat) : Int))) = true then (L_spec_DehnStep_0 x4 x1 u8 FUEL 0).bind fun X71 => outL X71 (fun _ => (L_spec_DehnStep_1 x1 x4 fuel (IntKind.i64.wrap (u8 + 1)))) else some (.inr ()))
theorem L_spec_DehnStep_1_succ (x1 : LIntS) (x4 : LIntSS) (fuel : Nat) (u8 : Int) : L_spec_DehnStep_1 x1 x4 (fuel + 1) u8 = (if (decide (u8 < ((x1.length : Nat) : Int))) = true then (L_spec_DehnStep_0 x4 x1 u8 FUEL 0).bind fun X71 => outL X71 (fun _ => (L_spec_DehnStep_1 x1 x4 fuel (IntKind.i64.wrap (u8 + 1)))) else some (.inr ())) := rfl
def M_spec_DehnStep (p0 : LPresentation) (p1 : LIntS) : Option (LIntS × Bool) := match p0 with | (p0_0, p0_1) => (M_spec_ReduceLetters p1).bind fun x1 => (M_spec_SymmetrizedSet (p0_0, p0_1)).bind fun x4 => (L_spec_DehnStep_1 x1 x4 FUEL 0).bind fun X74 => outK X74 (fun _ => some (x1, false))

def L_spec_DehnReduce_0 (p0_0 : Int) (p0_1 : LIntSS) : Nat → LIntS → Int → Option ((LIntS × Int) ⊕ (LIntS))
  | 0, _, _ => none
  | fuel + 1, u5, u6 => (if (decide (u6 < 500)) = true then (M_spec_DehnStep (p0_0, p0_1) u5).bind fun x10 => match x10 with | (x10_0, x10_1) => (if (!x10_1) = true then some (.inl (u5, u6)) else (L_spec_DehnReduce_0 p0_0 p0_1 fuel x10_0 (IntKind.i64.wrap (u6 + 1)))) else some (.inr (u5)))
theorem L_spec_DehnReduce_0_succ (p0_0 : Int) (p0_1 : LIntSS) (fuel : Nat) (u5 : LIntS) (u6 : Int) : L_spec_DehnReduce_0 p0_0 p0_1 (fuel + 1) u5 u6 = (if (decide (u6 < 500)) = true then (M_spec_DehnStep (p0_0, p0_1) u5).bind fun x10 => match x10 with | (x10_0, x10_1) => (if (!x10_1) = true then some (.inl (u5, u6)) else (L_spec_DehnReduce_0 p0_0 p0_1 fuel x10_0 (IntKind.i64.wrap (u6 + 1)))) else some (.inr (u5))) := rfl
def M_spec_DehnReduce (p0 : LPresentation) (p1 : LIntS) : Option (LIntS × Int) := match p0 with | (p0_0, p0_1) => (M_spec_ReduceLetters p1).bind fun x1 => (L_spec_DehnReduce_0 p0_0 p0_1 FUEL x1 0).bind fun X17 => outK X17 (fun y15 => some (y15, 500))

end Go.Proofs.Ythccjgkmmclplaa
