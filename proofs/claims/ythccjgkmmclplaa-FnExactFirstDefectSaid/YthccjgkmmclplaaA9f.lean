/- What functions of the program compute, in plain words: batch 9f. -/
import Derived.Test.YthccjgkmmclplaaGD
import Derived.Test.YthccjgkmmclplaaH36
import Derived.Test.YthccjgkmmclplaaA1
import Derived.Test.YthccjgkmmclplaaA4g
import Derived.Test.YthccjgkmmclplaaA9
namespace Go.Proofs.Ythccjgkmmclplaa
open Go.H
set_option linter.unusedVariables false
set_option linter.unusedSimpArgs false
set_option maxRecDepth 10000
def L_spec_FirstDefect_0 (p0_1 : LIntSS) (p1_0 : Int) (p1_1 : Int) (p1_2 : LEdgeS) (u2 : Int) : Nat → Int → Option ((Int × Int) ⊕ (Unit))
  | 0, _ => none
  | fuel + 1, u9 => (if (decide (u9 < ((p0_1.length : Nat) : Int))) = true then (gi p0_1 u9).bind fun x13 => (M_spec_WalkWord (p1_0, p1_1, p1_2) u2 x13).bind fun x18 => match x18 with | (x18_0, x18_1) => (grd (In64 x18_0)).bind fun q19 => (if (bif (!x18_1) then true else (!decide (x18_0 = u2))) = true then some (.inl (u2, u9)) else (L_spec_FirstDefect_0 p0_1 p1_0 p1_1 p1_2 u2 fuel (IntKind.i64.wrap (u9 + 1)))) else some (.inr ()))
theorem L_spec_FirstDefect_0_succ (p0_1 : LIntSS) (p1_0 : Int) (p1_1 : Int) (p1_2 : LEdgeS) (u2 : Int) (fuel : Nat) (u9 : Int) : L_spec_FirstDefect_0 p0_1 p1_0 p1_1 p1_2 u2 (fuel + 1) u9 = (if (decide (u9 < ((p0_1.length : Nat) : Int))) = true then (gi p0_1 u9).bind fun x13 => (M_spec_WalkWord (p1_0, p1_1, p1_2) u2 x13).bind fun x18 => match x18 with | (x18_0, x18_1) => (grd (In64 x18_0)).bind fun q19 => (if (bif (!x18_1) then true else (!decide (x18_0 = u2))) = true then some (.inl (u2, u9)) else (L_spec_FirstDefect_0 p0_1 p1_0 p1_1 p1_2 u2 fuel (IntKind.i64.wrap (u9 + 1)))) else some (.inr ())) := rfl
def L_spec_FirstDefect_1 (p1_1 : Int) (p0_0 : Int) (p0_1 : LIntSS) (p1_0 : Int) (p1_2 : LEdgeS) : Nat → Int → Option ((Int × Int) ⊕ (Unit))
  | 0, _ => none
  | fuel + 1, u2 => (chk (decide (u2 < p1_1)) (M_spec_IsPresentation (p0_0, p0_1)) false).bind fun x5 => (chk (bif (decide (u2 < p1_1)) then x5 else false) (M_spec_IsFolded (p1_0, p1_1, p1_2)) false).bind fun x6 => (if (bif (bif (bif (decide (u2 < p1_1)) then x5 else false) then x6 else false) then (decide (p0_0 = p1_0)) else false) = true then (L_spec_FirstDefect_0 p0_1 p1_0 p1_1 p1_2 u2 FUEL 0).bind fun X31 => outL X31 (fun _ => (L_spec_FirstDefect_1 p1_1 p0_0 p0_1 p1_0 p1_2 fuel (IntKind.i64.wrap (u2 + 1)))) else some (.inr ()))
theorem L_spec_FirstDefect_1_succ (p1_1 : Int) (p0_0 : Int) (p0_1 : LIntSS) (p1_0 : Int) (p1_2 : LEdgeS) (fuel : Nat) (u2 : Int) : L_spec_FirstDefect_1 p1_1 p0_0 p0_1 p1_0 p1_2 (fuel + 1) u2 = (chk (decide (u2 < p1_1)) (M_spec_IsPresentation (p0_0, p0_1)) false).bind fun x5 => (chk (bif (decide (u2 < p1_1)) then x5 else false) (M_spec_IsFolded (p1_0, p1_1, p1_2)) false).bind fun x6 => (if (bif (bif (bif (decide (u2 < p1_1)) then x5 else false) then x6 else false) then (decide (p0_0 = p1_0)) else false) = true then (L_spec_FirstDefect_0 p0_1 p1_0 p1_1 p1_2 u2 FUEL 0).bind fun X31 => outL X31 (fun _ => (L_spec_FirstDefect_1 p1_1 p0_0 p0_1 p1_0 p1_2 fuel (IntKind.i64.wrap (u2 + 1)))) else some (.inr ())) := rfl
def M_spec_FirstDefect (p0 : LPresentation) (p1 : LGraph) : Option (Int × Int) := match p0 with | (p0_0, p0_1) => match p1 with | (p1_0, p1_1, p1_2) => (L_spec_FirstDefect_1 p1_1 p0_0 p0_1 p1_0 p1_2 FUEL 0).bind fun X34 => outK X34 (fun _ => some ((-1), (-1)))

def L_impl_FirstDefect_0 (p0_1 : LIntSS) (p1_0 : Int) (p1_1 : Int) (p1_2 : LEdgeS) (u5 : Int) : Nat → Int → Option ((Int × Int) ⊕ (Unit))
  | 0, _ => none
  | fuel + 1, u10 => (if (decide (u10 < ((p0_1.length : Nat) : Int))) = true then (gi p0_1 u10).bind fun x14 => (M_impl_Graph_read (p1_0, p1_1, p1_2) u5 x14).bind fun x15 => match x15 with | (x15_0, x15_1) => (grd (In64 x15_0)).bind fun _ => (grd (In64 x15_1)).bind fun _ => (if (bif (decide (x15_1 < ((x14.length : Nat) : Int))) then true else (!decide (x15_0 = u5))) = true then some (.inl (u5, u10)) else (L_impl_FirstDefect_0 p0_1 p1_0 p1_1 p1_2 u5 fuel (IntKind.i64.wrap (u10 + 1)))) else some (.inr ()))
theorem L_impl_FirstDefect_0_succ (p0_1 : LIntSS) (p1_0 : Int) (p1_1 : Int) (p1_2 : LEdgeS) (u5 : Int) (fuel : Nat) (u10 : Int) : L_impl_FirstDefect_0 p0_1 p1_0 p1_1 p1_2 u5 (fuel + 1) u10 = (if (decide (u10 < ((p0_1.length : Nat) : Int))) = true then (gi p0_1 u10).bind fun x14 => (M_impl_Graph_read (p1_0, p1_1, p1_2) u5 x14).bind fun x15 => match x15 with | (x15_0, x15_1) => (grd (In64 x15_0)).bind fun _ => (grd (In64 x15_1)).bind fun _ => (if (bif (decide (x15_1 < ((x14.length : Nat) : Int))) then true else (!decide (x15_0 = u5))) = true then some (.inl (u5, u10)) else (L_impl_FirstDefect_0 p0_1 p1_0 p1_1 p1_2 u5 fuel (IntKind.i64.wrap (u10 + 1)))) else some (.inr ())) := rfl
def L_impl_FirstDefect_1 (p1_1 : Int) (p0_1 : LIntSS) (p1_0 : Int) (p1_2 : LEdgeS) : Nat → Int → Option ((Int × Int) ⊕ (Unit))
  | 0, _ => none
  | fuel + 1, u5 => (if (decide (u5 < p1_1)) = true then (L_impl_FirstDefect_0 p0_1 p1_0 p1_1 p1_2 u5 FUEL 0).bind fun X21 => outL X21 (fun _ => (L_impl_FirstDefect_1 p1_1 p0_1 p1_0 p1_2 fuel (IntKind.i64.wrap (u5 + 1)))) else some (.inr ()))
theorem L_impl_FirstDefect_1_succ (p1_1 : Int) (p0_1 : LIntSS) (p1_0 : Int) (p1_2 : LEdgeS) (fuel : Nat) (u5 : Int) : L_impl_FirstDefect_1 p1_1 p0_1 p1_0 p1_2 (fuel + 1) u5 = (if (decide (u5 < p1_1)) = true then (L_impl_FirstDefect_0 p0_1 p1_0 p1_1 p1_2 u5 FUEL 0).bind fun X21 => outL X21 (fun _ => (L_impl_FirstDefect_1 p1_1 p0_1 p1_0 p1_2 fuel (IntKind.i64.wrap (u5 + 1)))) else some (.inr ())) := rfl
def M_impl_FirstDefect (p0 : LPresentation) (p1 : LGraph) : Option (Int × Int) := match p0 with | (p0_0, p0_1) => match p1 with | (p1_0, p1_1, p1_2) => (M_impl_IsPresentation (p0_0, p0_1)).bind fun x1 => (chk (!(!x1)) (M_impl_IsFolded (p1_0, p1_1, p1_2)) false).bind fun x2 => (if (bif (bif (!x1) then true else (!x2)) then true else (!decide (p0_0 = p1_0))) = true then some ((-1), (-1)) else (L_impl_FirstDefect_1 p1_1 p0_1 p1_0 p1_2 FUEL 0).bind fun X24 => outK X24 (fun _ => some ((-1), (-1))))

end Go.Proofs.Ythccjgkmmclplaa
