/- What functions of the program compute, in plain words: batch g2. -/
import Derived.Test.YthccjgkmmclplaaGreatGD
import Derived.Test.YthccjgkmmclplaaGreatH36
import Derived.Test.YthccjgkmmclplaaGreatA1
import Derived.Test.YthccjgkmmclplaaGreatA4g
import Derived.Test.YthccjgkmmclplaaGreatA9
namespace Go.Proofs.YthccjgkmmclplaaGreat
open Go.H
set_option linter.unusedVariables false
set_option linter.unusedSimpArgs false
set_option maxRecDepth 10000
def M_impl_copyGraph (p0 : LGraph) : Option (LGraph) := match p0 with | (p0_0, p0_1, p0_2) => (grd ((([] : LEdgeS).length + p0_2.length) * 24 ≤ 140737488355328)).bind fun _ => some (p0_0, p0_1, (([] : LEdgeS) ++ p0_2))

def L_impl_DegreeOf_0 (p0_2 : LEdgeS) (p1 : Int) : Nat → Int → Int → Option (Int)
  | 0, _, _ => none
  | fuel + 1, u2, u3 => (if (decide (u3 < ((p0_2.length : Nat) : Int))) = true then (gi p0_2 u3).bind fun x7 => match x7 with | (x7_0, x7_1, x7_2) => (if (decide (x7_0 = p1)) = true then (if (decide (x7_2 = p1)) = true then (L_impl_DegreeOf_0 p0_2 p1 fuel (IntKind.i64.wrap ((IntKind.i64.wrap (u2 + 1)) + 1)) (IntKind.i64.wrap (u3 + 1))) else (L_impl_DegreeOf_0 p0_2 p1 fuel (IntKind.i64.wrap (u2 + 1)) (IntKind.i64.wrap (u3 + 1)))) else (if (decide (x7_2 = p1)) = true then (L_impl_DegreeOf_0 p0_2 p1 fuel (IntKind.i64.wrap (u2 + 1)) (IntKind.i64.wrap (u3 + 1))) else (L_impl_DegreeOf_0 p0_2 p1 fuel u2 (IntKind.i64.wrap (u3 + 1))))) else some (u2))
theorem L_impl_DegreeOf_0_succ (p0_2 : LEdgeS) (p1 : Int) (fuel : Nat) (u2 : Int) (u3 : Int) : L_impl_DegreeOf_0 p0_2 p1 (fuel + 1) u2 u3 = (if (decide (u3 < ((p0_2.length : Nat) : Int))) = true then (gi p0_2 u3).bind fun x7 => match x7 with | (x7_0, x7_1, x7_2) => (if (decide (x7_0 = p1)) = true then (if (decide (x7_2 = p1)) = true then (L_impl_DegreeOf_0 p0_2 p1 fuel (IntKind.i64.wrap ((IntKind.i64.wrap (u2 + 1)) + 1)) (IntKind.i64.wrap (u3 + 1))) else (L_impl_DegreeOf_0 p0_2 p1 fuel (IntKind.i64.wrap (u2 + 1)) (IntKind.i64.wrap (u3 + 1)))) else (if (decide (x7_2 = p1)) = true then (L_impl_DegreeOf_0 p0_2 p1 fuel (IntKind.i64.wrap (u2 + 1)) (IntKind.i64.wrap (u3 + 1))) else (L_impl_DegreeOf_0 p0_2 p1 fuel u2 (IntKind.i64.wrap (u3 + 1))))) else some (u2)) := rfl
def M_impl_DegreeOf (p0 : LGraph) (p1 : Int) : Option (Int) := match p0 with | (p0_0, p0_1, p0_2) => (L_impl_DegreeOf_0 p0_2 p1 FUEL 0 0).bind (fun y12 => some y12)

def L_slices_Equal___impl_Edge_impl_Edge__0 (p0 : LEdgeS) (p1 : LEdgeS) : Nat → Int → Option ((Bool) ⊕ (Unit))
  | 0, _ => none
  | fuel + 1, u3 => (if (decide (u3 < ((p0.length : Nat) : Int))) = true then (gi p0 u3).bind fun x7 => match x7 with | (x7_0, x7_1, x7_2) => (gi p1 u3).bind fun x8 => match x8 with | (x8_0, x8_1, x8_2) => (if (!eqE (x7_0, x7_1, x7_2) (x8_0, x8_1, x8_2)) = true then some (.inl false) else (L_slices_Equal___impl_Edge_impl_Edge__0 p0 p1 fuel (IntKind.i64.wrap (u3 + 1)))) else some (.inr ()))
theorem L_slices_Equal___impl_Edge_impl_Edge__0_succ (p0 : LEdgeS) (p1 : LEdgeS) (fuel : Nat) (u3 : Int) : L_slices_Equal___impl_Edge_impl_Edge__0 p0 p1 (fuel + 1) u3 = (if (decide (u3 < ((p0.length : Nat) : Int))) = true then (gi p0 u3).bind fun x7 => match x7 with | (x7_0, x7_1, x7_2) => (gi p1 u3).bind fun x8 => match x8 with | (x8_0, x8_1, x8_2) => (if (!eqE (x7_0, x7_1, x7_2) (x8_0, x8_1, x8_2)) = true then some (.inl false) else (L_slices_Equal___impl_Edge_impl_Edge__0 p0 p1 fuel (IntKind.i64.wrap (u3 + 1)))) else some (.inr ())) := rfl
def M_slices_Equal___impl_Edge_impl_Edge_ (p0 : LEdgeS) (p1 : LEdgeS) : Option (Bool) := (if (!decide (((p0.length : Nat) : Int) = ((p1.length : Nat) : Int))) = true then some false else (L_slices_Equal___impl_Edge_impl_Edge__0 p0 p1 FUEL 0).bind fun X12 => outK X12 (fun _ => some true))

def M_impl_EqualGraphs (p0 : LGraph) (p1 : LGraph) : Option (Bool) := match p0 with | (p0_0, p0_1, p0_2) => match p1 with | (p1_0, p1_1, p1_2) => (chk (bif (decide (p0_0 = p1_0)) then (decide (p0_1 = p1_1)) else false) (M_slices_Equal___impl_Edge_impl_Edge_ p0_2 p1_2) false).bind fun x1 => some (bif (bif (decide (p0_0 = p1_0)) then (decide (p0_1 = p1_1)) else false) then x1 else false)

def L_impl_Graph_joined_0 (p0_2 : LEdgeS) : Nat → Bool → Int → (List Bool) → Option (Bool × (List Bool))
  | 0, _, _, _ => none
  | fuel + 1, u10, u11, u12 => (if (decide (u11 < ((p0_2.length : Nat) : Int))) = true then (gi p0_2 u11).bind fun x16 => match x16 with | (x16_0, x16_1, x16_2) => (gi u12 x16_0).bind fun x17 => (gi u12 x16_2).bind fun x18 => (if (!(x17 == x18)) = true then (gi u12 x16_0).bind fun x20 => (gi (u12.set x16_0.toNat true) x16_2).bind fun x21 => (L_impl_Graph_joined_0 p0_2 fuel true (IntKind.i64.wrap (u11 + 1)) ((u12.set x16_0.toNat true).set x16_2.toNat true)) else (L_impl_Graph_joined_0 p0_2 fuel u10 (IntKind.i64.wrap (u11 + 1)) u12)) else some (u10, u12))
theorem L_impl_Graph_joined_0_succ (p0_2 : LEdgeS) (fuel : Nat) (u10 : Bool) (u11 : Int) (u12 : (List Bool)) : L_impl_Graph_joined_0 p0_2 (fuel + 1) u10 u11 u12 = (if (decide (u11 < ((p0_2.length : Nat) : Int))) = true then (gi p0_2 u11).bind fun x16 => match x16 with | (x16_0, x16_1, x16_2) => (gi u12 x16_0).bind fun x17 => (gi u12 x16_2).bind fun x18 => (if (!(x17 == x18)) = true then (gi u12 x16_0).bind fun x20 => (gi (u12.set x16_0.toNat true) x16_2).bind fun x21 => (L_impl_Graph_joined_0 p0_2 fuel true (IntKind.i64.wrap (u11 + 1)) ((u12.set x16_0.toNat true).set x16_2.toNat true)) else (L_impl_Graph_joined_0 p0_2 fuel u10 (IntKind.i64.wrap (u11 + 1)) u12)) else some (u10, u12)) := rfl
def L_impl_Graph_joined_1 (p0_2 : LEdgeS) : Nat → Bool → (List Bool) → Option ((List Bool))
  | 0, _, _ => none
  | fuel + 1, u4, u5 => (if u4 = true then (L_impl_Graph_joined_0 p0_2 FUEL false 0 u5).bind (fun S25 => match S25 with | (y23, y24) => (L_impl_Graph_joined_1 p0_2 fuel y23 y24)) else some (u5))
theorem L_impl_Graph_joined_1_succ (p0_2 : LEdgeS) (fuel : Nat) (u4 : Bool) (u5 : (List Bool)) : L_impl_Graph_joined_1 p0_2 (fuel + 1) u4 u5 = (if u4 = true then (L_impl_Graph_joined_0 p0_2 FUEL false 0 u5).bind (fun S25 => match S25 with | (y23, y24) => (L_impl_Graph_joined_1 p0_2 fuel y23 y24)) else some (u5)) := rfl
def M_impl_Graph_joined (p0 : LGraph) (p1 : Int) : Option ((List Bool)) := match p0 with | (p0_0, p0_1, p0_2) => (grd ((0 : Int) ≤ p0_1 ∧ p0_1 ≤ p0_1 ∧ p0_1 * 1 ≤ 140737488355328 ∧ p0_1 ≤ 9223372036854775807)).bind fun _ => (gi (List.replicate p0_1.toNat (false : Bool)) p1).bind fun x2 => (L_impl_Graph_joined_1 p0_2 FUEL true ((List.replicate p0_1.toNat (false : Bool)).set p1.toNat true)).bind (fun y32 => some y32)

def L_impl_letters_0 (p0 : Int) : Nat → Int → (List Int) → Option ((List Int))
  | 0, _, _ => none
  | fuel + 1, u2, u3 => (if (decide (u2 ≤ p0)) = true then (grd ((u3.length + ([u2, (IntKind.i64.wrap (0 - u2))]).length) * 8 ≤ 140737488355328)).bind fun _ => (L_impl_letters_0 p0 fuel (IntKind.i64.wrap (u2 + 1)) (u3 ++ [u2, (IntKind.i64.wrap (0 - u2))])) else some (u3))
theorem L_impl_letters_0_succ (p0 : Int) (fuel : Nat) (u2 : Int) (u3 : (List Int)) : L_impl_letters_0 p0 (fuel + 1) u2 u3 = (if (decide (u2 ≤ p0)) = true then (grd ((u3.length + ([u2, (IntKind.i64.wrap (0 - u2))]).length) * 8 ≤ 140737488355328)).bind fun _ => (L_impl_letters_0 p0 fuel (IntKind.i64.wrap (u2 + 1)) (u3 ++ [u2, (IntKind.i64.wrap (0 - u2))])) else some (u3)) := rfl
def M_impl_letters (p0 : Int) : Option (LIntS) := (L_impl_letters_0 p0 FUEL 1 ([] : LIntS)).bind (fun y13 => some y13)

def M_impl_sorted (p0 : LEdgeS) : Option (LEdgeS) := (grd ((([] : LEdgeS).length + p0.length) * 24 ≤ 140737488355328)).bind fun _ => (grd ((([] : LEdgeS) ++ p0).length < 4611686018427387904)).bind fun _ => some (compL eqE (srtL F_CompareEdges (([] : LEdgeS) ++ p0)))

def L_impl_part_0 (p0_2 : LEdgeS) (u13 : (List Int)) : Nat → Int → Int → Int → (List LEdge) → Option (Int × Int × (List LEdge))
  | 0, _, _, _, _ => none
  | fuel + 1, u20, u21, u22, u23 => (if (decide (u20 < ((p0_2.length : Nat) : Int))) = true then (gi p0_2 u20).bind fun x27 => match x27 with | (x27_0, x27_1, x27_2) => (gi u13 x27_0).bind fun x28 => (chk (decide (x28 ≥ 0)) (gi u13 x27_2) 0).bind fun x29 => (if (bif (decide (x28 ≥ 0)) then (decide (x29 ≥ 0)) else false) = true then (gi u13 x27_0).bind fun x31 => (gi u13 x27_2).bind fun x36 => (grd ((u23.length + ([(x31, x27_1, x36)]).length) * 24 ≤ 140737488355328)).bind fun _ => (L_impl_part_0 p0_2 u13 fuel (IntKind.i64.wrap (u20 + 1)) u21 u22 (u23 ++ [(x31, x27_1, x36)])) else (L_impl_part_0 p0_2 u13 fuel (IntKind.i64.wrap (u20 + 1)) u21 u22 u23)) else some (u21, u22, u23))
theorem L_impl_part_0_succ (p0_2 : LEdgeS) (u13 : (List Int)) (fuel : Nat) (u20 : Int) (u21 : Int) (u22 : Int) (u23 : (List LEdge)) : L_impl_part_0 p0_2 u13 (fuel + 1) u20 u21 u22 u23 = (if (decide (u20 < ((p0_2.length : Nat) : Int))) = true then (gi p0_2 u20).bind fun x27 => match x27 with | (x27_0, x27_1, x27_2) => (gi u13 x27_0).bind fun x28 => (chk (decide (x28 ≥ 0)) (gi u13 x27_2) 0).bind fun x29 => (if (bif (decide (x28 ≥ 0)) then (decide (x29 ≥ 0)) else false) = true then (gi u13 x27_0).bind fun x31 => (gi u13 x27_2).bind fun x36 => (grd ((u23.length + ([(x31, x27_1, x36)]).length) * 24 ≤ 140737488355328)).bind fun _ => (L_impl_part_0 p0_2 u13 fuel (IntKind.i64.wrap (u20 + 1)) u21 u22 (u23 ++ [(x31, x27_1, x36)])) else (L_impl_part_0 p0_2 u13 fuel (IntKind.i64.wrap (u20 + 1)) u21 u22 u23)) else some (u21, u22, u23)) := rfl
def L_impl_part_1 (p1 : LIntS) : Nat → Int → (List Int) → Option ((List Int))
  | 0, _, _ => none
  | fuel + 1, u12, u13 => (if (decide (u12 < ((p1.length : Nat) : Int))) = true then (gi p1 u12).bind fun x17 => (gi u13 x17).bind fun x18 => (L_impl_part_1 p1 fuel (IntKind.i64.wrap (u12 + 1)) (u13.set x17.toNat u12)) else some (u13))
theorem L_impl_part_1_succ (p1 : LIntS) (fuel : Nat) (u12 : Int) (u13 : (List Int)) : L_impl_part_1 p1 (fuel + 1) u12 u13 = (if (decide (u12 < ((p1.length : Nat) : Int))) = true then (gi p1 u12).bind fun x17 => (gi u13 x17).bind fun x18 => (L_impl_part_1 p1 fuel (IntKind.i64.wrap (u12 + 1)) (u13.set x17.toNat u12)) else some (u13)) := rfl
def L_impl_part_2 (m2 : Nat) : Nat → Int → (List Int) → Option ((List Int))
  | 0, _, _ => none
  | fuel + 1, u5, u6 => (if (decide (u5 < ((m2 : Nat) : Int))) = true then (gi u6 u5).bind fun x10 => (L_impl_part_2 m2 fuel (IntKind.i64.wrap (u5 + 1)) (u6.set u5.toNat (-1))) else some (u6))
theorem L_impl_part_2_succ (m2 : Nat) (fuel : Nat) (u5 : Int) (u6 : (List Int)) : L_impl_part_2 m2 (fuel + 1) u5 u6 = (if (decide (u5 < ((m2 : Nat) : Int))) = true then (gi u6 u5).bind fun x10 => (L_impl_part_2 m2 fuel (IntKind.i64.wrap (u5 + 1)) (u6.set u5.toNat (-1))) else some (u6)) := rfl
def M_impl_part (p0 : LGraph) (p1 : LIntS) : Option (LGraph) := match p0 with | (p0_0, p0_1, p0_2) => (grd ((0 : Int) ≤ p0_1 ∧ p0_1 ≤ p0_1 ∧ p0_1 * 8 ≤ 140737488355328 ∧ p0_1 ≤ 9223372036854775807)).bind fun _ => (some (List.replicate p0_1.toNat (0 : Int)).length).bind fun m2 => (grd (m2 ≤ 9223372036854775807)).bind fun _ => (L_impl_part_2 m2 FUEL 0 (List.replicate p0_1.toNat (0 : Int))).bind (fun y114 => (L_impl_part_1 p1 FUEL 0 y114).bind (fun y169 => (L_impl_part_0 p0_2 y169 FUEL 0 p0_0 ((p1.length : Nat) : Int) ([] : LEdgeS)).bind (fun S213 => match S213 with | (y203, y204, y205) => (M_impl_sorted y205).bind fun x210 => some (y203, y204, x210))))

def L_impl_IsName_0 (p0 : ByteArray) : Nat → Int → Option ((Bool) ⊕ (Unit))
  | 0, _ => none
  | fuel + 1, u4 => (if (decide (u4 < ((p0.size : Nat) : Int))) = true then (sgi p0 u4).bind fun x8 => (chk (decide (((x8.toNat : Nat) : Int) ≥ 97)) (sgi p0 u4) 0).bind fun x9 => (sgi p0 u4).bind fun x10 => (chk (decide (((x10.toNat : Nat) : Int) ≥ 48)) (sgi p0 u4) 0).bind fun x11 => (if (bif (!(bif (decide (((x8.toNat : Nat) : Int) ≥ 97)) then (decide (((x9.toNat : Nat) : Int) ≤ 122)) else false)) then (bif (decide (u4 = 0)) then true else (!(bif (decide (((x10.toNat : Nat) : Int) ≥ 48)) then (decide (((x11.toNat : Nat) : Int) ≤ 57)) else false))) else false) = true then some (.inl false) else (L_impl_IsName_0 p0 fuel (IntKind.i64.wrap (u4 + 1)))) else some (.inr ()))
theorem L_impl_IsName_0_succ (p0 : ByteArray) (fuel : Nat) (u4 : Int) : L_impl_IsName_0 p0 (fuel + 1) u4 = (if (decide (u4 < ((p0.size : Nat) : Int))) = true then (sgi p0 u4).bind fun x8 => (chk (decide (((x8.toNat : Nat) : Int) ≥ 97)) (sgi p0 u4) 0).bind fun x9 => (sgi p0 u4).bind fun x10 => (chk (decide (((x10.toNat : Nat) : Int) ≥ 48)) (sgi p0 u4) 0).bind fun x11 => (if (bif (!(bif (decide (((x8.toNat : Nat) : Int) ≥ 97)) then (decide (((x9.toNat : Nat) : Int) ≤ 122)) else false)) then (bif (decide (u4 = 0)) then true else (!(bif (decide (((x10.toNat : Nat) : Int) ≥ 48)) then (decide (((x11.toNat : Nat) : Int) ≤ 57)) else false))) else false) = true then some (.inl false) else (L_impl_IsName_0 p0 fuel (IntKind.i64.wrap (u4 + 1)))) else some (.inr ())) := rfl
def M_impl_IsName (p0 : ByteArray) : Option (Bool) := (M_impl_within ((p0.size : Nat) : Int) 1 8).bind fun x1 => (if (!x1) = true then some false else (L_impl_IsName_0 p0 FUEL 0).bind fun X15 => outK X15 (fun _ => some true))

end Go.Proofs.YthccjgkmmclplaaGreat
