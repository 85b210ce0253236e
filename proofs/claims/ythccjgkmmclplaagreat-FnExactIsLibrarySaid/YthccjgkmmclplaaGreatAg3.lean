/- What functions of the program compute, in plain words: batch g3. -/
import Derived.Test.YthccjgkmmclplaaGreatGD
import Derived.Test.YthccjgkmmclplaaGreatH36
import Derived.Test.YthccjgkmmclplaaGreatA1
import Derived.Test.YthccjgkmmclplaaGreatA4g
import Derived.Test.YthccjgkmmclplaaGreatA9
import Derived.Test.YthccjgkmmclplaaGreatAg2
namespace Go.Proofs.YthccjgkmmclplaaGreat
open Go.H
set_option linter.unusedVariables false
set_option linter.unusedSimpArgs false
set_option maxRecDepth 10000
def M_impl_copyInts (p0 : LIntS) : Option (LIntS) := (grd ((([] : LIntS).length + p0.length) * 8 ≤ 140737488355328)).bind fun _ => some (([] : LIntS) ++ p0)

def L_impl_Graph_tree_0 (x17 : LIntS) (p0_0 : Int) (p0_1 : Int) (p0_2 : LEdgeS) (x16 : Int) : Nat → Int → (List (Option LIntS)) → (List Int) → Option ((List (Option LIntS)) × (List Int))
  | 0, _, _, _ => none
  | fuel + 1, u21, u22, u23 => (if (decide (u21 < ((x17.length : Nat) : Int))) = true then (gi x17 u21).bind fun x27 => (M_impl_NextVertex (p0_0, p0_1, p0_2) x16 x27).bind fun x28 => (grd (In64 x28)).bind fun _ => (chk (decide (x28 ≥ 0)) (gi u22 x28) (none : Option LIntS)).bind fun x30 => (if (bif (decide (x28 ≥ 0)) then x30.isNone else false) = true then (gi u22 x16).bind fun x32 => (M_impl_copyInts (x32.getD [])).bind fun x33 => (grd ((x33.length + [x27].length) * 8 ≤ 140737488355328)).bind fun _ => (gi u22 x28).bind fun x38 => (grd ((u23.length + [x28].length) * 8 ≤ 140737488355328)).bind fun _ => (L_impl_Graph_tree_0 x17 p0_0 p0_1 p0_2 x16 fuel (IntKind.i64.wrap (u21 + 1)) (u22.set x28.toNat (some (x33 ++ [x27]))) (u23 ++ [x28])) else (L_impl_Graph_tree_0 x17 p0_0 p0_1 p0_2 x16 fuel (IntKind.i64.wrap (u21 + 1)) u22 u23)) else some (u22, u23))
theorem L_impl_Graph_tree_0_succ (x17 : LIntS) (p0_0 : Int) (p0_1 : Int) (p0_2 : LEdgeS) (x16 : Int) (fuel : Nat) (u21 : Int) (u22 : (List (Option LIntS))) (u23 : (List Int)) : L_impl_Graph_tree_0 x17 p0_0 p0_1 p0_2 x16 (fuel + 1) u21 u22 u23 = (if (decide (u21 < ((x17.length : Nat) : Int))) = true then (gi x17 u21).bind fun x27 => (M_impl_NextVertex (p0_0, p0_1, p0_2) x16 x27).bind fun x28 => (grd (In64 x28)).bind fun _ => (chk (decide (x28 ≥ 0)) (gi u22 x28) (none : Option LIntS)).bind fun x30 => (if (bif (decide (x28 ≥ 0)) then x30.isNone else false) = true then (gi u22 x16).bind fun x32 => (M_impl_copyInts (x32.getD [])).bind fun x33 => (grd ((x33.length + [x27].length) * 8 ≤ 140737488355328)).bind fun _ => (gi u22 x28).bind fun x38 => (grd ((u23.length + [x28].length) * 8 ≤ 140737488355328)).bind fun _ => (L_impl_Graph_tree_0 x17 p0_0 p0_1 p0_2 x16 fuel (IntKind.i64.wrap (u21 + 1)) (u22.set x28.toNat (some (x33 ++ [x27]))) (u23 ++ [x28])) else (L_impl_Graph_tree_0 x17 p0_0 p0_1 p0_2 x16 fuel (IntKind.i64.wrap (u21 + 1)) u22 u23)) else some (u22, u23)) := rfl
def L_impl_Graph_tree_1 (p0_0 : Int) (p0_1 : Int) (p0_2 : LEdgeS) : Nat → Int → (List (Option LIntS)) → (List Int) → Option ((List (Option LIntS)) × (List Int))
  | 0, _, _, _ => none
  | fuel + 1, u8, u9, u10 => (some u10.length).bind fun m13 => (grd (m13 ≤ 9223372036854775807)).bind fun _ => (if (decide (u8 < ((m13 : Nat) : Int))) = true then (gi u10 u8).bind fun x16 => (M_impl_letters p0_0).bind fun x17 => (L_impl_Graph_tree_0 x17 p0_0 p0_1 p0_2 x16 FUEL 0 u9 u10).bind (fun S43 => match S43 with | (y41, y42) => (L_impl_Graph_tree_1 p0_0 p0_1 p0_2 fuel (IntKind.i64.wrap (u8 + 1)) y41 y42)) else some (u9, u10))
theorem L_impl_Graph_tree_1_succ (p0_0 : Int) (p0_1 : Int) (p0_2 : LEdgeS) (fuel : Nat) (u8 : Int) (u9 : (List (Option LIntS))) (u10 : (List Int)) : L_impl_Graph_tree_1 p0_0 p0_1 p0_2 (fuel + 1) u8 u9 u10 = (some u10.length).bind fun m13 => (grd (m13 ≤ 9223372036854775807)).bind fun _ => (if (decide (u8 < ((m13 : Nat) : Int))) = true then (gi u10 u8).bind fun x16 => (M_impl_letters p0_0).bind fun x17 => (L_impl_Graph_tree_0 x17 p0_0 p0_1 p0_2 x16 FUEL 0 u9 u10).bind (fun S43 => match S43 with | (y41, y42) => (L_impl_Graph_tree_1 p0_0 p0_1 p0_2 fuel (IntKind.i64.wrap (u8 + 1)) y41 y42)) else some (u9, u10)) := rfl
def M_impl_Graph_tree (p0 : LGraph) (p1 : Int) : Option (LIntS × LIntSS) := match p0 with | (p0_0, p0_1, p0_2) => (grd ((0 : Int) ≤ p0_1 ∧ p0_1 ≤ p0_1 ∧ p0_1 * 24 ≤ 140737488355328 ∧ p0_1 ≤ 9223372036854775807)).bind fun _ => (gi (List.replicate p0_1.toNat (none : Option LIntS)) p1).bind fun x2 => (L_impl_Graph_tree_1 p0_0 p0_1 p0_2 FUEL 0 ((List.replicate p0_1.toNat (none : Option LIntS)).set p1.toNat (some ([] : LIntS))) [p1]).bind (fun S64 => match S64 with | (y54, y55) => some (y55, (List.map (fun o : Option LIntS => o.getD ([] : LIntS)) y54)))

def M_impl_CanonicalOrder (p0 : LGraph) : Option (LIntS) := match p0 with | (p0_0, p0_1, p0_2) => (M_impl_IsFolded (p0_0, p0_1, p0_2)).bind fun x1 => (if (!x1) = true then some ([] : LIntS) else (M_impl_Graph_tree (p0_0, p0_1, p0_2) 0).bind fun x7 => match x7 with | (x7_0, x7_1) => some x7_0)

def M_impl_CanonicalGraph (p0 : LGraph) : Option (LGraph) := match p0 with | (p0_0, p0_1, p0_2) => (M_impl_IsFolded (p0_0, p0_1, p0_2)).bind fun x1 => (if (!x1) = true then (M_impl_copyGraph (p0_0, p0_1, p0_2)).bind fun x3 => match x3 with | (x3_0, x3_1, x3_2) => some (x3_0, x3_1, x3_2) else (M_impl_CanonicalOrder (p0_0, p0_1, p0_2)).bind fun x6 => (M_impl_part (p0_0, p0_1, p0_2) x6).bind fun x9 => match x9 with | (x9_0, x9_1, x9_2) => some (x9_0, x9_1, x9_2))

end Go.Proofs.YthccjgkmmclplaaGreat
