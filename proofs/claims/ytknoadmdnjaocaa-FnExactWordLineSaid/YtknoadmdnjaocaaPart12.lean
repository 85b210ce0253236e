/- Texts of the claim, joined: What functions of the program compute, in plain words: batch 1; What functions of the program compute, in plain words: batch 3; What functions of the program compute, in plain words: batch ci; What functions of the program compute, in plain words: batch 5e; What functions of the program compute, in plain words: batch 5; What functions of the program compute, in plain words: batch q6; What functions of the program compute, in plain words: batch 6; What functions of the program compute, in plain words: batch lh; What functions of the program compute, in plain words: batch ls; What functions of the program compute, in plain words: batch xb1; What functions of the program compute, in plain words: batch w1; What functions of the program compute, in plain words: batch lt; What functions of the program compute, in plain words: batch xb2; What functions of the program compute, in plain words: batch w2; What functions of the program compute, in plain words: batch 2; What functions of the program compute, in plain words: batch ln; What functions of the program compute, in plain words: batch ly; What functions of the program compute, in plain words: batch w3; What functions of the program compute, in plain words: batch w4. -/
import Derived.Test.YtknoadmdnjaocaaPart11
import Derived.Test.YtknoadmdnjaocaaHE
import Derived.Test.YtknoadmdnjaocaaH34
import Derived.Test.YtknoadmdnjaocaaH33
namespace Go.Proofs.Ytknoadmdnjaocaa
open Go.H
set_option linter.unusedVariables false
set_option linter.unusedSimpArgs false
set_option maxRecDepth 10000
def Y3 (p0 : Int) (p1 : Int) (p2 : Int) : Option (Bool) := some (bif (decide (p0 ≥ p1)) then (decide (p0 ≤ p2)) else false)
def Q4 (p1 : i0) (p0 : Int) : Nat → Int → Option ((Bool) ⊕ (Unit))
 | 0, _ => none
 | fuel + 1, u2 => (if (decide (u2 < ((p1.length : Nat) : Int))) = true then (gi p1 u2).bind fun x6 => (chk (!(decide (x6 = 0))) (gi p1 u2) 0).bind fun x7 => (chk (!(decide (x6 = 0))) (Y3 x7 (IntKind.i64.wrap (0 - p0)) p0) false).bind fun x8 => (chk ((decide (u2 > 0)) && (!(bif (decide (x6 = 0)) then true else (!x8)))) (gi p1 u2) 0).bind fun x9 => (chk ((decide (u2 > 0)) && (!(bif (decide (x6 = 0)) then true else (!x8)))) (gi p1 (IntKind.i64.wrap (u2 - 1))) 0).bind fun x10 => (if (bif (bif (decide (x6 = 0)) then true else (!x8)) then true else (bif (decide (u2 > 0)) then (decide (x9 = (IntKind.i64.wrap (0 - x10)))) else false)) = true then some (.inl false) else (Q4 p1 p0 fuel (IntKind.i64.wrap (u2 + 1)))) else some (.inr ()))
def w4 (p0 : Int) (p1 : i0) : Option (Bool) := (Q4 p1 p0 N0 0).bind fun X16 => r8 X16 (fun _ => (Y3 p0 1 3).bind fun x14 => some (bif x14 then (decide (((p1.length : Nat) : Int) ≤ 24)) else false))
def D2 (p0 : Int) (p1 : Int) (p2 : Int) : Option (Bool) := some (bif (decide (p0 ≥ p1)) then (decide (p0 ≤ p2)) else false)
def M5 (p0 : Int) (p1 : Int) : Option (Bool) := (chk (!decide (p1 = 0)) (D2 p1 (IntKind.i64.wrap (0 - p0)) p0) false).bind fun x1 => some (bif (!decide (p1 = 0)) then x1 else false)
def F4 (p0 : Int) (p1 : Int) : Option (Bool) := some (bif (bif (!decide (p0 = 0)) then (!decide (p0 = (-9223372036854775808))) else false) then (decide (p1 = (IntKind.i64.wrap (0 - p0)))) else false)
def R4 (p1 : i0) (p0 : Int) : Nat → Int → Option ((Bool) ⊕ (Unit))
 | 0, _ => none
 | fuel + 1, u4 => (if (decide (u4 < ((p1.length : Nat) : Int))) = true then (gi p1 u4).bind fun x8 => (M5 p0 x8).bind fun x9 => (chk ((decide (u4 > 0)) && (!(!x9))) (gi p1 (IntKind.i64.wrap (u4 - 1))) 0).bind fun x10 => (chk ((decide (u4 > 0)) && (!(!x9))) (F4 x10 x8) false).bind fun x11 => (if (bif (!x9) then true else (bif (decide (u4 > 0)) then x11 else false)) = true then some (.inl false) else (R4 p1 p0 fuel (IntKind.i64.wrap (u4 + 1)))) else some (.inr ()))
def V5 (p0 : Int) (p1 : i0) : Option (Bool) := (D2 p0 1 3).bind fun x1 => (if (bif (!x1) then true else (decide (((p1.length : Nat) : Int) > 24))) = true then some false else (R4 p1 p0 N0 0).bind fun X15 => r8 X15 (fun _ => some true))
def V3 (p0 : Int) (p1 : Int) : Option (Int) := (if (decide (p0 < p1)) = true then some (-1) else (if (decide (p0 > p1)) = true then some 1 else some 0))
end Go.Proofs.Ytknoadmdnjaocaa
namespace Go.Proofs.Ytknoadmdnjaocaa
open Go.H
set_option linter.unusedVariables false
set_option linter.unusedSimpArgs false
set_option maxRecDepth 10000
def P1 (p0 : i0) : Nat → Int → (List Int) → Option ((List Int))
 | 0, _, _ => none
 | fuel + 1, u2, u3 => (if (decide (u2 ≥ 0)) = true then (gi p0 u2).bind fun x7 => (grd ((u3.length + ([(IntKind.i64.wrap (0 - x7))]).length) * 8 ≤ 140737488355328)).bind fun _ => (P1 p0 fuel (IntKind.i64.wrap (u2 - 1)) (u3 ++ [(IntKind.i64.wrap (0 - x7))])) else some (u3))
def G4 (p0 : i0) : Option (i0) := (P1 p0 N0 (IntKind.i64.wrap (((p0.length : Nat) : Int) - 1)) ([] : i0)).bind (fun y14 => some y14)
def I1 (p0 : i0) : Nat → Int → (List Int) → Option ((List Int))
 | 0, _, _ => none
 | fuel + 1, u2, u3 => (if (decide (u2 < ((p0.length : Nat) : Int))) = true then (some u3.length).bind fun m7 => (grd (m7 ≤ 9223372036854775807)).bind fun _ => (chk (decide (((m7 : Nat) : Int) > 0)) (gi p0 u2) 0).bind fun x9 => (chk (bif (decide (((m7 : Nat) : Int) > 0)) then (!decide (x9 = 0)) else false) (gi u3 (IntKind.i64.wrap (((m7 : Nat) : Int) - 1))) 0).bind fun x10 => (chk (bif (decide (((m7 : Nat) : Int) > 0)) then (!decide (x9 = 0)) else false) (gi p0 u2) 0).bind fun x11 => (chk (bif (bif (decide (((m7 : Nat) : Int) > 0)) then (!decide (x9 = 0)) else false) then (decide (x10 = (IntKind.i64.wrap (0 - x11)))) else false) (gi u3 (IntKind.i64.wrap (((m7 : Nat) : Int) - 1))) 0).bind fun x12 => (chk (bif (bif (decide (((m7 : Nat) : Int) > 0)) then (!decide (x9 = 0)) else false) then (decide (x10 = (IntKind.i64.wrap (0 - x11)))) else false) (gi p0 u2) 0).bind fun x13 => (if (bif (bif (bif (decide (((m7 : Nat) : Int) > 0)) then (!decide (x9 = 0)) else false) then (decide (x10 = (IntKind.i64.wrap (0 - x11)))) else false) then (!decide (x12 = x13)) else false) = true then (grd (0 ≤ (IntKind.i64.wrap (((m7 : Nat) : Int) - 1)) ∧ (IntKind.i64.wrap (((m7 : Nat) : Int) - 1)) ≤ (u3.length : Int))).bind fun _ => (I1 p0 fuel (IntKind.i64.wrap (u2 + 1)) (u3.take (IntKind.i64.wrap (((m7 : Nat) : Int) - 1)).toNat)) else (gi p0 u2).bind fun x16 => (grd ((u3.length + [x16].length) * 8 ≤ 140737488355328)).bind fun _ => (I1 p0 fuel (IntKind.i64.wrap (u2 + 1)) (u3 ++ [x16]))) else some (u3))
def j3 (p0 : i0) : Option (i0) := (I1 p0 N0 0 ([] : i0)).bind (fun y24 => (grd ((([] : i0).length + y24.length) * 8 ≤ 140737488355328)).bind fun _ => some (([] : i0) ++ y24))
def Z3 (p0 : i0) (p1 : i0) : Option (i0) := (grd ((([] : i0).length + p0.length) * 8 ≤ 140737488355328)).bind fun _ => (grd (((([] : i0) ++ p0).length + p1.length) * 8 ≤ 140737488355328)).bind fun _ => (j3 ((([] : i0) ++ p0) ++ p1)).bind fun x9 => some x9
def C3 (p0 : i0) : Nat → Int → (List Int) → Option ((List Int))
 | 0, _, _ => none
 | fuel + 1, u3, u4 => (if (decide (u3 ≥ 0)) = true then (gi p0 u3).bind fun x8 => (grd ((u4.length + ([(IntKind.i64.wrap (0 - x8))]).length) * 8 ≤ 140737488355328)).bind fun _ => (C3 p0 fuel (IntKind.i64.wrap (u3 - 1)) (u4 ++ [(IntKind.i64.wrap (0 - x8))])) else some (u4))
def I5 (p0 : i0) : Option (i0) := (grd ((0 : Int) ≤ 0 ∧ 0 ≤ ((p0.length : Nat) : Int) ∧ ((p0.length : Nat) : Int) * 8 ≤ 140737488355328 ∧ ((p0.length : Nat) : Int) ≤ 9223372036854775807)).bind fun _ => (C3 p0 N0 (IntKind.i64.wrap (((p0.length : Nat) : Int) - 1)) (List.replicate (0 : Int).toNat (0 : Int))).bind (fun y15 => some y15)
def B3 (x7 : i0) : Nat → Int → (List Int) → Option ((List Int))
 | 0, _, _ => none
 | fuel + 1, u9, u10 => (if (decide (u9 < ((x7.length : Nat) : Int))) = true then (gi x7 u9).bind fun x14 => (some u10.length).bind fun m15 => (grd (m15 ≤ 9223372036854775807)).bind fun _ => (some u10.length).bind fun m17 => (grd (m17 ≤ 9223372036854775807)).bind fun _ => (chk (decide (((m15 : Nat) : Int) > 0)) (gi u10 (IntKind.i64.wrap (((m17 : Nat) : Int) - 1))) 0).bind fun x19 => (chk (decide (((m15 : Nat) : Int) > 0)) (F4 x19 x14) false).bind fun x20 => (if (bif (decide (((m15 : Nat) : Int) > 0)) then x20 else false) = true then (some u10.length).bind fun m22 => (grd (m22 ≤ 9223372036854775807)).bind fun _ => (grd (0 ≤ (IntKind.i64.wrap (((m22 : Nat) : Int) - 1)) ∧ (IntKind.i64.wrap (((m22 : Nat) : Int) - 1)) ≤ (u10.length : Int))).bind fun _ => (B3 x7 fuel (IntKind.i64.wrap (u9 + 1)) (u10.take (IntKind.i64.wrap (((m22 : Nat) : Int) - 1)).toNat)) else (grd ((u10.length + [x14].length) * 8 ≤ 140737488355328)).bind fun _ => (B3 x7 fuel (IntKind.i64.wrap (u9 + 1)) (u10 ++ [x14]))) else some (u10))
def c4 (p0 : Q6) : Nat → Int → (List Int) → Option ((List Int))
 | 0, _, _ => none
 | fuel + 1, u2, u3 => (if (decide (u2 < ((p0.length : Nat) : Int))) = true then (gi p0 u2).bind fun x7 => (B3 x7 N0 0 u3).bind (fun y27 => (c4 p0 fuel (IntKind.i64.wrap (u2 + 1)) y27)) else some (u3))
def l6 (p0 : Q6) : Option (i0) := (c4 p0 N0 0 ([] : i0)).bind (fun y35 => some y35)
end Go.Proofs.Ytknoadmdnjaocaa
namespace Go.Proofs.Ytknoadmdnjaocaa
open Go.H
set_option linter.unusedVariables false
set_option linter.unusedSimpArgs false
set_option maxRecDepth 10000
def S4 (p0 : i0) : Option (i0) := (grd ((([] : i0).length + p0.length) * 8 ≤ 140737488355328)).bind fun _ => some (([] : i0) ++ p0)
end Go.Proofs.Ytknoadmdnjaocaa
namespace Go.Proofs.Ytknoadmdnjaocaa
open Go.H
set_option linter.unusedVariables false
set_option linter.unusedSimpArgs false
set_option maxRecDepth 10000
def Q1 (p0 : i0) (p1 : i0) : Nat → Int → Option ((Bool) ⊕ (Unit))
 | 0, _ => none
 | fuel + 1, u3 => (if (decide (u3 < ((p0.length : Nat) : Int))) = true then (gi p0 u3).bind fun x7 => (gi p1 u3).bind fun x8 => (if (!decide (x7 = x8)) = true then some (.inl false) else (Q1 p0 p1 fuel (IntKind.i64.wrap (u3 + 1)))) else some (.inr ()))
def J5 (p0 : i0) (p1 : i0) : Option (Bool) := (if (!decide (((p0.length : Nat) : Int) = ((p1.length : Nat) : Int))) = true then some false else (Q1 p0 p1 N0 0).bind fun X12 => r8 X12 (fun _ => some true))
def D3 (p0 : i0) (p1 : i0) : Nat → Int → Option ((Bool) ⊕ (Unit))
 | 0, _ => none
 | fuel + 1, u3 => (if (decide (u3 < ((p0.length : Nat) : Int))) = true then (gi p0 u3).bind fun x7 => (gi p1 u3).bind fun x8 => (if (!decide (x7 = x8)) = true then some (.inl false) else (D3 p0 p1 fuel (IntKind.i64.wrap (u3 + 1)))) else some (.inr ()))
def I6 (p0 : i0) (p1 : i0) : Option (Bool) := (if (!decide (((p0.length : Nat) : Int) = ((p1.length : Nat) : Int))) = true then some false else (D3 p0 p1 N0 0).bind fun X12 => r8 X12 (fun _ => some true))
end Go.Proofs.Ytknoadmdnjaocaa
namespace Go.Proofs.Ytknoadmdnjaocaa
open Go.H
set_option linter.unusedVariables false
set_option linter.unusedSimpArgs false
set_option maxRecDepth 10000
def K7 (p0 : Int) (p1 : Int) : Option (Int) := (if (decide (p0 = p1)) = true then some 0 else (if (bif (bif (decide ((if (IntKind.i64.wrap (0 - p0)) > p0 then (IntKind.i64.wrap (0 - p0)) else p0) < 0)) then true else (bif (decide ((if (IntKind.i64.wrap (0 - p1)) > p1 then (IntKind.i64.wrap (0 - p1)) else p1) ≥ 0)) then (decide ((if (IntKind.i64.wrap (0 - p0)) > p0 then (IntKind.i64.wrap (0 - p0)) else p0) > (if (IntKind.i64.wrap (0 - p1)) > p1 then (IntKind.i64.wrap (0 - p1)) else p1))) else false)) then true else (bif (decide ((if (IntKind.i64.wrap (0 - p0)) > p0 then (IntKind.i64.wrap (0 - p0)) else p0) = (if (IntKind.i64.wrap (0 - p1)) > p1 then (IntKind.i64.wrap (0 - p1)) else p1))) then (decide (p0 < p1)) else false)) = true then some 1 else some (-1)))
def S0 (p0 : i0) (p1 : i0) : Nat → Int → Option ((Int) ⊕ (Unit))
 | 0, _ => none
 | fuel + 1, u4 => (if (decide (u4 < ((p0.length : Nat) : Int))) = true then (gi p0 u4).bind fun x8 => (gi p1 u4).bind fun x9 => (K7 x8 x9).bind fun x10 => (grd (D0 x10)).bind fun _ => (if (!decide (x10 = 0)) = true then some (.inl x10) else (S0 p0 p1 fuel (IntKind.i64.wrap (u4 + 1)))) else some (.inr ()))
def L4 (p0 : i0) (p1 : i0) : Option (Int) := (if (!decide (((p0.length : Nat) : Int) = ((p1.length : Nat) : Int))) = true then (if (decide (((p0.length : Nat) : Int) < ((p1.length : Nat) : Int))) = true then some (-1) else some 1) else (S0 p0 p1 N0 0).bind fun X15 => r8 X15 (fun _ => some 0))
def L3 (p0 : Int) (p1 : Int) : Option (Int) := (if (decide (p0 = p1)) = true then some 0 else (if (decide (p0 = (-9223372036854775808))) = true then some 1 else (if (decide (p1 = (-9223372036854775808))) = true then some (-1) else (V3 (if (IntKind.i64.wrap (0 - p0)) > p0 then (IntKind.i64.wrap (0 - p0)) else p0) (if (IntKind.i64.wrap (0 - p1)) > p1 then (IntKind.i64.wrap (0 - p1)) else p1)).bind fun x4 => (grd (D0 x4)).bind fun _ => (if (!decide (x4 = 0)) = true then some x4 else (V3 p1 p0).bind fun x7 => (grd (D0 x7)).bind fun _ => some x7))))
def O1 (p0 : i0) (p1 : i0) : Nat → Int → Option ((Int) ⊕ (Unit))
 | 0, _ => none
 | fuel + 1, u5 => (if (decide (u5 < ((p0.length : Nat) : Int))) = true then (gi p0 u5).bind fun x9 => (gi p1 u5).bind fun x10 => (L3 x9 x10).bind fun x11 => (grd (D0 x11)).bind fun _ => (if (!decide (x11 = 0)) = true then some (.inl x11) else (O1 p0 p1 fuel (IntKind.i64.wrap (u5 + 1)))) else some (.inr ()))
def P5 (p0 : i0) (p1 : i0) : Option (Int) := (V3 ((p0.length : Nat) : Int) ((p1.length : Nat) : Int)).bind fun x1 => (grd (D0 x1)).bind fun _ => (if (!decide (x1 = 0)) = true then some x1 else (O1 p0 p1 N0 0).bind fun X16 => r8 X16 (fun _ => some 0))
end Go.Proofs.Ytknoadmdnjaocaa
namespace Go.Proofs.Ytknoadmdnjaocaa
open Go.H
set_option linter.unusedVariables false
set_option linter.unusedSimpArgs false
set_option maxRecDepth 10000
def s5 (p0 : i0) : Option (i0) := (l6 [p0]).bind fun x5 => some x5
end Go.Proofs.Ytknoadmdnjaocaa
namespace Go.Proofs.Ytknoadmdnjaocaa
open Go.H
set_option linter.unusedVariables false
set_option linter.unusedSimpArgs false
set_option maxRecDepth 10000
def Y0 (p0 : i0) (p1 : Int) : Nat → Int → (List Int) → Option ((List Int))
 | 0, _, _ => none
 | fuel + 1, u2, u3 => (if (decide (u2 < ((p0.length : Nat) : Int))) = true then (grd (((p0.length : Nat) : Int) ≠ 0)).bind fun _ => (grd (((p0.length : Nat) : Int) ≠ 0)).bind fun _ => (grd (((p0.length : Nat) : Int) ≠ 0)).bind fun _ => (gi p0 (Int.tmod (IntKind.i64.wrap ((Int.tmod (IntKind.i64.wrap (u2 + (Int.tmod p1 ((p0.length : Nat) : Int)))) ((p0.length : Nat) : Int)) + ((p0.length : Nat) : Int))) ((p0.length : Nat) : Int))).bind fun x10 => (grd ((u3.length + [x10].length) * 8 ≤ 140737488355328)).bind fun _ => (Y0 p0 p1 fuel (IntKind.i64.wrap (u2 + 1)) (u3 ++ [x10])) else some (u3))
def G3 (p0 : i0) (p1 : Int) : Option (i0) := (Y0 p0 p1 N0 0 ([] : i0)).bind (fun y17 => some y17)
def I3 (p0 : i0) (p1 : Int) : Option (i0) := (if (decide (((p0.length : Nat) : Int) = 0)) = true then some ([] : i0) else (grd (((p0.length : Nat) : Int) ≠ 0)).bind fun _ => (grd (((p0.length : Nat) : Int) ≠ 0)).bind fun _ => (B00 p0 (Int.tmod (IntKind.i64.wrap ((Int.tmod p1 ((p0.length : Nat) : Int)) + ((p0.length : Nat) : Int))) ((p0.length : Nat) : Int)) (p0.length : Int)).bind fun x8 => (B00 p0 0 (Int.tmod (IntKind.i64.wrap ((Int.tmod p1 ((p0.length : Nat) : Int)) + ((p0.length : Nat) : Int))) ((p0.length : Nat) : Int))).bind fun x9 => (S4 x8).bind fun x10 => (grd ((x10.length + x9.length) * 8 ≤ 140737488355328)).bind fun _ => some (x10 ++ x9))
end Go.Proofs.Ytknoadmdnjaocaa
namespace Go.Proofs.Ytknoadmdnjaocaa
open Go.H
set_option linter.unusedVariables false
set_option linter.unusedSimpArgs false
set_option maxRecDepth 10000
def L7 (p0 : i0) (p1 : Int) : Nat → Int → Option ((Bool) ⊕ (Unit))
 | 0, _ => none
 | fuel + 1, u2 => (if (decide (u2 < ((p0.length : Nat) : Int))) = true then (gi p0 u2).bind fun x6 => (if (decide (x6 = p1)) = true then some (.inl true) else (L7 p0 p1 fuel (IntKind.i64.wrap (u2 + 1)))) else some (.inr ()))
def N8 (p0 : i0) (p1 : Int) : Option (Bool) := (L7 p0 p1 N0 0).bind fun X10 => r8 X10 (fun _ => some false)
end Go.Proofs.Ytknoadmdnjaocaa
namespace Go.Proofs.Ytknoadmdnjaocaa
open Go.H
set_option linter.unusedVariables false
set_option linter.unusedSimpArgs false
set_option maxRecDepth 10000
def o6 (p0 : Int) : Nat → Int → (List Int) → Option ((List Int))
 | 0, _, _ => none
 | fuel + 1, u2, u3 => (if (decide (u2 ≤ p0)) = true then (grd ((u3.length + [u2].length) * 8 ≤ 140737488355328)).bind fun _ => (grd (((u3 ++ [u2]).length + ([(IntKind.i64.wrap (0 - u2))]).length) * 8 ≤ 140737488355328)).bind fun _ => (o6 p0 fuel (IntKind.i64.wrap (u2 + 1)) ((u3 ++ [u2]) ++ [(IntKind.i64.wrap (0 - u2))])) else some (u3))
def o9 (p0 : Int) : Option (i0) := (o6 p0 N0 1 ([] : i0)).bind (fun y14 => some y14)
end Go.Proofs.Ytknoadmdnjaocaa
namespace Go.Proofs.Ytknoadmdnjaocaa
open Go.H
set_option linter.unusedVariables false
set_option linter.unusedSimpArgs false
set_option maxRecDepth 10000
def E2 (p1 : i0) (p0 : Q6) : Nat → Int → (List Int) → Option ((List Int))
 | 0, _, _ => none
 | fuel + 1, u2, u3 => (if (bif (decide (u2 < ((p1.length : Nat) : Int))) then (decide (u2 < 200)) else false) = true then (gi p1 u2).bind fun x7 => (chk (decide (x7 > 0)) (gi p1 u2) 0).bind fun x8 => (if (bif (decide (x7 > 0)) then (decide (x8 ≤ ((p0.length : Nat) : Int))) else false) = true then (gi p1 u2).bind fun x10 => (gi p0 (IntKind.i64.wrap (x10 - 1))).bind fun x11 => (grd ((u3.length + x11.length) * 8 ≤ 140737488355328)).bind fun _ => (E2 p1 p0 fuel (IntKind.i64.wrap (u2 + 1)) (u3 ++ x11)) else (gi p1 u2).bind fun x14 => (chk (decide (x14 < 0)) (gi p1 u2) 0).bind fun x15 => (if (bif (decide (x14 < 0)) then (decide (x15 ≥ (IntKind.i64.wrap (0 - ((p0.length : Nat) : Int))))) else false) = true then (gi p1 u2).bind fun x17 => (gi p0 (IntKind.i64.wrap ((IntKind.i64.wrap (0 - x17)) - 1))).bind fun x18 => (G4 x18).bind fun x19 => (grd ((u3.length + x19.length) * 8 ≤ 140737488355328)).bind fun _ => (E2 p1 p0 fuel (IntKind.i64.wrap (u2 + 1)) (u3 ++ x19)) else (E2 p1 p0 fuel (IntKind.i64.wrap (u2 + 1)) u3))) else some (u3))
def c7 (p0 : Q6) (p1 : i0) : Option (i0) := (E2 p1 p0 N0 0 ([] : i0)).bind (fun y32 => (j3 y32).bind fun x37 => some x37)
end Go.Proofs.Ytknoadmdnjaocaa
namespace Go.Proofs.Ytknoadmdnjaocaa
open Go.H
set_option linter.unusedVariables false
set_option linter.unusedSimpArgs false
set_option maxRecDepth 10000
def E3 : Nat → i0 → (List Int) → Option (i0 × (List Int))
 | 0, _, _ => none
 | fuel + 1, u5, u6 => (chk (decide (((u5.length : Nat) : Int) > 1)) (gi u5 0) 0).bind fun x9 => (chk (decide (((u5.length : Nat) : Int) > 1)) (gi u5 (IntKind.i64.wrap (((u5.length : Nat) : Int) - 1))) 0).bind fun x10 => (chk (bif (decide (((u5.length : Nat) : Int) > 1)) then (decide (x9 = (IntKind.i64.wrap (0 - x10)))) else false) (gi u5 0) 0).bind fun x11 => (chk (bif (decide (((u5.length : Nat) : Int) > 1)) then (decide (x9 = (IntKind.i64.wrap (0 - x10)))) else false) (gi u5 0) 0).bind fun x12 => (if (bif (bif (decide (((u5.length : Nat) : Int) > 1)) then (decide (x9 = (IntKind.i64.wrap (0 - x10)))) else false) then (!decide (x11 = (IntKind.i64.wrap (0 - x12)))) else false) = true then (gi u5 0).bind fun x14 => (grd ((u6.length + [x14].length) * 8 ≤ 140737488355328)).bind fun _ => (B00 u5 1 (IntKind.i64.wrap (((u5.length : Nat) : Int) - 1))).bind fun x16 => (E3 fuel x16 (u6 ++ [x14])) else some (u5, u6))
def H4 (p0 : i0) : Option (i0 × i0) := (j3 p0).bind fun x1 => (E3 N0 x1 ([] : i0)).bind (fun S40 => match S40 with | (y28, y29) => (grd ((([] : i0).length + y28.length) * 8 ≤ 140737488355328)).bind fun _ => some ((([] : i0) ++ y28), y29))
def T4 (x1_0 : i0) (x1_1 : i0) : Nat → Int → Option ((i0 × Int) ⊕ (Unit))
 | 0, _ => none
 | fuel + 1, u5 => (if (decide (u5 ≤ ((x1_0.length : Nat) : Int))) = true then (grd (u5 ≠ 0)).bind fun q11 => (chk (decide ((Int.tmod ((x1_0.length : Nat) : Int) u5) = 0)) (G3 x1_0 u5) []).bind fun x16 => (chk (decide ((Int.tmod ((x1_0.length : Nat) : Int) u5) = 0)) (J5 x16 x1_0) false).bind fun x19 => (if (bif (decide ((Int.tmod ((x1_0.length : Nat) : Int) u5) = 0)) then x19 else false) = true then (B00 x1_0 0 u5).bind fun x26 => (Z3 x1_1 x26).bind fun x29 => (G4 x1_1).bind fun x33 => (Z3 x29 x33).bind fun x36 => (grd (u5 ≠ 0)).bind fun q43 => some (.inl (x36, (IntKind.i64.wrap (Int.tdiv ((x1_0.length : Nat) : Int) u5)))) else (T4 x1_0 x1_1 fuel (IntKind.i64.wrap (u5 + 1)))) else some (.inr ()))
def g8 (p0 : i0) : Option (i0 × Int) := (H4 p0).bind fun x1 => match x1 with | (x1_0, x1_1) => (T4 x1_0 x1_1 N0 1).bind fun X66 => r8 X66 (fun _ => some (([] : i0), 0))
def J1 (p0 : i0) : Nat → i0 → Int → Int → Option (i0 × Int)
 | 0, _, _, _ => none
 | fuel + 1, u8, u9, u10 => (if (decide (u10 < ((p0.length : Nat) : Int))) = true then (G3 p0 u10).bind fun x14 => (L4 x14 u8).bind fun x17 => (grd (D0 x17)).bind fun _ => (if (decide (x17 < 0)) = true then (J1 p0 fuel x14 u10 (IntKind.i64.wrap (u10 + 1))) else (J1 p0 fuel u8 u9 (IntKind.i64.wrap (u10 + 1)))) else some (u8, u9))
def C5 (p0 : i0) : Option (i0 × Int) := (grd ((([] : i0).length + p0.length) * 8 ≤ 140737488355328)).bind fun _ => (J1 p0 N0 (([] : i0) ++ p0) 0 1).bind (fun S23 => match S23 with | (y21, y22) => some (y21, y22))
def I4 (p0 : i0) : Option (i0) := (H4 p0).bind fun x1 => match x1 with | (x1_0, x1_1) => (C5 x1_0).bind fun x4 => match x4 with | (x4_0, x4_1) => (grd (D0 x4_1)).bind fun _ => some x4_0
def W5 (p0 : Int) : Option (Int) := (if (decide (p0 < 0)) = true then some (IntKind.i64.wrap (0 - p0)) else some p0)
def N3 (u18 : (List Int)) (u32 : Int) : Nat → Int → Int → (List Int) → Option (Int × (List Int))
 | 0, _, _, _ => none
 | fuel + 1, u42, u43, u44 => (some u18.length).bind fun m47 => (grd (m47 ≤ 9223372036854775807)).bind fun _ => (if (decide (u42 < ((m47 : Nat) : Int))) = true then (grd (0 ≤ u42)).bind fun _ => (if (decide ((IntKind.i64.wrap ((BitVec.ofInt 64 (Int.fdiv u32 (2 ^ min (u42).toNat 64)) &&& BitVec.ofInt 64 1).toNat : Int)) = 1)) = true then (gi u18 u42).bind fun x52 => (grd ((u44.length + [x52].length) * 8 ≤ 140737488355328)).bind fun _ => (N3 u18 u32 fuel (IntKind.i64.wrap (u42 + 1)) u43 (u44 ++ [x52])) else (N3 u18 u32 fuel (IntKind.i64.wrap (u42 + 1)) u43 u44)) else some (u43, u44))
def W4 (u18 : (List Int)) (x7 : i0) (u11 : Int) : Nat → Int → (List z0) → Option ((List z0))
 | 0, _, _ => none
 | fuel + 1, u32, u33 => (some u18.length).bind fun m36 => (grd (m36 ≤ 9223372036854775807)).bind fun _ => (grd (0 ≤ ((m36 : Nat) : Int))).bind fun _ => (if (decide (u32 < (IntKind.i64.wrap (1 * 2 ^ min (((m36 : Nat) : Int)).toNat 64)))) = true then (gi x7 u11).bind fun x40 => (N3 u18 u32 N0 0 x40 ([] : i0)).bind (fun S71 => match S71 with | (y64, y65) => (grd ((u33.length + ([(y64, y65)]).length) * 32 ≤ 140737488355328)).bind fun _ => (W4 u18 x7 u11 fuel (IntKind.i64.wrap (u32 + 1)) (u33 ++ [(y64, y65)]))) else some (u33))
def O3 (x7 : i0) (u11 : Int) : Nat → Int → (List Int) → Option ((List Int))
 | 0, _, _ => none
 | fuel + 1, u17, u18 => (if (decide (u17 < ((x7.length : Nat) : Int))) = true then (gi x7 u17).bind fun x22 => (W5 x22).bind fun x23 => (grd (D0 x23)).bind fun _ => (gi x7 u11).bind fun x25 => (W5 x25).bind fun x26 => (grd (D0 x26)).bind fun _ => (if (!decide (x23 = x26)) = true then (gi x7 u17).bind fun x29 => (grd ((u18.length + [x29].length) * 8 ≤ 140737488355328)).bind fun _ => (O3 x7 u11 fuel (IntKind.i64.wrap (u17 + 1)) (u18 ++ [x29])) else (O3 x7 u11 fuel (IntKind.i64.wrap (u17 + 1)) u18)) else some (u18))
def Y4 (x7 : i0) : Nat → Int → (List z0) → Option ((List z0))
 | 0, _, _ => none
 | fuel + 1, u11, u12 => (if (decide (u11 < ((x7.length : Nat) : Int))) = true then (O3 x7 u11 N0 0 ([] : i0)).bind (fun y78 => (W4 y78 x7 u11 N0 0 u12).bind (fun y122 => (Y4 x7 fuel (IntKind.i64.wrap (u11 + 1)) y122))) else some (u12))
def C2 (p0 : Int) : Option (F0) := (Y3 p0 1 3).bind fun x1 => (if (!x1) = true then some ([] : F0) else (o9 p0).bind fun x7 => (Y4 x7 N0 0 ([] : F0)).bind (fun y132 => some y132))
def z9 (p0 : Int) : Option (Int) := (if (decide (p0 < 0)) = true then some (IntKind.i64.wrap ((IntKind.i64.wrap ((-2) * p0)) - 1)) else some (IntKind.i64.wrap ((IntKind.i64.wrap (2 * p0)) - 2)))
def D5 (p1_1 : i0) (p0 : Int) (p1_0 : Int) : Nat → Int → Option ((Bool) ⊕ (Unit))
 | 0, _ => none
 | fuel + 1, u2 => (if (decide (u2 < ((p1_1.length : Nat) : Int))) = true then (gi p1_1 u2).bind fun x6 => (chk (!(decide (x6 = 0))) (Y3 x6 (IntKind.i64.wrap (0 - p0)) p0) false).bind fun x7 => (chk (!(bif (decide (x6 = 0)) then true else (!x7))) (W5 x6) 0).bind fun x8 => (grd (D0 x8)).bind fun _ => (chk (!(bif (decide (x6 = 0)) then true else (!x7))) (W5 p1_0) 0).bind fun x10 => (grd (D0 x10)).bind fun _ => (chk ((decide (u2 > 0)) && (!(bif (bif (decide (x6 = 0)) then true else (!x7)) then true else (decide (x8 = x10))))) (gi p1_1 (IntKind.i64.wrap (u2 - 1))) 0).bind fun x12 => (chk ((decide (u2 > 0)) && (!(bif (bif (decide (x6 = 0)) then true else (!x7)) then true else (decide (x8 = x10))))) (z9 x12) 0).bind fun x13 => (grd (D0 x13)).bind fun _ => (chk ((decide (u2 > 0)) && (!(bif (bif (decide (x6 = 0)) then true else (!x7)) then true else (decide (x8 = x10))))) (z9 x6) 0).bind fun x15 => (grd (D0 x15)).bind fun _ => (if (bif (bif (bif (decide (x6 = 0)) then true else (!x7)) then true else (decide (x8 = x10))) then true else (bif (decide (u2 > 0)) then (decide (x13 ≥ x15)) else false)) = true then some (.inl false) else (D5 p1_1 p0 p1_0 fuel (IntKind.i64.wrap (u2 + 1)))) else some (.inr ()))
def t8 (p0 : Int) (p1 : z0) : Option (Bool) := match p1 with | (p1_0, p1_1) => (D5 p1_1 p0 p1_0 N0 0).bind fun X24 => r8 X24 (fun _ => (Y3 p0 1 3).bind fun x21 => (chk (bif x21 then (!decide (p1_0 = 0)) else false) (Y3 p1_0 (IntKind.i64.wrap (0 - p0)) p0) false).bind fun x22 => some (bif (bif x21 then (!decide (p1_0 = 0)) else false) then x22 else false))
def j1 (p0 : Int) (p1_1 : i0) (p1_0 : Int) : Nat → Int → Int → (List i0) → Option (Int × (List i0))
 | 0, _, _, _ => none
 | fuel + 1, u4, u5, u6 => (if (decide (u4 ≤ p0)) = true then (N8 p1_1 (IntKind.i64.wrap (0 - u4))).bind fun x10 => (if x10 = true then (grd ((([] : i0).length + ([(IntKind.i64.wrap (0 - p1_0))]).length) * 8 ≤ 140737488355328)).bind fun _ => (grd (((([] : i0) ++ [(IntKind.i64.wrap (0 - p1_0))]).length + [u4].length) * 8 ≤ 140737488355328)).bind fun _ => (N8 p1_1 u4).bind fun x14 => (if x14 = true then (grd ((((([] : i0) ++ [(IntKind.i64.wrap (0 - p1_0))]) ++ [u4]).length + [p1_0].length) * 8 ≤ 140737488355328)).bind fun _ => (grd ((u6.length + ([(((([] : i0) ++ [(IntKind.i64.wrap (0 - p1_0))]) ++ [u4]) ++ [p1_0])]).length) * 24 ≤ 140737488355328)).bind fun _ => (j1 p0 p1_1 p1_0 fuel (IntKind.i64.wrap (u4 + 1)) u5 (u6 ++ [(((([] : i0) ++ [(IntKind.i64.wrap (0 - p1_0))]) ++ [u4]) ++ [p1_0])])) else (grd ((u6.length + ([((([] : i0) ++ [(IntKind.i64.wrap (0 - p1_0))]) ++ [u4])]).length) * 24 ≤ 140737488355328)).bind fun _ => (j1 p0 p1_1 p1_0 fuel (IntKind.i64.wrap (u4 + 1)) u5 (u6 ++ [((([] : i0) ++ [(IntKind.i64.wrap (0 - p1_0))]) ++ [u4])]))) else (grd ((([] : i0).length + [u4].length) * 8 ≤ 140737488355328)).bind fun _ => (N8 p1_1 u4).bind fun x28 => (if x28 = true then (grd (((([] : i0) ++ [u4]).length + [p1_0].length) * 8 ≤ 140737488355328)).bind fun _ => (grd ((u6.length + ([((([] : i0) ++ [u4]) ++ [p1_0])]).length) * 24 ≤ 140737488355328)).bind fun _ => (j1 p0 p1_1 p1_0 fuel (IntKind.i64.wrap (u4 + 1)) u5 (u6 ++ [((([] : i0) ++ [u4]) ++ [p1_0])])) else (grd ((u6.length + ([(([] : i0) ++ [u4])]).length) * 24 ≤ 140737488355328)).bind fun _ => (j1 p0 p1_1 p1_0 fuel (IntKind.i64.wrap (u4 + 1)) u5 (u6 ++ [(([] : i0) ++ [u4])])))) else some (u5, u6))
def L1 (p0 : Int) (p1 : z0) : Option (i9 × Bool) := match p1 with | (p1_0, p1_1) => (t8 p0 (p1_0, p1_1)).bind fun x1 => (if (!x1) = true then some ((0, []), false) else (j1 p0 p1_1 p1_0 N0 1 p0 ([] : Q6)).bind (fun S52 => match S52 with | (y46, y47) => some ((y46, y47), true)))
def E6 (p0 : Int) (p1 : z0) (p2 : i0) : Option (i0) := match p1 with | (p1_0, p1_1) => (L1 p0 (p1_0, p1_1)).bind fun x1 => match x1 with | (x1_0, x1_1) => match x1_0 with | (x1_0_0, x1_0_1) => (c7 x1_0_1 p2).bind fun x4 => (I4 x4).bind fun x7 => some x7
def U1 (x6 : F0) (p0 : Int) (x3 : i0) : Nat → Int → Option ((z0 × Bool) ⊕ (Unit))
 | 0, _ => none
 | fuel + 1, u10 => (if (decide (u10 < ((x6.length : Nat) : Int))) = true then (gi x6 u10).bind fun x14 => match x14 with | (x14_0, x14_1) => (E6 p0 (x14_0, x14_1) x3).bind fun x15 => (if (decide (((x15.length : Nat) : Int) < ((x3.length : Nat) : Int))) = true then (gi x6 u10).bind fun x19 => match x19 with | (x19_0, x19_1) => some (.inl ((x19_0, x19_1), true)) else (U1 x6 p0 x3 fuel (IntKind.i64.wrap (u10 + 1)))) else some (.inr ()))
def E5 (p0 : Int) (p1 : i0) : Option (z0 × Bool) := (w4 p0 p1).bind fun x1 => (if (!x1) = true then some ((0, []), false) else (I4 p1).bind fun x3 => (C2 p0).bind fun x6 => (U1 x6 p0 x3 N0 0).bind fun X22 => r8 X22 (fun _ => some ((0, []), false)))
def Z1 (p0 : Int) : Nat → i0 → Int → (List z0) → Option ((i0 × F0) ⊕ (i0 × (List z0)))
 | 0, _, _, _ => none
 | fuel + 1, u15, u16, u17 => (if (decide (u16 < 24)) = true then (E5 p0 u15).bind fun x21 => match x21 with | (x21_0, x21_1) => match x21_0 with | (x21_0_0, x21_0_1) => (if (!x21_1) = true then some (.inl (u15, u17)) else (E6 p0 (x21_0_0, x21_0_1) u15).bind fun x29 => (grd ((u17.length + ([(x21_0_0, x21_0_1)]).length) * 32 ≤ 140737488355328)).bind fun _ => (Z1 p0 fuel x29 (IntKind.i64.wrap (u16 + 1)) (u17 ++ [(x21_0_0, x21_0_1)]))) else some (.inr (u15, u17)))
def N4 (p0 : Int) (p1 : i0) : Option (i0 × F0) := (w4 p0 p1).bind fun x1 => (if (!x1) = true then some (([] : i0), ([] : F0)) else (I4 p1).bind fun x11 => (Z1 p0 N0 x11 0 ([] : F0)).bind fun X45 => r8 X45 (fun S44 => match S44 with | (y38, y39) => some (y38, y39)))
def p6 (p0 : Int) (p1 : i0) : Option (Int) := (N4 p0 p1).bind fun x1 => match x1 with | (x1_0, x1_1) => (w4 p0 p1).bind fun x4 => (if (!x4) = true then some (-1) else some ((x1_0.length : Nat) : Int))
def r6 (p0 : Int) (p1 : i0) : Option (Bool) := (N4 p0 p1).bind fun x1 => match x1 with | (x1_0, x1_1) => (w4 p0 p1).bind fun x4 => some (bif x4 then (decide (((x1_0.length : Nat) : Int) = 1)) else false)
def D1 (p1 : i0) (p0 : Int) : Nat → Int → (List Int) → Option ((List Int))
 | 0, _, _ => none
 | fuel + 1, u9, u10 => (if (decide (u9 < ((p1.length : Nat) : Int))) = true then (gi p1 u9).bind fun x14 => (chk (!decide (x14 = 0)) (gi p1 u9) 0).bind fun x15 => (chk (!decide (x14 = 0)) (Y3 x15 (IntKind.i64.wrap (0 - p0)) p0) false).bind fun x16 => (if (bif (!decide (x14 = 0)) then x16 else false) = true then (gi p1 u9).bind fun x18 => (W5 x18).bind fun x19 => (grd (D0 x19)).bind fun _ => (gi p1 u9).bind fun x21 => (if (decide (x21 > 0)) = true then (gi u10 (IntKind.i64.wrap (x19 - 1))).bind fun x23 => (gi u10 (IntKind.i64.wrap (x19 - 1))).bind fun x24 => (D1 p1 p0 fuel (IntKind.i64.wrap (u9 + 1)) (u10.set (IntKind.i64.wrap (x19 - 1)).toNat (IntKind.i64.wrap (x23 + 1)))) else (gi u10 (IntKind.i64.wrap (x19 - 1))).bind fun x25 => (gi u10 (IntKind.i64.wrap (x19 - 1))).bind fun x26 => (D1 p1 p0 fuel (IntKind.i64.wrap (u9 + 1)) (u10.set (IntKind.i64.wrap (x19 - 1)).toNat (IntKind.i64.wrap (x25 - 1))))) else (D1 p1 p0 fuel (IntKind.i64.wrap (u9 + 1)) u10)) else some (u10))
def Q5 (p0 : Int) (p1 : i0) : Option (i0) := (Y3 p0 1 3).bind fun x1 => (if (!x1) = true then some ([] : i0) else (grd ((0 : Int) ≤ p0 ∧ p0 ≤ p0 ∧ p0 * 8 ≤ 140737488355328 ∧ p0 ≤ 9223372036854775807)).bind fun _ => (D1 p1 p0 N0 0 (List.replicate p0.toNat (0 : Int))).bind (fun y32 => some y32))
def d4 (p0 : i0) : Nat → Int → Option ((Bool) ⊕ (Unit))
 | 0, _ => none
 | fuel + 1, u2 => (if (decide (u2 < ((p0.length : Nat) : Int))) = true then (gi p0 u2).bind fun x6 => (if (!decide (x6 = 0)) = true then some (.inl false) else (d4 p0 fuel (IntKind.i64.wrap (u2 + 1)))) else some (.inr ()))
def O8 (p0 : i0) : Option (Bool) := (d4 p0 N0 0).bind fun X10 => r8 X10 (fun _ => some true)
def U6 (p0 : Int) (p1 : i0) : Option (Bool) := (w4 p0 p1).bind fun x1 => (chk x1 (Q5 p0 p1) []).bind fun x4 => (chk x1 (O8 x4) false).bind fun x7 => some (bif x1 then x7 else false)
end Go.Proofs.Ytknoadmdnjaocaa
namespace Go.Proofs.Ytknoadmdnjaocaa
open Go.H
set_option linter.unusedVariables false
set_option linter.unusedSimpArgs false
set_option maxRecDepth 10000
def V6 (p0 : Int) : Nat → Int → (List Int) → Option ((List Int))
 | 0, _, _ => none
 | fuel + 1, u2, u3 => (if (decide (u2 ≤ p0)) = true then (grd ((u3.length + ([u2, (IntKind.i64.wrap (0 - u2))]).length) * 8 ≤ 140737488355328)).bind fun _ => (V6 p0 fuel (IntKind.i64.wrap (u2 + 1)) (u3 ++ [u2, (IntKind.i64.wrap (0 - u2))])) else some (u3))
def P8 (p0 : Int) : Option (i0) := (V6 p0 N0 1 ([] : i0)).bind (fun y13 => some y13)
end Go.Proofs.Ytknoadmdnjaocaa
namespace Go.Proofs.Ytknoadmdnjaocaa
open Go.H
set_option linter.unusedVariables false
set_option linter.unusedSimpArgs false
set_option maxRecDepth 10000
def G2 (x1 : i0) (p0 : Q6) : Nat → Int → (List i0) → Option ((List i0))
 | 0, _, _ => none
 | fuel + 1, u3, u4 => (if (decide (u3 < ((x1.length : Nat) : Int))) = true then (gi x1 u3).bind fun x8 => (D2 x8 1 ((p0.length : Nat) : Int)).bind fun x9 => (if x9 = true then (gi p0 (IntKind.i64.wrap (x8 - 1))).bind fun x11 => (grd ((u4.length + [x11].length) * 24 ≤ 140737488355328)).bind fun _ => (G2 x1 p0 fuel (IntKind.i64.wrap (u3 + 1)) (u4 ++ [x11])) else (D2 x8 (IntKind.i64.wrap (0 - ((p0.length : Nat) : Int))) (-1)).bind fun x13 => (if x13 = true then (gi p0 (IntKind.i64.wrap ((IntKind.i64.wrap (0 - x8)) - 1))).bind fun x15 => (I5 x15).bind fun x16 => (grd ((u4.length + [x16].length) * 24 ≤ 140737488355328)).bind fun _ => (G2 x1 p0 fuel (IntKind.i64.wrap (u3 + 1)) (u4 ++ [x16])) else (G2 x1 p0 fuel (IntKind.i64.wrap (u3 + 1)) u4))) else some (u4))
def d7 (p0 : Q6) (p1 : i0) : Option (i0) := (B00 p1 0 (if 200 < ((p1.length : Nat) : Int) then 200 else ((p1.length : Nat) : Int))).bind fun x1 => (G2 x1 p0 N0 0 ([] : Q6)).bind (fun y28 => (l6 y28).bind fun x33 => some x33)
end Go.Proofs.Ytknoadmdnjaocaa
namespace Go.Proofs.Ytknoadmdnjaocaa
open Go.H
set_option linter.unusedVariables false
set_option linter.unusedSimpArgs false
set_option maxRecDepth 10000
def O2 (x1 : i0) : Nat → Int → Int → Option (Int × Int)
 | 0, _, _ => none
 | fuel + 1, u5, u6 => (chk (decide ((IntKind.i64.wrap (u6 - u5)) ≥ 2)) (gi x1 u5) 0).bind fun x9 => (chk (decide ((IntKind.i64.wrap (u6 - u5)) ≥ 2)) (gi x1 (IntKind.i64.wrap (u6 - 1))) 0).bind fun x10 => (chk (decide ((IntKind.i64.wrap (u6 - u5)) ≥ 2)) (F4 x9 x10) false).bind fun x11 => (if (bif (decide ((IntKind.i64.wrap (u6 - u5)) ≥ 2)) then x11 else false) = true then (O2 x1 fuel (IntKind.i64.wrap (u5 + 1)) (IntKind.i64.wrap (u6 - 1))) else some (u5, u6))
def J3 (p0 : i0) : Option (i0 × i0) := (s5 p0).bind fun x1 => (O2 x1 N0 0 ((x1.length : Nat) : Int)).bind (fun S72 => match S72 with | (y42, y43) => (B00 x1 y42 y43).bind fun x44 => (S4 x44).bind fun x47 => (B00 x1 0 y42).bind fun x51 => (S4 x51).bind fun x54 => some (x47, x54))
def U4 (x1_0 : i0) (x1_1 : i0) : Nat → Int → Option ((i0 × Int) ⊕ (Unit))
 | 0, _ => none
 | fuel + 1, u5 => (if (decide (u5 ≤ ((x1_0.length : Nat) : Int))) = true then (grd (u5 ≠ 0)).bind fun q9 => (chk (decide ((Int.tmod ((x1_0.length : Nat) : Int) u5) = 0)) (I3 x1_0 u5) []).bind fun x14 => (chk (decide ((Int.tmod ((x1_0.length : Nat) : Int) u5) = 0)) (I6 x14 x1_0) false).bind fun x17 => (if (bif (decide ((Int.tmod ((x1_0.length : Nat) : Int) u5) = 0)) then x17 else false) = true then (B00 x1_0 0 u5).bind fun x24 => (I5 x1_1).bind fun x27 => (some [x1_1, x24, x27]).bind fun x30 => (l6 x30).bind fun x35 => (grd (u5 ≠ 0)).bind fun q39 => some (.inl (x35, (IntKind.i64.wrap (Int.tdiv ((x1_0.length : Nat) : Int) u5)))) else (U4 x1_0 x1_1 fuel (IntKind.i64.wrap (u5 + 1)))) else some (.inr ()))
def i8 (p0 : i0) : Option (i0 × Int) := (J3 p0).bind fun x1 => match x1 with | (x1_0, x1_1) => (U4 x1_0 x1_1 N0 1).bind fun X62 => r8 X62 (fun _ => some (([] : i0), 0))
def K1 (p0 : i0) : Nat → i0 → Int → Int → Option (i0 × Int)
 | 0, _, _, _ => none
 | fuel + 1, u5, u6, u7 => (if (decide (u7 < ((p0.length : Nat) : Int))) = true then (I3 p0 u7).bind fun x11 => (P5 x11 u5).bind fun x14 => (grd (D0 x14)).bind fun _ => (if (decide (x14 < 0)) = true then (K1 p0 fuel x11 u7 (IntKind.i64.wrap (u7 + 1))) else (K1 p0 fuel u5 u6 (IntKind.i64.wrap (u7 + 1)))) else some (u5, u6))
def F5 (p0 : i0) : Option (i0 × Int) := (S4 p0).bind fun x1 => (K1 p0 N0 x1 0 1).bind (fun S20 => match S20 with | (y18, y19) => some (y18, y19))
def K5 (p0 : i0) : Option (i0) := (J3 p0).bind fun x1 => match x1 with | (x1_0, x1_1) => (F5 x1_0).bind fun x4 => match x4 with | (x4_0, x4_1) => (grd (D0 x4_1)).bind fun _ => some x4_0
def P3 (m38 : Nat) (u22 : (List Int)) (u30 : Int) : Nat → Int → Int → (List Int) → Option (Int × (List Int))
 | 0, _, _, _ => none
 | fuel + 1, u41, u42, u43 => (if (decide (u41 < ((m38 : Nat) : Int))) = true then (gi u22 u41).bind fun x47 => (grd (0 ≤ u41)).bind fun _ => (if (decide ((IntKind.i64.wrap ((BitVec.ofInt 64 (Int.fdiv u30 (2 ^ min (u41).toNat 64)) &&& BitVec.ofInt 64 1).toNat : Int)) = 1)) = true then (grd ((u43.length + [x47].length) * 8 ≤ 140737488355328)).bind fun _ => (P3 m38 u22 u30 fuel (IntKind.i64.wrap (u41 + 1)) u42 (u43 ++ [x47])) else (P3 m38 u22 u30 fuel (IntKind.i64.wrap (u41 + 1)) u42 u43)) else some (u42, u43))
def Z4 (u22 : (List Int)) (x16 : Int) : Nat → Int → (List z0) → Option ((List z0))
 | 0, _, _ => none
 | fuel + 1, u30, u31 => (some u22.length).bind fun m34 => (grd (m34 ≤ 9223372036854775807)).bind fun _ => (grd (0 ≤ ((m34 : Nat) : Int))).bind fun _ => (if (decide (u30 < (IntKind.i64.wrap (1 * 2 ^ min (((m34 : Nat) : Int)).toNat 64)))) = true then (some u22.length).bind fun m38 => (grd (m38 ≤ 9223372036854775807)).bind fun _ => (P3 m38 u22 u30 N0 0 x16 ([] : i0)).bind (fun S64 => match S64 with | (y57, y58) => (grd ((u31.length + ([(y57, y58)]).length) * 32 ≤ 140737488355328)).bind fun _ => (Z4 u22 x16 fuel (IntKind.i64.wrap (u30 + 1)) (u31 ++ [(y57, y58)]))) else some (u31))
def Q3 (x17 : i0) (x16 : Int) : Nat → Int → (List Int) → Option ((List Int))
 | 0, _, _ => none
 | fuel + 1, u21, u22 => (if (decide (u21 < ((x17.length : Nat) : Int))) = true then (gi x17 u21).bind fun x26 => (if (bif (!decide (x26 = x16)) then (!decide (x26 = (IntKind.i64.wrap (0 - x16)))) else false) = true then (grd ((u22.length + [x26].length) * 8 ≤ 140737488355328)).bind fun _ => (Q3 x17 x16 fuel (IntKind.i64.wrap (u21 + 1)) (u22 ++ [x26])) else (Q3 x17 x16 fuel (IntKind.i64.wrap (u21 + 1)) u22)) else some (u22))
def c5 (x7 : i0) (p0 : Int) : Nat → Int → (List z0) → Option ((List z0))
 | 0, _, _ => none
 | fuel + 1, u11, u12 => (if (decide (u11 < ((x7.length : Nat) : Int))) = true then (gi x7 u11).bind fun x16 => (P8 p0).bind fun x17 => (Q3 x17 x16 N0 0 ([] : i0)).bind (fun y71 => (Z4 y71 x16 N0 0 u12).bind (fun y110 => (c5 x7 p0 fuel (IntKind.i64.wrap (u11 + 1)) y110))) else some (u12))
def R5 (p0 : Int) : Option (F0) := (D2 p0 1 3).bind fun x1 => (if (!x1) = true then some ([] : F0) else (P8 p0).bind fun x7 => (c5 x7 p0 N0 0 ([] : F0)).bind (fun y120 => some y120))
def G5 (p1_1 : i0) (p0 : Int) (p1_0 : Int) : Nat → Int → Option ((Bool) ⊕ (Unit))
 | 0, _ => none
 | fuel + 1, u5 => (if (decide (u5 < ((p1_1.length : Nat) : Int))) = true then (gi p1_1 u5).bind fun x9 => (M5 p0 x9).bind fun x10 => (chk ((decide (u5 > 0)) && (!(bif (bif (!x10) then true else (decide (x9 = p1_0))) then true else (decide (x9 = (IntKind.i64.wrap (0 - p1_0))))))) (gi p1_1 (IntKind.i64.wrap (u5 - 1))) 0).bind fun x11 => (chk ((decide (u5 > 0)) && (!(bif (bif (!x10) then true else (decide (x9 = p1_0))) then true else (decide (x9 = (IntKind.i64.wrap (0 - p1_0))))))) (L3 x11 x9) 0).bind fun x12 => (grd (D0 x12)).bind fun _ => (if (bif (bif (bif (!x10) then true else (decide (x9 = p1_0))) then true else (decide (x9 = (IntKind.i64.wrap (0 - p1_0))))) then true else (bif (decide (u5 > 0)) then (decide (x12 ≥ 0)) else false)) = true then some (.inl false) else (G5 p1_1 p0 p1_0 fuel (IntKind.i64.wrap (u5 + 1)))) else some (.inr ()))
def w8 (p0 : Int) (p1 : z0) : Option (Bool) := match p1 with | (p1_0, p1_1) => (D2 p0 1 3).bind fun x1 => (chk (!(!x1)) (M5 p0 p1_0) false).bind fun x2 => (if (bif (!x1) then true else (!x2)) = true then some false else (G5 p1_1 p0 p1_0 N0 0).bind fun X17 => r8 X17 (fun _ => some true))
def V2 (p0 : i0) (p1 : Int) : Nat → Int → Option ((Int) ⊕ (Unit))
 | 0, _ => none
 | fuel + 1, u2 => (if (decide (u2 < ((p0.length : Nat) : Int))) = true then (gi p0 u2).bind fun x6 => (if (decide (p1 = x6)) = true then some (.inl u2) else (V2 p0 p1 fuel (IntKind.i64.wrap (u2 + 1)))) else some (.inr ()))
def C6 (p0 : i0) (p1 : Int) : Option (Int) := (V2 p0 p1 N0 0).bind fun X10 => r8 X10 (fun _ => some (-1))
def M2 (p0 : i0) (p1 : Int) : Option (Bool) := (C6 p0 p1).bind fun x1 => (grd (D0 x1)).bind fun _ => some (decide (x1 ≥ 0))
def C1 (p0 : Int) (p1_1 : i0) (p1_0 : Int) : Nat → Int → Int → (List i0) → Option (Int × (List i0))
 | 0, _, _, _ => none
 | fuel + 1, u4, u5, u6 => (if (decide (u4 ≤ p0)) = true then (M2 p1_1 (IntKind.i64.wrap (0 - u4))).bind fun x10 => (if x10 = true then (grd ((([] : i0).length + ([(IntKind.i64.wrap (0 - p1_0))]).length) * 8 ≤ 140737488355328)).bind fun _ => (grd (((([] : i0) ++ [(IntKind.i64.wrap (0 - p1_0))]).length + [u4].length) * 8 ≤ 140737488355328)).bind fun _ => (M2 p1_1 u4).bind fun x14 => (if x14 = true then (grd ((((([] : i0) ++ [(IntKind.i64.wrap (0 - p1_0))]) ++ [u4]).length + [p1_0].length) * 8 ≤ 140737488355328)).bind fun _ => (grd ((u6.length + ([(((([] : i0) ++ [(IntKind.i64.wrap (0 - p1_0))]) ++ [u4]) ++ [p1_0])]).length) * 24 ≤ 140737488355328)).bind fun _ => (C1 p0 p1_1 p1_0 fuel (IntKind.i64.wrap (u4 + 1)) u5 (u6 ++ [(((([] : i0) ++ [(IntKind.i64.wrap (0 - p1_0))]) ++ [u4]) ++ [p1_0])])) else (grd ((u6.length + ([((([] : i0) ++ [(IntKind.i64.wrap (0 - p1_0))]) ++ [u4])]).length) * 24 ≤ 140737488355328)).bind fun _ => (C1 p0 p1_1 p1_0 fuel (IntKind.i64.wrap (u4 + 1)) u5 (u6 ++ [((([] : i0) ++ [(IntKind.i64.wrap (0 - p1_0))]) ++ [u4])]))) else (grd ((([] : i0).length + [u4].length) * 8 ≤ 140737488355328)).bind fun _ => (M2 p1_1 u4).bind fun x28 => (if x28 = true then (grd (((([] : i0) ++ [u4]).length + [p1_0].length) * 8 ≤ 140737488355328)).bind fun _ => (grd ((u6.length + ([((([] : i0) ++ [u4]) ++ [p1_0])]).length) * 24 ≤ 140737488355328)).bind fun _ => (C1 p0 p1_1 p1_0 fuel (IntKind.i64.wrap (u4 + 1)) u5 (u6 ++ [((([] : i0) ++ [u4]) ++ [p1_0])])) else (grd ((u6.length + ([(([] : i0) ++ [u4])]).length) * 24 ≤ 140737488355328)).bind fun _ => (C1 p0 p1_1 p1_0 fuel (IntKind.i64.wrap (u4 + 1)) u5 (u6 ++ [(([] : i0) ++ [u4])])))) else some (u5, u6))
def T3 (p0 : Int) (p1 : z0) : Option (i9 × Bool) := match p1 with | (p1_0, p1_1) => (w8 p0 (p1_0, p1_1)).bind fun x1 => (if (!x1) = true then some ((0, []), false) else (C1 p0 p1_1 p1_0 N0 1 p0 ([] : Q6)).bind (fun S52 => match S52 with | (y46, y47) => some ((y46, y47), true)))
def S5 (p0 : i0) : Option (Int) := (J3 p0).bind fun x1 => match x1 with | (x1_0, x1_1) => some ((x1_0.length : Nat) : Int)
def i4 (x1 : F0) (p0 : Int) (p1 : i0) : Nat → Int → Option ((z0 × i0 × Bool) ⊕ (Unit))
 | 0, _ => none
 | fuel + 1, u5 => (if (decide (u5 < ((x1.length : Nat) : Int))) = true then (gi x1 u5).bind fun x9 => match x9 with | (x9_0, x9_1) => (T3 p0 (x9_0, x9_1)).bind fun x10 => match x10 with | (x10_0, x10_1) => match x10_0 with | (x10_0_0, x10_0_1) => (d7 x10_0_1 p1).bind fun x13 => (S5 x13).bind fun x16 => (grd (D0 x16)).bind fun _ => (if (decide (x16 < ((p1.length : Nat) : Int))) = true then (K5 x13).bind fun x19 => some (.inl ((x9_0, x9_1), x19, true)) else (i4 x1 p0 p1 fuel (IntKind.i64.wrap (u5 + 1)))) else some (.inr ()))
def M7 (p0 : Int) (p1 : i0) : Option (z0 × i0 × Bool) := (R5 p0).bind fun x1 => (i4 x1 p0 p1 N0 0).bind fun X32 => r8 X32 (fun _ => some ((0, []), ([] : i0), false))
def j2 (p0 : Int) : Nat → i0 → (List z0) → Option (i0 × (List z0))
 | 0, _, _ => none
 | fuel + 1, u15, u16 => (some u16.length).bind fun m19 => (grd (m19 ≤ 9223372036854775807)).bind fun _ => (if (decide (((m19 : Nat) : Int) < 24)) = true then (M7 p0 u15).bind fun x22 => match x22 with | (x22_0, x22_1, x22_2) => match x22_0 with | (x22_0_0, x22_0_1) => (if (!x22_2) = true then some (u15, u16) else (grd ((u16.length + ([(x22_0_0, x22_0_1)]).length) * 32 ≤ 140737488355328)).bind fun _ => (j2 p0 fuel x22_1 (u16 ++ [(x22_0_0, x22_0_1)]))) else some (u15, u16))
def O4 (p0 : Int) (p1 : i0) : Option (i0 × F0) := (V5 p0 p1).bind fun x1 => (if (!x1) = true then some (([] : i0), ([] : F0)) else (K5 p1).bind fun x11 => (j2 p0 N0 x11 ([] : F0)).bind (fun S42 => match S42 with | (y36, y37) => some (y36, y37)))
def t6 (p0 : Int) (p1 : i0) : Option (Int) := (V5 p0 p1).bind fun x1 => (if (!x1) = true then some (-1) else (O4 p0 p1).bind fun x3 => match x3 with | (x3_0, x3_1) => some ((x3_0.length : Nat) : Int))
def w6 (p0 : Int) (p1 : i0) : Option (Bool) := (O4 p0 p1).bind fun x1 => match x1 with | (x1_0, x1_1) => some (decide (((x1_0.length : Nat) : Int) = 1))
def E1 (p1 : i0) (p0 : Int) : Nat → Int → (List Int) → Option ((List Int))
 | 0, _, _ => none
 | fuel + 1, u9, u10 => (if (decide (u9 < ((p1.length : Nat) : Int))) = true then (gi p1 u9).bind fun x14 => (D2 x14 1 p0).bind fun x15 => (if x15 = true then (gi u10 (IntKind.i64.wrap (x14 - 1))).bind fun x17 => (gi u10 (IntKind.i64.wrap (x14 - 1))).bind fun x18 => (E1 p1 p0 fuel (IntKind.i64.wrap (u9 + 1)) (u10.set (IntKind.i64.wrap (x14 - 1)).toNat (IntKind.i64.wrap (x17 + 1)))) else (D2 x14 (IntKind.i64.wrap (0 - p0)) (-1)).bind fun x19 => (if x19 = true then (gi u10 (IntKind.i64.wrap ((IntKind.i64.wrap (0 - x14)) - 1))).bind fun x21 => (gi u10 (IntKind.i64.wrap ((IntKind.i64.wrap (0 - x14)) - 1))).bind fun x22 => (E1 p1 p0 fuel (IntKind.i64.wrap (u9 + 1)) (u10.set (IntKind.i64.wrap ((IntKind.i64.wrap (0 - x14)) - 1)).toNat (IntKind.i64.wrap (x21 - 1)))) else (E1 p1 p0 fuel (IntKind.i64.wrap (u9 + 1)) u10))) else some (u10))
def T5 (p0 : Int) (p1 : i0) : Option (i0) := (D2 p0 1 3).bind fun x1 => (if (!x1) = true then some ([] : i0) else (grd ((0 : Int) ≤ p0 ∧ p0 ≤ p0 ∧ p0 * 8 ≤ 140737488355328 ∧ p0 ≤ 9223372036854775807)).bind fun _ => (E1 p1 p0 N0 0 (List.replicate p0.toNat (0 : Int))).bind (fun y28 => some y28))
def w3 (x3 : i0) : Nat → Int → Option ((Bool) ⊕ (Unit))
 | 0, _ => none
 | fuel + 1, u7 => (if (decide (u7 < ((x3.length : Nat) : Int))) = true then (gi x3 u7).bind fun x11 => (if (!decide (x11 = 0)) = true then some (.inl false) else (w3 x3 fuel (IntKind.i64.wrap (u7 + 1)))) else some (.inr ()))
def X5 (p0 : Int) (p1 : i0) : Option (Bool) := (V5 p0 p1).bind fun x1 => (if (!x1) = true then some false else (T5 p0 p1).bind fun x3 => (w3 x3 N0 0).bind fun X15 => r8 X15 (fun _ => some true))
end Go.Proofs.Ytknoadmdnjaocaa
namespace Go.Proofs.Ytknoadmdnjaocaa
open Go.H
set_option linter.unusedVariables false
set_option linter.unusedSimpArgs false
set_option maxRecDepth 10000
def V1 : Nat → Int → ByteArray → Option (ByteArray)
 | 0, _, _ => none
 | fuel + 1, u3, u4 => (if (!decide (u3 = 0)) = true then (grd (10 ≠ 0)).bind fun _ => (if (decide ((Int.tmod u3 10) < 0)) = true then (grd ([(IntKind.u8.wrap (IntKind.i64.wrap (48 + (IntKind.i64.wrap (0 - (Int.tmod u3 10))))))].length ≤ 9223372036854775807)).bind fun _ => (grd ((strOfNums [(IntKind.u8.wrap (IntKind.i64.wrap (48 + (IntKind.i64.wrap (0 - (Int.tmod u3 10))))))]).size + u4.size ≤ 9223372036854775807)).bind fun _ => (grd (10 ≠ 0)).bind fun _ => (V1 fuel (IntKind.i64.wrap (Int.tdiv u3 10)) ((strOfNums [(IntKind.u8.wrap (IntKind.i64.wrap (48 + (IntKind.i64.wrap (0 - (Int.tmod u3 10))))))]) ++ u4)) else (grd ([(IntKind.u8.wrap (IntKind.i64.wrap (48 + (Int.tmod u3 10))))].length ≤ 9223372036854775807)).bind fun _ => (grd ((strOfNums [(IntKind.u8.wrap (IntKind.i64.wrap (48 + (Int.tmod u3 10))))]).size + u4.size ≤ 9223372036854775807)).bind fun _ => (grd (10 ≠ 0)).bind fun _ => (V1 fuel (IntKind.i64.wrap (Int.tdiv u3 10)) ((strOfNums [(IntKind.u8.wrap (IntKind.i64.wrap (48 + (Int.tmod u3 10))))]) ++ u4))) else some (u4))
def Y5 (p0 : Int) : Option (ByteArray) := (if (decide (p0 = 0)) = true then some (⟨#[48]⟩ : ByteArray) else (V1 N0 p0 (⟨#[]⟩ : ByteArray)).bind (fun y19 => (if (decide (p0 < 0)) = true then (grd ((⟨#[45]⟩ : ByteArray).size + y19.size ≤ 9223372036854775807)).bind fun _ => some ((⟨#[45]⟩ : ByteArray) ++ y19) else some y19)))
def g7 (p0 : Int) : Option (Bool) := (chk (!decide (p0 = 0)) (Y3 p0 (-3) 3) false).bind fun x1 => some (bif (!decide (p0 = 0)) then x1 else false)
def A9 (p0 : Int) : Option (ByteArray) := (if (decide (p0 < 0)) = true then (gi [(⟨#[65]⟩ : ByteArray), (⟨#[66]⟩ : ByteArray), (⟨#[67]⟩ : ByteArray)] (IntKind.i64.wrap ((IntKind.i64.wrap (0 - p0)) - 1))).bind fun x2 => some x2 else (gi [(⟨#[97]⟩ : ByteArray), (⟨#[98]⟩ : ByteArray), (⟨#[99]⟩ : ByteArray)] (IntKind.i64.wrap (p0 - 1))).bind fun x3 => some x3)
def P2 (p0 : i0) : Nat → ByteArray → Int → Option ((ByteArray) ⊕ (ByteArray))
 | 0, _, _ => none
 | fuel + 1, u2, u3 => (if (decide (u3 < ((p0.length : Nat) : Int))) = true then (gi p0 u3).bind fun x7 => (g7 x7).bind fun x8 => (if (!x8) = true then some (.inl (⟨#[]⟩ : ByteArray)) else (gi p0 u3).bind fun x10 => (A9 x10).bind fun x11 => (grd (x11.size ≤ 9223372036854775807)).bind fun _ => (grd (u2.size + x11.size ≤ 9223372036854775807)).bind fun _ => (P2 p0 fuel (u2 ++ x11) (IntKind.i64.wrap (u3 + 1)))) else some (.inr (u2)))
def M1 (p0 : i0) : Option (ByteArray) := (P2 p0 N0 (⟨#[]⟩ : ByteArray) 0).bind fun X19 => r8 X19 (fun y16 => (if (d0a y16 (⟨#[]⟩ : ByteArray)) = true then some (⟨#[49]⟩ : ByteArray) else some y16))
def G1 : Nat → Int → Int → (List Int) → Option ((List Int))
 | 0, _, _, _ => none
 | fuel + 1, u19, u20, u21 => (if (decide (u19 < u20)) = true then (gi u21 u20).bind fun x25 => (gi u21 u19).bind fun x30 => (gi u21 u19).bind fun x35 => (gi (u21.set u19.toNat x25) u20).bind fun x36 => (G1 fuel (IntKind.i64.wrap (u19 + 1)) (IntKind.i64.wrap (u20 - 1)) ((u21.set u19.toNat x25).set u20.toNat x30)) else some (u21))
def Y1 : Nat → Int → (List Int) → Option ((List Int))
 | 0, _, _ => none
 | fuel + 1, u3, u4 => (if (!decide (u3 = 0)) = true then (grd (10 ≠ 0)).bind fun _ => (if (decide ((Int.tmod u3 10) < 0)) = true then (grd ((u4.length + ([(IntKind.u8.wrap (IntKind.i64.wrap (48 + (IntKind.i64.wrap (0 - (Int.tmod u3 10))))))]).length) * 1 ≤ 140737488355328)).bind fun _ => (grd (10 ≠ 0)).bind fun _ => (Y1 fuel (IntKind.i64.wrap (Int.tdiv u3 10)) (u4 ++ [(IntKind.u8.wrap (IntKind.i64.wrap (48 + (IntKind.i64.wrap (0 - (Int.tmod u3 10))))))])) else (grd ((u4.length + ([(IntKind.u8.wrap (IntKind.i64.wrap (48 + (Int.tmod u3 10))))]).length) * 1 ≤ 140737488355328)).bind fun _ => (grd (10 ≠ 0)).bind fun _ => (Y1 fuel (IntKind.i64.wrap (Int.tdiv u3 10)) (u4 ++ [(IntKind.u8.wrap (IntKind.i64.wrap (48 + (Int.tmod u3 10))))]))) else some (u4))
def Z5 (p0 : Int) : Option (ByteArray) := (if (decide (p0 = 0)) = true then some (⟨#[48]⟩ : ByteArray) else (Y1 N0 p0 ([] : (List Int))).bind (fun y71 => (if (decide (p0 < 0)) = true then (grd ((y71.length + [45].length) * 1 ≤ 140737488355328)).bind fun _ => (some (y71 ++ [45]).length).bind fun m74 => (grd (m74 ≤ 9223372036854775807)).bind fun _ => (G1 N0 0 (IntKind.i64.wrap (((m74 : Nat) : Int) - 1)) (y71 ++ [45])).bind (fun y97 => (grd (y97.length ≤ 9223372036854775807)).bind fun _ => some (strOfNums y97)) else (some y71.length).bind fun m101 => (grd (m101 ≤ 9223372036854775807)).bind fun _ => (G1 N0 0 (IntKind.i64.wrap (((m101 : Nat) : Int) - 1)) y71).bind (fun y124 => (grd (y124.length ≤ 9223372036854775807)).bind fun _ => some (strOfNums y124)))))
def J6 (p0 : Int) : Option (ByteArray) := (D2 p0 1 3).bind fun x1 => (if x1 = true then (grd ((0 : Int) ≤ (IntKind.i64.wrap (p0 - 1)) ∧ (IntKind.i64.wrap (p0 - 1)) ≤ p0 ∧ p0 ≤ ((⟨#[97, 98, 99]⟩ : ByteArray).size : Int))).bind fun _ => some ((⟨#[97, 98, 99]⟩ : ByteArray).extract ((IntKind.i64.wrap (p0 - 1)) : Int).toNat (p0 : Int).toNat) else (D2 p0 (-3) (-1)).bind fun x4 => (if x4 = true then (grd ((0 : Int) ≤ (IntKind.i64.wrap ((IntKind.i64.wrap (0 - p0)) - 1)) ∧ (IntKind.i64.wrap ((IntKind.i64.wrap (0 - p0)) - 1)) ≤ (IntKind.i64.wrap (0 - p0)) ∧ (IntKind.i64.wrap (0 - p0)) ≤ ((⟨#[65, 66, 67]⟩ : ByteArray).size : Int))).bind fun _ => some ((⟨#[65, 66, 67]⟩ : ByteArray).extract ((IntKind.i64.wrap ((IntKind.i64.wrap (0 - p0)) - 1)) : Int).toNat ((IntKind.i64.wrap (0 - p0)) : Int).toNat) else some (⟨#[]⟩ : ByteArray)))
def Q2 (p0 : i0) : Nat → ByteArray → Int → Option ((ByteArray) ⊕ (ByteArray))
 | 0, _, _ => none
 | fuel + 1, u3, u4 => (if (decide (u4 < ((p0.length : Nat) : Int))) = true then (gi p0 u4).bind fun x8 => (J6 x8).bind fun x9 => (grd (x9.size ≤ 9223372036854775807)).bind fun _ => (if (d0a x9 (⟨#[]⟩ : ByteArray)) = true then some (.inl (⟨#[]⟩ : ByteArray)) else (grd (u3.size + x9.size ≤ 9223372036854775807)).bind fun _ => (Q2 p0 fuel (u3 ++ x9) (IntKind.i64.wrap (u4 + 1)))) else some (.inr (u3)))
def N1 (p0 : i0) : Option (ByteArray) := (if (decide (((p0.length : Nat) : Int) = 0)) = true then some (⟨#[49]⟩ : ByteArray) else (Q2 p0 N0 (⟨#[]⟩ : ByteArray) 0).bind fun X16 => r8 X16 (fun y14 => some y14))
def H5 (x3 : (List ByteArray)) (p1 : ByteArray) : Nat → ByteArray → Int → Option (ByteArray)
 | 0, _, _ => none
 | fuel + 1, u5, u6 => (if (decide (u6 < ((x3.length : Nat) : Int))) = true then (gi x3 u6).bind fun x10 => (grd (u5.size + p1.size ≤ 9223372036854775807)).bind fun _ => (grd ((u5 ++ p1).size + x10.size ≤ 9223372036854775807)).bind fun _ => (H5 x3 p1 fuel ((u5 ++ p1) ++ x10) (IntKind.i64.wrap (u6 + 1))) else some (u5))
def R8 (p0 : (List ByteArray)) (p1 : ByteArray) (p2 : ByteArray) : Option (ByteArray) := (if (decide (((p0.length : Nat) : Int) = 0)) = true then some p2 else (gi p0 0).bind fun x2 => (B00 p0 1 (p0.length : Int)).bind fun x3 => (H5 x3 p1 N0 x2 0).bind (fun y14 => some y14))
end Go.Proofs.Ytknoadmdnjaocaa
namespace Go.Proofs.Ytknoadmdnjaocaa
open Go.H
set_option linter.unusedVariables false
set_option linter.unusedSimpArgs false
set_option maxRecDepth 10000
def K6 (p0 : (List ByteArray)) : Option (ByteArray) := (R8 p0 (⟨#[32]⟩ : ByteArray) (⟨#[]⟩ : ByteArray)).bind fun x1 => (grd (x1.size ≤ 9223372036854775807)).bind fun _ => some x1
end Go.Proofs.Ytknoadmdnjaocaa
namespace Go.Proofs.Ytknoadmdnjaocaa
open Go.H
set_option linter.unusedVariables false
set_option linter.unusedSimpArgs false
set_option maxRecDepth 10000
def n7 (p0 : Bool) (p1 : ByteArray) : Option (ByteArray) := (if p0 = true then some p1 else some (⟨#[]⟩ : ByteArray))
end Go.Proofs.Ytknoadmdnjaocaa
namespace Go.Proofs.Ytknoadmdnjaocaa
open Go.H
set_option linter.unusedVariables false
set_option linter.unusedSimpArgs false
set_option maxRecDepth 10000
def i7 (p0 : Int) (p1 : i0) : Option (ByteArray) := (w4 p0 p1).bind fun x1 => (if (!x1) = true then some (⟨#[]⟩ : ByteArray) else (H4 p1).bind fun x3 => match x3 with | (x3_0, x3_1) => (g8 p1).bind fun x6 => match x6 with | (x6_0, x6_1) => (grd (D0 x6_1)).bind fun _ => (M1 p1).bind fun x10 => (grd (x10.size ≤ 9223372036854775807)).bind fun _ => (grd (x10.size + (⟨#[32, 99, 111, 114, 101, 32]⟩ : ByteArray).size ≤ 9223372036854775807)).bind fun _ => (M1 x3_0).bind fun x13 => (grd (x13.size ≤ 9223372036854775807)).bind fun _ => (grd ((x10 ++ (⟨#[32, 99, 111, 114, 101, 32]⟩ : ByteArray)).size + x13.size ≤ 9223372036854775807)).bind fun _ => (grd (((x10 ++ (⟨#[32, 99, 111, 114, 101, 32]⟩ : ByteArray)) ++ x13).size + (⟨#[32, 98, 121, 32]⟩ : ByteArray).size ≤ 9223372036854775807)).bind fun _ => (M1 x3_1).bind fun x17 => (grd (x17.size ≤ 9223372036854775807)).bind fun _ => (grd ((((x10 ++ (⟨#[32, 99, 111, 114, 101, 32]⟩ : ByteArray)) ++ x13) ++ (⟨#[32, 98, 121, 32]⟩ : ByteArray)).size + x17.size ≤ 9223372036854775807)).bind fun _ => (grd (((((x10 ++ (⟨#[32, 99, 111, 114, 101, 32]⟩ : ByteArray)) ++ x13) ++ (⟨#[32, 98, 121, 32]⟩ : ByteArray)) ++ x17).size + (⟨#[32, 114, 111, 111, 116, 32]⟩ : ByteArray).size ≤ 9223372036854775807)).bind fun _ => (M1 x6_0).bind fun x21 => (grd (x21.size ≤ 9223372036854775807)).bind fun _ => (grd ((((((x10 ++ (⟨#[32, 99, 111, 114, 101, 32]⟩ : ByteArray)) ++ x13) ++ (⟨#[32, 98, 121, 32]⟩ : ByteArray)) ++ x17) ++ (⟨#[32, 114, 111, 111, 116, 32]⟩ : ByteArray)).size + x21.size ≤ 9223372036854775807)).bind fun _ => (grd (((((((x10 ++ (⟨#[32, 99, 111, 114, 101, 32]⟩ : ByteArray)) ++ x13) ++ (⟨#[32, 98, 121, 32]⟩ : ByteArray)) ++ x17) ++ (⟨#[32, 114, 111, 111, 116, 32]⟩ : ByteArray)) ++ x21).size + (⟨#[32, 116, 111, 32]⟩ : ByteArray).size ≤ 9223372036854775807)).bind fun _ => (Y5 x6_1).bind fun x25 => (grd (x25.size ≤ 9223372036854775807)).bind fun _ => (grd ((((((((x10 ++ (⟨#[32, 99, 111, 114, 101, 32]⟩ : ByteArray)) ++ x13) ++ (⟨#[32, 98, 121, 32]⟩ : ByteArray)) ++ x17) ++ (⟨#[32, 114, 111, 111, 116, 32]⟩ : ByteArray)) ++ x21) ++ (⟨#[32, 116, 111, 32]⟩ : ByteArray)).size + x25.size ≤ 9223372036854775807)).bind fun _ => (grd (((((((((x10 ++ (⟨#[32, 99, 111, 114, 101, 32]⟩ : ByteArray)) ++ x13) ++ (⟨#[32, 98, 121, 32]⟩ : ByteArray)) ++ x17) ++ (⟨#[32, 114, 111, 111, 116, 32]⟩ : ByteArray)) ++ x21) ++ (⟨#[32, 116, 111, 32]⟩ : ByteArray)) ++ x25).size + (⟨#[32, 115, 104, 111, 114, 116, 101, 115, 116, 32]⟩ : ByteArray).size ≤ 9223372036854775807)).bind fun _ => (p6 p0 p1).bind fun x29 => (grd (D0 x29)).bind fun _ => (Y5 x29).bind fun x31 => (grd (x31.size ≤ 9223372036854775807)).bind fun _ => (grd ((((((((((x10 ++ (⟨#[32, 99, 111, 114, 101, 32]⟩ : ByteArray)) ++ x13) ++ (⟨#[32, 98, 121, 32]⟩ : ByteArray)) ++ x17) ++ (⟨#[32, 114, 111, 111, 116, 32]⟩ : ByteArray)) ++ x21) ++ (⟨#[32, 116, 111, 32]⟩ : ByteArray)) ++ x25) ++ (⟨#[32, 115, 104, 111, 114, 116, 101, 115, 116, 32]⟩ : ByteArray)).size + x31.size ≤ 9223372036854775807)).bind fun _ => (r6 p0 p1).bind fun x34 => (n7 x34 (⟨#[32, 112, 114, 105, 109, 105, 116, 105, 118, 101]⟩ : ByteArray)).bind fun x35 => (grd (x35.size ≤ 9223372036854775807)).bind fun _ => (grd (((((((((((x10 ++ (⟨#[32, 99, 111, 114, 101, 32]⟩ : ByteArray)) ++ x13) ++ (⟨#[32, 98, 121, 32]⟩ : ByteArray)) ++ x17) ++ (⟨#[32, 114, 111, 111, 116, 32]⟩ : ByteArray)) ++ x21) ++ (⟨#[32, 116, 111, 32]⟩ : ByteArray)) ++ x25) ++ (⟨#[32, 115, 104, 111, 114, 116, 101, 115, 116, 32]⟩ : ByteArray)) ++ x31).size + x35.size ≤ 9223372036854775807)).bind fun _ => (U6 p0 p1).bind fun x38 => (n7 x38 (⟨#[32, 100, 101, 114, 105, 118, 101, 100]⟩ : ByteArray)).bind fun x39 => (grd (x39.size ≤ 9223372036854775807)).bind fun _ => (grd ((((((((((((x10 ++ (⟨#[32, 99, 111, 114, 101, 32]⟩ : ByteArray)) ++ x13) ++ (⟨#[32, 98, 121, 32]⟩ : ByteArray)) ++ x17) ++ (⟨#[32, 114, 111, 111, 116, 32]⟩ : ByteArray)) ++ x21) ++ (⟨#[32, 116, 111, 32]⟩ : ByteArray)) ++ x25) ++ (⟨#[32, 115, 104, 111, 114, 116, 101, 115, 116, 32]⟩ : ByteArray)) ++ x31) ++ x35).size + x39.size ≤ 9223372036854775807)).bind fun _ => some ((((((((((((x10 ++ (⟨#[32, 99, 111, 114, 101, 32]⟩ : ByteArray)) ++ x13) ++ (⟨#[32, 98, 121, 32]⟩ : ByteArray)) ++ x17) ++ (⟨#[32, 114, 111, 111, 116, 32]⟩ : ByteArray)) ++ x21) ++ (⟨#[32, 116, 111, 32]⟩ : ByteArray)) ++ x25) ++ (⟨#[32, 115, 104, 111, 114, 116, 101, 115, 116, 32]⟩ : ByteArray)) ++ x31) ++ x35) ++ x39))
end Go.Proofs.Ytknoadmdnjaocaa
namespace Go.Proofs.Ytknoadmdnjaocaa
open Go.H
set_option linter.unusedVariables false
set_option linter.unusedSimpArgs false
set_option maxRecDepth 10000
def j7 (p0 : Int) (p1 : i0) : Option (ByteArray) := (V5 p0 p1).bind fun x1 => (if (!x1) = true then some (⟨#[]⟩ : ByteArray) else (J3 p1).bind fun x3 => match x3 with | (x3_0, x3_1) => (i8 p1).bind fun x6 => match x6 with | (x6_0, x6_1) => (grd (D0 x6_1)).bind fun _ => (N1 p1).bind fun x10 => (grd (x10.size ≤ 9223372036854775807)).bind fun _ => (N1 x3_0).bind fun x12 => (grd (x12.size ≤ 9223372036854775807)).bind fun _ => (N1 x3_1).bind fun x14 => (grd (x14.size ≤ 9223372036854775807)).bind fun _ => (N1 x6_0).bind fun x16 => (grd (x16.size ≤ 9223372036854775807)).bind fun _ => (Z5 x6_1).bind fun x18 => (grd (x18.size ≤ 9223372036854775807)).bind fun _ => (t6 p0 p1).bind fun x20 => (grd (D0 x20)).bind fun _ => (Z5 x20).bind fun x22 => (grd (x22.size ≤ 9223372036854775807)).bind fun _ => (K6 ([x10, (⟨#[99, 111, 114, 101]⟩ : ByteArray), x12, (⟨#[98, 121]⟩ : ByteArray), x14, (⟨#[114, 111, 111, 116]⟩ : ByteArray), x16, (⟨#[116, 111]⟩ : ByteArray), x18, (⟨#[115, 104, 111, 114, 116, 101, 115, 116]⟩ : ByteArray), x22])).bind fun x28 => (grd (x28.size ≤ 9223372036854775807)).bind fun _ => (w6 p0 p1).bind fun x30 => (if x30 = true then (K6 ([x28, (⟨#[112, 114, 105, 109, 105, 116, 105, 118, 101]⟩ : ByteArray)])).bind fun x36 => (grd (x36.size ≤ 9223372036854775807)).bind fun _ => (X5 p0 p1).bind fun x38 => (if x38 = true then (K6 ([x36, (⟨#[100, 101, 114, 105, 118, 101, 100]⟩ : ByteArray)])).bind fun x44 => (grd (x44.size ≤ 9223372036854775807)).bind fun _ => some x44 else some x36) else (X5 p0 p1).bind fun x46 => (if x46 = true then (K6 ([x28, (⟨#[100, 101, 114, 105, 118, 101, 100]⟩ : ByteArray)])).bind fun x52 => (grd (x52.size ≤ 9223372036854775807)).bind fun _ => some x52 else some x28)))
end Go.Proofs.Ytknoadmdnjaocaa
