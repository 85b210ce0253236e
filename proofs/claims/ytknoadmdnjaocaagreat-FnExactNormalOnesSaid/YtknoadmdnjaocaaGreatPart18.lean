/- Texts of the claim, joined: What functions of the program compute, in plain words: batch 1; What functions of the program compute, in plain words: batch 4g; What functions of the program compute, in plain words: batch 9; What functions of the program compute, in plain words: batch g1; What functions of the program compute, in plain words: batch g2; What functions of the program compute, in plain words: batch g3; What functions of the program compute, in plain words: batch g4; What functions of the program compute, in plain words: batch h1; What functions of the program compute, in plain words: batch h3; What functions of the program compute, in plain words: batch i1; What functions of the program compute, in plain words: batch i2; What functions of the program compute, in plain words: batch b1; What functions of the program compute, in plain words: batch b2; What functions of the program compute, in plain words: batch m1; What functions of the program compute, in plain words: batch m2. -/
import Derived.Test.YtknoadmdnjaocaaGreatPart17
import Derived.Test.YtknoadmdnjaocaaGreatH36
namespace Go.Proofs.YtknoadmdnjaocaaGreat
open Go.H
set_option linter.unusedVariables false
set_option linter.unusedSimpArgs false
set_option maxRecDepth 10000
def d5 (p0 : Int) (p1 : Int) (p2 : Int) : Option (Bool) := some (bif (decide (p0 ≥ p1)) then (decide (p0 ≤ p2)) else false)
def d8 (p0 : Int) (p1 : Int) (p2 : Int) : Option (Bool) := some (bif (decide (p0 ≥ p1)) then (decide (p0 ≤ p2)) else false)
def F5 (p0 : Int) (p1 : Int) : Option (Int) := (if (decide (p0 < p1)) = true then some (-1) else (if (decide (p0 > p1)) = true then some 1 else some 0))
end Go.Proofs.YtknoadmdnjaocaaGreat
namespace Go.Proofs.YtknoadmdnjaocaaGreat
open Go.H
set_option linter.unusedVariables false
set_option linter.unusedSimpArgs false
set_option maxRecDepth 10000
def c00 (p0 : j0) (p1 : C0) : Option (Bool) := match p0 with | (p0_0, p0_1, p0_2) => match p1 with | (p1_0, p1_1, p1_2) => (d5 p1_0 0 (IntKind.i64.wrap (p0_1 - 1))).bind fun x1 => (chk x1 (d5 p1_2 0 (IntKind.i64.wrap (p0_1 - 1))) false).bind fun x2 => (chk (bif x1 then x2 else false) (d5 p1_1 1 p0_0) false).bind fun x3 => some (bif (bif x1 then x2 else false) then x3 else false)
def p5 (p0_0 : Int) (p0_1 : Int) (p0_2 : Int) (p1_0 : Int) (p1_1 : Int) (p1_2 : Int) : Nat → Int → Option ((Int) ⊕ (Unit))
 | 0, _ => none
 | fuel + 1, u2 => (if (decide (u2 < 3)) = true then (gi [p0_0, p0_1, p0_2] u2).bind fun x6 => (gi [p1_0, p1_1, p1_2] u2).bind fun x7 => (if (decide (x6 < x7)) = true then some (.inl (-1)) else (gi [p0_0, p0_1, p0_2] u2).bind fun x9 => (gi [p1_0, p1_1, p1_2] u2).bind fun x10 => (if (decide (x9 > x10)) = true then some (.inl 1) else (p5 p0_0 p0_1 p0_2 p1_0 p1_1 p1_2 fuel (IntKind.i64.wrap (u2 + 1))))) else some (.inr ()))
def j6 (p0 : C0) (p1 : C0) : Option (Int) := match p0 with | (p0_0, p0_1, p0_2) => match p1 with | (p1_0, p1_1, p1_2) => (p5 p0_0 p0_1 p0_2 p1_0 p1_1 p1_2 U0 0).bind fun X14 => l9 X14 (fun _ => some 0)
def H5 (p0_2 : I0) (p0_0 : Int) (p0_1 : Int) : Nat → Int → Option ((Bool) ⊕ (Unit))
 | 0, _ => none
 | fuel + 1, u2 => (if (decide (u2 < ((p0_2.length : Nat) : Int))) = true then (gi p0_2 u2).bind fun x6 => match x6 with | (x6_0, x6_1, x6_2) => (c00 (p0_0, p0_1, p0_2) (x6_0, x6_1, x6_2)).bind fun x7 => (chk ((decide (u2 > 0)) && (!(!x7))) (gi p0_2 (IntKind.i64.wrap (u2 - 1))) (0, 0, 0)).bind fun x8 => match x8 with | (x8_0, x8_1, x8_2) => (chk ((decide (u2 > 0)) && (!(!x7))) (gi p0_2 u2) (0, 0, 0)).bind fun x9 => match x9 with | (x9_0, x9_1, x9_2) => (chk ((decide (u2 > 0)) && (!(!x7))) (j6 (x8_0, x8_1, x8_2) (x9_0, x9_1, x9_2)) 0).bind fun x10 => (grd (N0 x10)).bind fun _ => (if (bif (!x7) then true else (bif (decide (u2 > 0)) then (decide (x10 ≥ 0)) else false)) = true then some (.inl false) else (H5 p0_2 p0_0 p0_1 fuel (IntKind.i64.wrap (u2 + 1)))) else some (.inr ()))
def C4 (p0 : j0) : Option (Bool) := match p0 with | (p0_0, p0_1, p0_2) => (H5 p0_2 p0_0 p0_1 U0 0).bind fun X19 => l9 X19 (fun _ => (d5 p0_0 1 3).bind fun x16 => (chk x16 (d5 p0_1 1 40) false).bind fun x17 => some (bif (bif x16 then x17 else false) then (decide (((p0_2.length : Nat) : Int) ≤ 120)) else false))
def D3 (p0 : j0) (p1 : Int) : Option (Bool) := match p0 with | (p0_0, p0_1, p0_2) => (d8 p1 0 (IntKind.i64.wrap (p0_1 - 1))).bind fun x1 => some x1
def S6 (p0 : j0) (p1 : C0) : Option (Bool) := match p0 with | (p0_0, p0_1, p0_2) => match p1 with | (p1_0, p1_1, p1_2) => (D3 (p0_0, p0_1, p0_2) p1_0).bind fun x1 => (chk x1 (D3 (p0_0, p0_1, p0_2) p1_2) false).bind fun x2 => (chk (bif x1 then x2 else false) (d8 p1_1 1 p0_0) false).bind fun x3 => some (bif (bif x1 then x2 else false) then x3 else false)
def n7 (p0 : C0) (p1 : C0) : Option (Int) := match p0 with | (p0_0, p0_1, p0_2) => match p1 with | (p1_0, p1_1, p1_2) => (F5 p0_0 p1_0).bind fun x1 => (grd (N0 x1)).bind fun _ => (if (!decide (x1 = 0)) = true then some x1 else (F5 p0_1 p1_1).bind fun x4 => (grd (N0 x4)).bind fun _ => (if (!decide (x4 = 0)) = true then some x4 else (F5 p0_2 p1_2).bind fun x7 => (grd (N0 x7)).bind fun _ => some x7))
def I5 (p0_2 : I0) (p0_0 : Int) (p0_1 : Int) : Nat → Int → Option ((Bool) ⊕ (Unit))
 | 0, _ => none
 | fuel + 1, u5 => (if (decide (u5 < ((p0_2.length : Nat) : Int))) = true then (gi p0_2 u5).bind fun x9 => match x9 with | (x9_0, x9_1, x9_2) => (S6 (p0_0, p0_1, p0_2) (x9_0, x9_1, x9_2)).bind fun x10 => (chk ((decide (u5 > 0)) && (!(!x10))) (gi p0_2 (IntKind.i64.wrap (u5 - 1))) (0, 0, 0)).bind fun x11 => match x11 with | (x11_0, x11_1, x11_2) => (chk ((decide (u5 > 0)) && (!(!x10))) (n7 (x11_0, x11_1, x11_2) (x9_0, x9_1, x9_2)) 0).bind fun x12 => (grd (N0 x12)).bind fun _ => (if (bif (!x10) then true else (bif (decide (u5 > 0)) then (decide (x12 ≥ 0)) else false)) = true then some (.inl false) else (I5 p0_2 p0_0 p0_1 fuel (IntKind.i64.wrap (u5 + 1)))) else some (.inr ()))
def T6 (p0 : j0) : Option (Bool) := match p0 with | (p0_0, p0_1, p0_2) => (d8 p0_0 1 3).bind fun x1 => (chk (!(!x1)) (d8 p0_1 1 40) false).bind fun x2 => (if (bif (bif (!x1) then true else (!x2)) then true else (decide (((p0_2.length : Nat) : Int) > 120))) = true then some false else (I5 p0_2 p0_0 p0_1 U0 0).bind fun X17 => l9 X17 (fun _ => some true))
end Go.Proofs.YtknoadmdnjaocaaGreat
namespace Go.Proofs.YtknoadmdnjaocaaGreat
open Go.H
set_option linter.unusedVariables false
set_option linter.unusedSimpArgs false
set_option maxRecDepth 10000
def I3 (p0 : D0) (p1 : Int) : Nat → Bool → Int → (List Int) → Option (Bool × (List Int))
 | 0, _, _, _ => none
 | fuel + 1, u2, u3, u4 => (if (decide (u3 < ((p0.length : Nat) : Int))) = true then (gi p0 u3).bind fun x8 => (if (decide (x8 = p1)) = true then (gi p0 u3).bind fun x10 => (if (bif (decide (x10 > p1)) then (!true) else false) = true then (grd ((u4.length + [p1].length) * 8 ≤ 140737488355328)).bind fun _ => (gi p0 u3).bind fun x13 => (grd (((u4 ++ [p1]).length + [x13].length) * 8 ≤ 140737488355328)).bind fun _ => (I3 p0 p1 fuel true (IntKind.i64.wrap (u3 + 1)) ((u4 ++ [p1]) ++ [x13])) else (gi p0 u3).bind fun x15 => (grd ((u4.length + [x15].length) * 8 ≤ 140737488355328)).bind fun _ => (I3 p0 p1 fuel true (IntKind.i64.wrap (u3 + 1)) (u4 ++ [x15]))) else (gi p0 u3).bind fun x17 => (if (bif (decide (x17 > p1)) then (!u2) else false) = true then (grd ((u4.length + [p1].length) * 8 ≤ 140737488355328)).bind fun _ => (gi p0 u3).bind fun x20 => (grd (((u4 ++ [p1]).length + [x20].length) * 8 ≤ 140737488355328)).bind fun _ => (I3 p0 p1 fuel true (IntKind.i64.wrap (u3 + 1)) ((u4 ++ [p1]) ++ [x20])) else (gi p0 u3).bind fun x22 => (grd ((u4.length + [x22].length) * 8 ≤ 140737488355328)).bind fun _ => (I3 p0 p1 fuel u2 (IntKind.i64.wrap (u3 + 1)) (u4 ++ [x22])))) else some (u2, u4))
def I6 (p0 : D0) (p1 : Int) : Option (D0) := (I3 p0 p1 U0 false 0 ([] : D0)).bind (fun S47 => match S47 with | (y35, y36) => (if (!y35) = true then (grd ((y36.length + [p1].length) * 8 ≤ 140737488355328)).bind fun _ => some (y36 ++ [p1]) else some y36))
def U6 (p0 : D0) (p1 : Int) : Nat → Int → Option ((Bool) ⊕ (Unit))
 | 0, _ => none
 | fuel + 1, u2 => (if (decide (u2 < ((p0.length : Nat) : Int))) = true then (gi p0 u2).bind fun x6 => (if (decide (x6 = p1)) = true then some (.inl true) else (U6 p0 p1 fuel (IntKind.i64.wrap (u2 + 1)))) else some (.inr ()))
def r7 (p0 : D0) (p1 : Int) : Option (Bool) := (U6 p0 p1 U0 0).bind fun X10 => l9 X10 (fun _ => some false)
def l3 (p0_2 : I0) (p2 : Int) (p1 : Int) : Nat → D0 → Int → Option (D0)
 | 0, _, _ => none
 | fuel + 1, u6, u7 => (if (decide (u7 < ((p0_2.length : Nat) : Int))) = true then (gi p0_2 u7).bind fun x11 => match x11 with | (x11_0, x11_1, x11_2) => (if (bif (bif (decide (p2 > 0)) then (decide (x11_1 = p2)) else false) then (decide (x11_0 = p1)) else false) = true then (I6 u6 x11_2).bind fun x13 => (if (bif (bif (decide (p2 < 0)) then (decide (x11_1 = (IntKind.i64.wrap (0 - p2)))) else false) then (decide (x11_2 = p1)) else false) = true then (I6 x13 x11_0).bind fun x17 => (l3 p0_2 p2 p1 fuel x17 (IntKind.i64.wrap (u7 + 1))) else (l3 p0_2 p2 p1 fuel x13 (IntKind.i64.wrap (u7 + 1)))) else (if (bif (bif (decide (p2 < 0)) then (decide (x11_1 = (IntKind.i64.wrap (0 - p2)))) else false) then (decide (x11_2 = p1)) else false) = true then (I6 u6 x11_0).bind fun x21 => (l3 p0_2 p2 p1 fuel x21 (IntKind.i64.wrap (u7 + 1))) else (l3 p0_2 p2 p1 fuel u6 (IntKind.i64.wrap (u7 + 1))))) else some (u6))
def h8 (p0 : j0) (p1 : Int) (p2 : Int) : Option (D0) := match p0 with | (p0_0, p0_1, p0_2) => (l3 p0_2 p2 p1 U0 ([] : D0) 0).bind (fun y25 => some y25)
def W5 (p0 : j0) (p1 : Int) (p2 : Int) : Option (Int) := match p0 with | (p0_0, p0_1, p0_2) => (h8 (p0_0, p0_1, p0_2) p1 p2).bind fun x1 => (if (decide (((x1.length : Nat) : Int) = 0)) = true then some (-1) else (gi x1 0).bind fun x5 => some x5)
def i5 (u2 : Int) (p0_2 : I0) : Nat → Int → Option ((Bool) ⊕ (Unit))
 | 0, _ => none
 | fuel + 1, u8 => (if (decide (u8 < u2)) = true then (gi p0_2 u2).bind fun x12 => match x12 with | (x12_0, x12_1, x12_2) => (gi p0_2 u8).bind fun x13 => match x13 with | (x13_0, x13_1, x13_2) => (if (bif (decide (x12_1 = x13_1)) then (bif (decide (x12_0 = x13_0)) then true else (decide (x12_2 = x13_2))) else false) = true then some (.inl false) else (i5 u2 p0_2 fuel (IntKind.i64.wrap (u8 + 1)))) else some (.inr ()))
def f4 (p0_2 : I0) (p0_0 : Int) (p0_1 : Int) : Nat → Int → Option ((Bool) ⊕ (Unit))
 | 0, _ => none
 | fuel + 1, u2 => (chk (decide (u2 < ((p0_2.length : Nat) : Int))) (C4 (p0_0, p0_1, p0_2)) false).bind fun x5 => (if (bif (decide (u2 < ((p0_2.length : Nat) : Int))) then x5 else false) = true then (i5 u2 p0_2 U0 0).bind fun X17 => s0h X17 (fun _ => (f4 p0_2 p0_0 p0_1 fuel (IntKind.i64.wrap (u2 + 1)))) else some (.inr ()))
def D5 (p0 : j0) : Option (Bool) := match p0 with | (p0_0, p0_1, p0_2) => (f4 p0_2 p0_0 p0_1 U0 0).bind fun X22 => l9 X22 (fun _ => (C4 (p0_0, p0_1, p0_2)).bind fun x20 => some x20)
def P3 (p0_2 : I0) (p2 : Int) (p1 : Int) : Nat → Int → (List Int) → Option ((List Int))
 | 0, _, _ => none
 | fuel + 1, u2, u3 => (if (decide (u2 < ((p0_2.length : Nat) : Int))) = true then (gi p0_2 u2).bind fun x7 => match x7 with | (x7_0, x7_1, x7_2) => (if (bif (bif (decide (p2 > 0)) then (decide (x7_1 = p2)) else false) then (decide (x7_0 = p1)) else false) = true then (grd ((u3.length + [x7_2].length) * 8 ≤ 140737488355328)).bind fun _ => (P3 p0_2 p2 p1 fuel (IntKind.i64.wrap (u2 + 1)) (u3 ++ [x7_2])) else (if (bif (bif (bif (decide (p2 < 0)) then (!decide (p2 = (-9223372036854775808))) else false) then (decide (x7_1 = (IntKind.i64.wrap (0 - p2)))) else false) then (decide (x7_2 = p1)) else false) = true then (grd ((u3.length + [x7_0].length) * 8 ≤ 140737488355328)).bind fun _ => (P3 p0_2 p2 p1 fuel (IntKind.i64.wrap (u2 + 1)) (u3 ++ [x7_0])) else (P3 p0_2 p2 p1 fuel (IntKind.i64.wrap (u2 + 1)) u3))) else some (u3))
def i8 (p0 : j0) (p1 : Int) (p2 : Int) : Option (D0) := match p0 with | (p0_0, p0_1, p0_2) => (P3 p0_2 p2 p1 U0 0 ([] : D0)).bind (fun y19 => (grd (y19.length < 4611686018427387904)).bind fun _ => some (K00 eqI (R02 g7 y19)))
def Y5 (p0 : j0) (p1 : Int) (p2 : Int) : Option (Int) := match p0 with | (p0_0, p0_1, p0_2) => (i8 (p0_0, p0_1, p0_2) p1 p2).bind fun x1 => (if (decide (((x1.length : Nat) : Int) = 0)) = true then some (-1) else (gi x1 0).bind fun x5 => some x5)
def j5 (x9 : I0) (x8_1 : Int) (x8_0 : Int) (x8_2 : Int) : Nat → Int → Option ((Bool) ⊕ (Unit))
 | 0, _ => none
 | fuel + 1, u11 => (if (decide (u11 < ((x9.length : Nat) : Int))) = true then (gi x9 u11).bind fun x15 => match x15 with | (x15_0, x15_1, x15_2) => (if (bif (decide (x8_1 = x15_1)) then (bif (decide (x8_0 = x15_0)) then true else (decide (x8_2 = x15_2))) else false) = true then some (.inl false) else (j5 x9 x8_1 x8_0 x8_2 fuel (IntKind.i64.wrap (u11 + 1)))) else some (.inr ()))
def l5 (p0_2 : I0) : Nat → Int → Option ((Bool) ⊕ (Unit))
 | 0, _ => none
 | fuel + 1, u4 => (if (decide (u4 < ((p0_2.length : Nat) : Int))) = true then (gi p0_2 u4).bind fun x8 => match x8 with | (x8_0, x8_1, x8_2) => (E05 p0_2 (IntKind.i64.wrap (u4 + 1)) (p0_2.length : Int)).bind fun x9 => (j5 x9 x8_1 x8_0 x8_2 U0 0).bind fun X19 => s0h X19 (fun _ => (l5 p0_2 fuel (IntKind.i64.wrap (u4 + 1)))) else some (.inr ()))
def S4 (p0 : j0) : Option (Bool) := match p0 with | (p0_0, p0_1, p0_2) => (T6 (p0_0, p0_1, p0_2)).bind fun x1 => (if (!x1) = true then some false else (l5 p0_2 U0 0).bind fun X22 => l9 X22 (fun _ => some true))
end Go.Proofs.YtknoadmdnjaocaaGreat
namespace Go.Proofs.YtknoadmdnjaocaaGreat
open Go.H
set_option linter.unusedVariables false
set_option linter.unusedSimpArgs false
set_option maxRecDepth 10000
def T4 (p0 : j0) : Option (j0) := match p0 with | (p0_0, p0_1, p0_2) => (grd ((([] : I0).length + p0_2.length) * 24 ≤ 140737488355328)).bind fun _ => some (p0_0, p0_1, (([] : I0) ++ p0_2))
def J3 (p0 : I0) (p1_0 : Int) (p1_1 : Int) (p1_2 : Int) : Nat → Bool → Int → (List C0) → Option (Bool × (List C0))
 | 0, _, _, _ => none
 | fuel + 1, u2, u3, u4 => (if (decide (u3 < ((p0.length : Nat) : Int))) = true then (gi p0 u3).bind fun x8 => match x8 with | (x8_0, x8_1, x8_2) => (j6 (p1_0, p1_1, p1_2) (x8_0, x8_1, x8_2)).bind fun x9 => (grd (N0 x9)).bind fun _ => (if (decide (x9 = 0)) = true then (if (bif (decide (x9 < 0)) then (!true) else false) = true then (grd ((u4.length + ([(p1_0, p1_1, p1_2)]).length) * 24 ≤ 140737488355328)).bind fun _ => (gi p0 u3).bind fun x14 => match x14 with | (x14_0, x14_1, x14_2) => (grd (((u4 ++ [(p1_0, p1_1, p1_2)]).length + ([(x14_0, x14_1, x14_2)]).length) * 24 ≤ 140737488355328)).bind fun _ => (J3 p0 p1_0 p1_1 p1_2 fuel true (IntKind.i64.wrap (u3 + 1)) ((u4 ++ [(p1_0, p1_1, p1_2)]) ++ [(x14_0, x14_1, x14_2)])) else (gi p0 u3).bind fun x16 => match x16 with | (x16_0, x16_1, x16_2) => (grd ((u4.length + ([(x16_0, x16_1, x16_2)]).length) * 24 ≤ 140737488355328)).bind fun _ => (J3 p0 p1_0 p1_1 p1_2 fuel true (IntKind.i64.wrap (u3 + 1)) (u4 ++ [(x16_0, x16_1, x16_2)]))) else (if (bif (decide (x9 < 0)) then (!u2) else false) = true then (grd ((u4.length + ([(p1_0, p1_1, p1_2)]).length) * 24 ≤ 140737488355328)).bind fun _ => (gi p0 u3).bind fun x20 => match x20 with | (x20_0, x20_1, x20_2) => (grd (((u4 ++ [(p1_0, p1_1, p1_2)]).length + ([(x20_0, x20_1, x20_2)]).length) * 24 ≤ 140737488355328)).bind fun _ => (J3 p0 p1_0 p1_1 p1_2 fuel true (IntKind.i64.wrap (u3 + 1)) ((u4 ++ [(p1_0, p1_1, p1_2)]) ++ [(x20_0, x20_1, x20_2)])) else (gi p0 u3).bind fun x22 => match x22 with | (x22_0, x22_1, x22_2) => (grd ((u4.length + ([(x22_0, x22_1, x22_2)]).length) * 24 ≤ 140737488355328)).bind fun _ => (J3 p0 p1_0 p1_1 p1_2 fuel u2 (IntKind.i64.wrap (u3 + 1)) (u4 ++ [(x22_0, x22_1, x22_2)])))) else some (u2, u4))
def P9 (p0 : I0) (p1 : C0) : Option (I0) := match p1 with | (p1_0, p1_1, p1_2) => (J3 p0 p1_0 p1_1 p1_2 U0 false 0 ([] : I0)).bind (fun S47 => match S47 with | (y35, y36) => (if (!y35) = true then (grd ((y36.length + ([(p1_0, p1_1, p1_2)]).length) * 24 ≤ 140737488355328)).bind fun _ => some (y36 ++ [(p1_0, p1_1, p1_2)]) else some y36))
def O2 (p0_2 : I0) (p1 : Int) : Nat → Int → Int → Option (Int)
 | 0, _, _ => none
 | fuel + 1, u2, u3 => (if (decide (u3 < ((p0_2.length : Nat) : Int))) = true then (gi p0_2 u3).bind fun x7 => match x7 with | (x7_0, x7_1, x7_2) => (if (decide (x7_0 = p1)) = true then (gi p0_2 u3).bind fun x9 => match x9 with | (x9_0, x9_1, x9_2) => (if (decide (x9_2 = p1)) = true then (O2 p0_2 p1 fuel (IntKind.i64.wrap ((IntKind.i64.wrap (u2 + 1)) + 1)) (IntKind.i64.wrap (u3 + 1))) else (O2 p0_2 p1 fuel (IntKind.i64.wrap (u2 + 1)) (IntKind.i64.wrap (u3 + 1)))) else (gi p0_2 u3).bind fun x11 => match x11 with | (x11_0, x11_1, x11_2) => (if (decide (x11_2 = p1)) = true then (O2 p0_2 p1 fuel (IntKind.i64.wrap (u2 + 1)) (IntKind.i64.wrap (u3 + 1))) else (O2 p0_2 p1 fuel u2 (IntKind.i64.wrap (u3 + 1))))) else some (u2))
def T7 (p0 : j0) (p1 : Int) : Option (Int) := match p0 with | (p0_0, p0_1, p0_2) => (O2 p0_2 p1 U0 0 0).bind (fun y14 => some y14)
def M4 (p0_2 : I0) (p1_2 : I0) : Nat → Int → Option ((Bool) ⊕ (Unit))
 | 0, _ => none
 | fuel + 1, u3 => (if (decide (u3 < ((p0_2.length : Nat) : Int))) = true then (gi p0_2 u3).bind fun x7 => match x7 with | (x7_0, x7_1, x7_2) => (gi p1_2 u3).bind fun x8 => match x8 with | (x8_0, x8_1, x8_2) => (if (!eqE (x7_0, x7_1, x7_2) (x8_0, x8_1, x8_2)) = true then some (.inl false) else (M4 p0_2 p1_2 fuel (IntKind.i64.wrap (u3 + 1)))) else some (.inr ()))
def F6 (p0 : j0) (p1 : j0) : Option (Bool) := match p0 with | (p0_0, p0_1, p0_2) => match p1 with | (p1_0, p1_1, p1_2) => (if (bif (bif (!decide (p0_0 = p1_0)) then true else (!decide (p0_1 = p1_1))) then true else (!decide (((p0_2.length : Nat) : Int) = ((p1_2.length : Nat) : Int)))) = true then some false else (M4 p0_2 p1_2 U0 0).bind fun X12 => l9 X12 (fun _ => some true))
def L2 (p0_2 : I0) : Nat → D0 → Int → Option (D0)
 | 0, _, _ => none
 | fuel + 1, u19, u20 => (if (decide (u20 < ((p0_2.length : Nat) : Int))) = true then (gi p0_2 u20).bind fun x24 => match x24 with | (x24_0, x24_1, x24_2) => (r7 u19 x24_0).bind fun x25 => (if x25 = true then (I6 u19 x24_2).bind fun x27 => (r7 x27 x24_2).bind fun x30 => (if x30 = true then (I6 x27 x24_0).bind fun x32 => (L2 p0_2 fuel x32 (IntKind.i64.wrap (u20 + 1))) else (L2 p0_2 fuel x27 (IntKind.i64.wrap (u20 + 1)))) else (r7 u19 x24_2).bind fun x35 => (if x35 = true then (I6 u19 x24_0).bind fun x37 => (L2 p0_2 fuel x37 (IntKind.i64.wrap (u20 + 1))) else (L2 p0_2 fuel u19 (IntKind.i64.wrap (u20 + 1))))) else some (u19))
def j4 (p0_2 : I0) : Nat → D0 → Int → Option (D0)
 | 0, _, _ => none
 | fuel + 1, u13, u14 => (if (decide (u14 < (IntKind.i64.wrap (((p0_2.length : Nat) : Int) + 1)))) = true then (L2 p0_2 U0 u13 0).bind (fun y41 => (j4 p0_2 fuel y41 (IntKind.i64.wrap (u14 + 1)))) else some (u13))
def L7 (p0 : j0) (p1 : Int) : Option (D0) := match p0 with | (p0_0, p0_1, p0_2) => (C4 (p0_0, p0_1, p0_2)).bind fun x1 => (chk (!(!x1)) (d5 p1 0 (IntKind.i64.wrap (p0_1 - 1))) false).bind fun x2 => (if (bif (!x1) then true else (!x2)) = true then some ([] : D0) else (j4 p0_2 U0 [p1] 0).bind (fun y45 => some y45))
def p6 (p0_1 : Int) (p0_0 : Int) (p0_2 : I0) (x1 : D0) : Nat → Int → Option ((Int) ⊕ (Unit))
 | 0, _ => none
 | fuel + 1, u5 => (if (decide (u5 < p0_1)) = true then (T7 (p0_0, p0_1, p0_2) u5).bind fun x9 => (grd (N0 x9)).bind fun _ => (chk (!(decide (x9 < 2))) (r7 x1 u5) false).bind fun x11 => (if (bif (decide (x9 < 2)) then true else (!x11)) = true then some (.inl u5) else (p6 p0_1 p0_0 p0_2 x1 fuel (IntKind.i64.wrap (u5 + 1)))) else some (.inr ()))
def U8 (p0 : j0) : Option (Int) := match p0 with | (p0_0, p0_1, p0_2) => (L7 (p0_0, p0_1, p0_2) 0).bind fun x1 => (p6 p0_1 p0_0 p0_2 x1 U0 1).bind fun X15 => l9 X15 (fun _ => some (-1))
def Z2 (p0_2 : I0) (u9 : (List Int)) : Nat → Int → Int → Int → I0 → Option (Int × Int × I0)
 | 0, _, _, _, _ => none
 | fuel + 1, u24, u25, u26, u27 => (if (decide (u24 < ((p0_2.length : Nat) : Int))) = true then (gi p0_2 u24).bind fun x31 => match x31 with | (x31_0, x31_1, x31_2) => (gi u9 x31_0).bind fun x32 => (chk (decide (x32 > 0)) (gi u9 x31_2) 0).bind fun x33 => (if (bif (decide (x32 > 0)) then (decide (x33 > 0)) else false) = true then (gi u9 x31_0).bind fun x35 => (gi u9 x31_2).bind fun x42 => (P9 u27 ((IntKind.i64.wrap (x35 - 1)), x31_1, (IntKind.i64.wrap (x42 - 1)))).bind fun x51 => (Z2 p0_2 u9 fuel (IntKind.i64.wrap (u24 + 1)) u25 u26 x51) else (Z2 p0_2 u9 fuel (IntKind.i64.wrap (u24 + 1)) u25 u26 u27)) else some (u25, u26, u27))
def K3 (p1 : D0) (p0_1 : Int) (p0_0 : Int) (p0_2 : I0) : Nat → Int → (List Int) → Option ((j0 × Bool) ⊕ ((List Int)))
 | 0, _, _ => none
 | fuel + 1, u8, u9 => (if (decide (u8 < ((p1.length : Nat) : Int))) = true then (gi p1 u8).bind fun x13 => (d5 x13 0 (IntKind.i64.wrap (p0_1 - 1))).bind fun x14 => (chk (!(!x14)) (gi p1 u8) 0).bind fun x15 => (chk (!(!x14)) (gi u9 x15) 0).bind fun x16 => (if (bif (!x14) then true else (!decide (x16 = 0))) = true then (T4 (p0_0, p0_1, p0_2)).bind fun x18 => match x18 with | (x18_0, x18_1, x18_2) => some (.inl ((x18_0, x18_1, x18_2), false)) else (gi p1 u8).bind fun x21 => (gi u9 x21).bind fun x22 => (K3 p1 p0_1 p0_0 p0_2 fuel (IntKind.i64.wrap (u8 + 1)) (u9.set x21.toNat (IntKind.i64.wrap (u8 + 1))))) else some (.inr (u9)))
def N4 (p0 : j0) (p1 : D0) : Option (j0 × Bool) := match p0 with | (p0_0, p0_1, p0_2) => (C4 (p0_0, p0_1, p0_2)).bind fun x1 => (if (bif (bif (!x1) then true else (decide (((p1.length : Nat) : Int) = 0))) then true else (decide (((p1.length : Nat) : Int) > p0_1))) = true then (T4 (p0_0, p0_1, p0_2)).bind fun x3 => match x3 with | (x3_0, x3_1, x3_2) => some ((x3_0, x3_1, x3_2), false) else (grd ((0 : Int) ≤ p0_1 ∧ p0_1 ≤ p0_1 ∧ p0_1 * 8 ≤ 140737488355328 ∧ p0_1 ≤ 9223372036854775807)).bind fun _ => (K3 p1 p0_1 p0_0 p0_2 U0 0 (List.replicate p0_1.toNat (0 : Int))).bind fun X100 => l9 X100 (fun y61 => (Z2 p0_2 y61 U0 0 p0_0 ((p1.length : Nat) : Int) ([] : I0)).bind (fun S97 => match S97 with | (y94, y95, y96) => some ((y94, y95, y96), true))))
def O4 (p0 : Int) : Nat → Int → (List Int) → Option ((List Int))
 | 0, _, _ => none
 | fuel + 1, u2, u3 => (if (decide (u2 ≤ p0)) = true then (grd ((u3.length + [u2].length) * 8 ≤ 140737488355328)).bind fun _ => (grd (((u3 ++ [u2]).length + ([(IntKind.i64.wrap (0 - u2))]).length) * 8 ≤ 140737488355328)).bind fun _ => (O4 p0 fuel (IntKind.i64.wrap (u2 + 1)) ((u3 ++ [u2]) ++ [(IntKind.i64.wrap (0 - u2))])) else some (u3))
def J5 (p0 : Int) : Option (D0) := (O4 p0 U0 1 ([] : D0)).bind (fun y14 => some y14)
def P2 (x7 : D0) (u11 : Int) (p0_0 : Int) (p0_1 : Int) (p0_2 : I0) : Nat → Int → (List Int) → Option ((List Int))
 | 0, _, _ => none
 | fuel + 1, u19, u20 => (if (decide (u19 < ((x7.length : Nat) : Int))) = true then (gi u20 u11).bind fun x24 => (gi x7 u19).bind fun x25 => (W5 (p0_0, p0_1, p0_2) x24 x25).bind fun x26 => (grd (N0 x26)).bind fun _ => (chk (decide (x26 ≥ 0)) (r7 u20 x26) false).bind fun x28 => (if (bif (decide (x26 ≥ 0)) then (!x28) else false) = true then (grd ((u20.length + [x26].length) * 8 ≤ 140737488355328)).bind fun _ => (P2 x7 u11 p0_0 p0_1 p0_2 fuel (IntKind.i64.wrap (u19 + 1)) (u20 ++ [x26])) else (P2 x7 u11 p0_0 p0_1 p0_2 fuel (IntKind.i64.wrap (u19 + 1)) u20)) else some (u20))
def c4 (x7 : D0) (p0_0 : Int) (p0_1 : Int) (p0_2 : I0) : Nat → Int → (List Int) → Option ((List Int))
 | 0, _, _ => none
 | fuel + 1, u11, u12 => (some u12.length).bind fun m15 => (grd (m15 ≤ 9223372036854775807)).bind fun _ => (if (decide (u11 < ((m15 : Nat) : Int))) = true then (P2 x7 u11 p0_0 p0_1 p0_2 U0 0 u12).bind (fun y36 => (c4 x7 p0_0 p0_1 p0_2 fuel (IntKind.i64.wrap (u11 + 1)) y36)) else some (u12))
def C6 (p0 : j0) : Option (D0) := match p0 with | (p0_0, p0_1, p0_2) => (D5 (p0_0, p0_1, p0_2)).bind fun x1 => (if (!x1) = true then some ([] : D0) else (J5 p0_0).bind fun x7 => (c4 x7 p0_0 p0_1 p0_2 U0 0 [0]).bind (fun y44 => some y44))
def s5 (p0 : j0) : Option (j0) := match p0 with | (p0_0, p0_1, p0_2) => (C6 (p0_0, p0_1, p0_2)).bind fun x1 => (if (decide (((x1.length : Nat) : Int) = 0)) = true then (T4 (p0_0, p0_1, p0_2)).bind fun x5 => match x5 with | (x5_0, x5_1, x5_2) => some (x5_0, x5_1, x5_2) else (N4 (p0_0, p0_1, p0_2) x1).bind fun x8 => match x8 with | (x8_0, x8_1) => match x8_0 with | (x8_0_0, x8_0_1, x8_0_2) => some (x8_0_0, x8_0_1, x8_0_2))
def V8 (p0 : j0) : Option (Bool) := match p0 with | (p0_0, p0_1, p0_2) => (D5 (p0_0, p0_1, p0_2)).bind fun x1 => (chk x1 (U8 (p0_0, p0_1, p0_2)) 0).bind fun x4 => (grd (N0 x4)).bind fun q5 => (chk (bif x1 then (decide (x4 < 0)) else false) (s5 (p0_0, p0_1, p0_2)) (0, 0, [])).bind fun x10 => match x10 with | (x10_0, x10_1, x10_2) => (chk (bif x1 then (decide (x4 < 0)) else false) (F6 (x10_0, x10_1, x10_2) (p0_0, p0_1, p0_2)) false).bind fun x13 => some (bif (bif x1 then (decide (x4 < 0)) else false) then x13 else false)
def i7 (p0 : j0) : Option (Bool) := match p0 with | (p0_0, p0_1, p0_2) => (V8 (p0_0, p0_1, p0_2)).bind fun x1 => some x1
end Go.Proofs.YtknoadmdnjaocaaGreat
namespace Go.Proofs.YtknoadmdnjaocaaGreat
open Go.H
set_option linter.unusedVariables false
set_option linter.unusedSimpArgs false
set_option maxRecDepth 10000
def E4 (p0 : j0) : Option (j0) := match p0 with | (p0_0, p0_1, p0_2) => (grd ((([] : I0).length + p0_2.length) * 24 ≤ 140737488355328)).bind fun _ => some (p0_0, p0_1, (([] : I0) ++ p0_2))
def i4 (p0_2 : I0) (p1 : Int) : Nat → Int → Int → Option (Int)
 | 0, _, _ => none
 | fuel + 1, u2, u3 => (if (decide (u3 < ((p0_2.length : Nat) : Int))) = true then (gi p0_2 u3).bind fun x7 => match x7 with | (x7_0, x7_1, x7_2) => (if (decide (x7_0 = p1)) = true then (if (decide (x7_2 = p1)) = true then (i4 p0_2 p1 fuel (IntKind.i64.wrap ((IntKind.i64.wrap (u2 + 1)) + 1)) (IntKind.i64.wrap (u3 + 1))) else (i4 p0_2 p1 fuel (IntKind.i64.wrap (u2 + 1)) (IntKind.i64.wrap (u3 + 1)))) else (if (decide (x7_2 = p1)) = true then (i4 p0_2 p1 fuel (IntKind.i64.wrap (u2 + 1)) (IntKind.i64.wrap (u3 + 1))) else (i4 p0_2 p1 fuel u2 (IntKind.i64.wrap (u3 + 1))))) else some (u2))
def G8 (p0 : j0) (p1 : Int) : Option (Int) := match p0 with | (p0_0, p0_1, p0_2) => (i4 p0_2 p1 U0 0 0).bind (fun y12 => some y12)
def V0 (p0 : I0) (p1 : I0) : Nat → Int → Option ((Bool) ⊕ (Unit))
 | 0, _ => none
 | fuel + 1, u3 => (if (decide (u3 < ((p0.length : Nat) : Int))) = true then (gi p0 u3).bind fun x7 => match x7 with | (x7_0, x7_1, x7_2) => (gi p1 u3).bind fun x8 => match x8 with | (x8_0, x8_1, x8_2) => (if (!eqE (x7_0, x7_1, x7_2) (x8_0, x8_1, x8_2)) = true then some (.inl false) else (V0 p0 p1 fuel (IntKind.i64.wrap (u3 + 1)))) else some (.inr ()))
def Z1 (p0 : I0) (p1 : I0) : Option (Bool) := (if (!decide (((p0.length : Nat) : Int) = ((p1.length : Nat) : Int))) = true then some false else (V0 p0 p1 U0 0).bind fun X12 => l9 X12 (fun _ => some true))
def G6 (p0 : j0) (p1 : j0) : Option (Bool) := match p0 with | (p0_0, p0_1, p0_2) => match p1 with | (p1_0, p1_1, p1_2) => (chk (bif (decide (p0_0 = p1_0)) then (decide (p0_1 = p1_1)) else false) (Z1 p0_2 p1_2) false).bind fun x1 => some (bif (bif (decide (p0_0 = p1_0)) then (decide (p0_1 = p1_1)) else false) then x1 else false)
def A3 (p0_2 : I0) : Nat → Bool → Int → (List Bool) → Option (Bool × (List Bool))
 | 0, _, _, _ => none
 | fuel + 1, u10, u11, u12 => (if (decide (u11 < ((p0_2.length : Nat) : Int))) = true then (gi p0_2 u11).bind fun x16 => match x16 with | (x16_0, x16_1, x16_2) => (gi u12 x16_0).bind fun x17 => (gi u12 x16_2).bind fun x18 => (if (!(x17 == x18)) = true then (gi u12 x16_0).bind fun x20 => (gi (u12.set x16_0.toNat true) x16_2).bind fun x21 => (A3 p0_2 fuel true (IntKind.i64.wrap (u11 + 1)) ((u12.set x16_0.toNat true).set x16_2.toNat true)) else (A3 p0_2 fuel u10 (IntKind.i64.wrap (u11 + 1)) u12)) else some (u10, u12))
def S3 (p0_2 : I0) : Nat → Bool → (List Bool) → Option ((List Bool))
 | 0, _, _ => none
 | fuel + 1, u4, u5 => (if u4 = true then (A3 p0_2 U0 false 0 u5).bind (fun S25 => match S25 with | (y23, y24) => (S3 p0_2 fuel y23 y24)) else some (u5))
def o7 (p0 : j0) (p1 : Int) : Option ((List Bool)) := match p0 with | (p0_0, p0_1, p0_2) => (grd ((0 : Int) ≤ p0_1 ∧ p0_1 ≤ p0_1 ∧ p0_1 * 1 ≤ 140737488355328 ∧ p0_1 ≤ 9223372036854775807)).bind fun _ => (gi (List.replicate p0_1.toNat (false : Bool)) p1).bind fun x2 => (S3 p0_2 U0 true ((List.replicate p0_1.toNat (false : Bool)).set p1.toNat true)).bind (fun y32 => some y32)
def K5 (p0 : Int) : Nat → Int → (List Int) → Option ((List Int))
 | 0, _, _ => none
 | fuel + 1, u2, u3 => (if (decide (u2 ≤ p0)) = true then (grd ((u3.length + ([u2, (IntKind.i64.wrap (0 - u2))]).length) * 8 ≤ 140737488355328)).bind fun _ => (K5 p0 fuel (IntKind.i64.wrap (u2 + 1)) (u3 ++ [u2, (IntKind.i64.wrap (0 - u2))])) else some (u3))
def Z5 (p0 : Int) : Option (D0) := (K5 p0 U0 1 ([] : D0)).bind (fun y13 => some y13)
def W8 (p0 : I0) : Option (I0) := (grd ((([] : I0).length + p0.length) * 24 ≤ 140737488355328)).bind fun _ => (grd ((([] : I0) ++ p0).length < 4611686018427387904)).bind fun _ => some (K00 eqE (R02 O0 (([] : I0) ++ p0)))
def J6 (p0_2 : I0) (u13 : (List Int)) : Nat → Int → Int → Int → (List C0) → Option (Int × Int × (List C0))
 | 0, _, _, _, _ => none
 | fuel + 1, u20, u21, u22, u23 => (if (decide (u20 < ((p0_2.length : Nat) : Int))) = true then (gi p0_2 u20).bind fun x27 => match x27 with | (x27_0, x27_1, x27_2) => (gi u13 x27_0).bind fun x28 => (chk (decide (x28 ≥ 0)) (gi u13 x27_2) 0).bind fun x29 => (if (bif (decide (x28 ≥ 0)) then (decide (x29 ≥ 0)) else false) = true then (gi u13 x27_0).bind fun x31 => (gi u13 x27_2).bind fun x36 => (grd ((u23.length + ([(x31, x27_1, x36)]).length) * 24 ≤ 140737488355328)).bind fun _ => (J6 p0_2 u13 fuel (IntKind.i64.wrap (u20 + 1)) u21 u22 (u23 ++ [(x31, x27_1, x36)])) else (J6 p0_2 u13 fuel (IntKind.i64.wrap (u20 + 1)) u21 u22 u23)) else some (u21, u22, u23))
def w7 (p1 : D0) : Nat → Int → (List Int) → Option ((List Int))
 | 0, _, _ => none
 | fuel + 1, u12, u13 => (if (decide (u12 < ((p1.length : Nat) : Int))) = true then (gi p1 u12).bind fun x17 => (gi u13 x17).bind fun x18 => (w7 p1 fuel (IntKind.i64.wrap (u12 + 1)) (u13.set x17.toNat u12)) else some (u13))
def y7 (m2 : Nat) : Nat → Int → (List Int) → Option ((List Int))
 | 0, _, _ => none
 | fuel + 1, u5, u6 => (if (decide (u5 < ((m2 : Nat) : Int))) = true then (gi u6 u5).bind fun x10 => (y7 m2 fuel (IntKind.i64.wrap (u5 + 1)) (u6.set u5.toNat (-1))) else some (u6))
def z9 (p0 : j0) (p1 : D0) : Option (j0) := match p0 with | (p0_0, p0_1, p0_2) => (grd ((0 : Int) ≤ p0_1 ∧ p0_1 ≤ p0_1 ∧ p0_1 * 8 ≤ 140737488355328 ∧ p0_1 ≤ 9223372036854775807)).bind fun _ => (some (List.replicate p0_1.toNat (0 : Int)).length).bind fun m2 => (grd (m2 ≤ 9223372036854775807)).bind fun _ => (y7 m2 U0 0 (List.replicate p0_1.toNat (0 : Int))).bind (fun y114 => (w7 p1 U0 0 y114).bind (fun y169 => (J6 p0_2 y169 U0 0 p0_0 ((p1.length : Nat) : Int) ([] : I0)).bind (fun S213 => match S213 with | (y203, y204, y205) => (W8 y205).bind fun x210 => some (y203, y204, x210))))
end Go.Proofs.YtknoadmdnjaocaaGreat
namespace Go.Proofs.YtknoadmdnjaocaaGreat
open Go.H
set_option linter.unusedVariables false
set_option linter.unusedSimpArgs false
set_option maxRecDepth 10000
def U7 (p0 : D0) : Option (D0) := (grd ((([] : D0).length + p0.length) * 8 ≤ 140737488355328)).bind fun _ => some (([] : D0) ++ p0)
def Q1 (x17 : D0) (p0_0 : Int) (p0_1 : Int) (p0_2 : I0) (x16 : Int) : Nat → Int → (List (Option D0)) → (List Int) → Option ((List (Option D0)) × (List Int))
 | 0, _, _, _ => none
 | fuel + 1, u21, u22, u23 => (if (decide (u21 < ((x17.length : Nat) : Int))) = true then (gi x17 u21).bind fun x27 => (Y5 (p0_0, p0_1, p0_2) x16 x27).bind fun x28 => (grd (N0 x28)).bind fun _ => (chk (decide (x28 ≥ 0)) (gi u22 x28) (none : Option D0)).bind fun x30 => (if (bif (decide (x28 ≥ 0)) then x30.isNone else false) = true then (gi u22 x16).bind fun x32 => (U7 (x32.getD [])).bind fun x33 => (grd ((x33.length + [x27].length) * 8 ≤ 140737488355328)).bind fun _ => (gi u22 x28).bind fun x38 => (grd ((u23.length + [x28].length) * 8 ≤ 140737488355328)).bind fun _ => (Q1 x17 p0_0 p0_1 p0_2 x16 fuel (IntKind.i64.wrap (u21 + 1)) (u22.set x28.toNat (some (x33 ++ [x27]))) (u23 ++ [x28])) else (Q1 x17 p0_0 p0_1 p0_2 x16 fuel (IntKind.i64.wrap (u21 + 1)) u22 u23)) else some (u22, u23))
def Y2 (p0_0 : Int) (p0_1 : Int) (p0_2 : I0) : Nat → Int → (List (Option D0)) → (List Int) → Option ((List (Option D0)) × (List Int))
 | 0, _, _, _ => none
 | fuel + 1, u8, u9, u10 => (some u10.length).bind fun m13 => (grd (m13 ≤ 9223372036854775807)).bind fun _ => (if (decide (u8 < ((m13 : Nat) : Int))) = true then (gi u10 u8).bind fun x16 => (Z5 p0_0).bind fun x17 => (Q1 x17 p0_0 p0_1 p0_2 x16 U0 0 u9 u10).bind (fun S43 => match S43 with | (y41, y42) => (Y2 p0_0 p0_1 p0_2 fuel (IntKind.i64.wrap (u8 + 1)) y41 y42)) else some (u9, u10))
def c9 (p0 : j0) (p1 : Int) : Option (D0 × B8) := match p0 with | (p0_0, p0_1, p0_2) => (grd ((0 : Int) ≤ p0_1 ∧ p0_1 ≤ p0_1 ∧ p0_1 * 24 ≤ 140737488355328 ∧ p0_1 ≤ 9223372036854775807)).bind fun _ => (gi (List.replicate p0_1.toNat (none : Option D0)) p1).bind fun x2 => (Y2 p0_0 p0_1 p0_2 U0 0 ((List.replicate p0_1.toNat (none : Option D0)).set p1.toNat (some ([] : D0))) [p1]).bind (fun S64 => match S64 with | (y54, y55) => some (y55, (List.map (fun o : Option D0 => o.getD ([] : D0)) y54)))
def D6 (p0 : j0) : Option (D0) := match p0 with | (p0_0, p0_1, p0_2) => (S4 (p0_0, p0_1, p0_2)).bind fun x1 => (if (!x1) = true then some ([] : D0) else (c9 (p0_0, p0_1, p0_2) 0).bind fun x7 => match x7 with | (x7_0, x7_1) => some x7_0)
def w5 (p0 : j0) : Option (j0) := match p0 with | (p0_0, p0_1, p0_2) => (S4 (p0_0, p0_1, p0_2)).bind fun x1 => (if (!x1) = true then (E4 (p0_0, p0_1, p0_2)).bind fun x3 => match x3 with | (x3_0, x3_1, x3_2) => some (x3_0, x3_1, x3_2) else (D6 (p0_0, p0_1, p0_2)).bind fun x7 => (z9 (p0_0, p0_1, p0_2) x7).bind fun x10 => match x10 with | (x10_0, x10_1, x10_2) => some (x10_0, x10_1, x10_2))
end Go.Proofs.YtknoadmdnjaocaaGreat
namespace Go.Proofs.YtknoadmdnjaocaaGreat
open Go.H
set_option linter.unusedVariables false
set_option linter.unusedSimpArgs false
set_option maxRecDepth 10000
def n4 (u25 : Int) (u33 : Int) : Nat → Int → (List Int) → Option ((List Int))
 | 0, _, _ => none
 | fuel + 1, u44, u45 => (if (decide (u44 < u25)) = true then (if (!decide (u44 = u33)) = true then (grd ((u45.length + [u44].length) * 8 ≤ 140737488355328)).bind fun _ => (n4 u25 u33 fuel (IntKind.i64.wrap (u44 + 1)) (u45 ++ [u44])) else (n4 u25 u33 fuel (IntKind.i64.wrap (u44 + 1)) u45)) else some (u45))
def n3 (u25 : Int) (u24 : Int) (u26 : I0) (x29 : (List Bool)) : Nat → Int → Int → Option (Int)
 | 0, _, _ => none
 | fuel + 1, u33, u34 => (if (bif (decide (u34 < u25)) then (decide (u33 = 0)) else false) = true then (G8 (u24, u25, u26) u34).bind fun x38 => (grd (N0 x38)).bind fun _ => (chk (!(decide (x38 < 2))) (gi x29 u34) false).bind fun x40 => (if (bif (decide (x38 < 2)) then true else (!x40)) = true then (n3 u25 u24 u26 x29 fuel u34 (IntKind.i64.wrap (u34 + 1))) else (n3 u25 u24 u26 x29 fuel u33 (IntKind.i64.wrap (u34 + 1)))) else some (u33))
def w4 : Nat → D0 → Int → Int → I0 → Option ((j0 × D0) ⊕ (Int × Int × I0))
 | 0, _, _, _, _ => none
 | fuel + 1, u23, u24, u25, u26 => (o7 (u24, u25, u26) 0).bind fun x29 => (n3 u25 u24 u26 x29 U0 0 1).bind (fun y86 => (if (decide (y86 = 0)) = true then some (.inl ((u24, u25, u26), u23)) else (n4 u25 y86 U0 0 ([] : D0)).bind (fun y112 => (z9 (u24, u25, u26) y112).bind fun x117 => match x117 with | (x117_0, x117_1, x117_2) => (E05 u23 0 y86).bind fun x123 => (E05 u23 (IntKind.i64.wrap (y86 + 1)) (u23.length : Int)).bind fun x124 => (grd ((x123.length + x124.length) * 8 ≤ 140737488355328)).bind fun _ => (w4 fuel (x123 ++ x124) x117_0 x117_1 x117_2))))
def P4 (p0_1 : Int) : Nat → Int → (List Int) → Option ((List Int))
 | 0, _, _ => none
 | fuel + 1, u12, u13 => (if (decide (u12 < p0_1)) = true then (grd ((u13.length + [u12].length) * 8 ≤ 140737488355328)).bind fun _ => (P4 p0_1 fuel (IntKind.i64.wrap (u12 + 1)) (u13 ++ [u12])) else some (u13))
def L5 (p0 : j0) : Option (j0 × D0) := match p0 with | (p0_0, p0_1, p0_2) => (E4 (p0_0, p0_1, p0_2)).bind fun x1 => match x1 with | (x1_0, x1_1, x1_2) => (T6 (p0_0, p0_1, p0_2)).bind fun x5 => (if (!x5) = true then some ((x1_0, x1_1, x1_2), ([] : D0)) else (P4 p0_1 U0 0 ([] : D0)).bind (fun y134 => (w4 U0 y134 x1_0 x1_1 x1_2).bind fun X249 => l9 X249 (fun _ => none)))
def f8 (p0 : j0) : Option (Bool) := match p0 with | (p0_0, p0_1, p0_2) => (S4 (p0_0, p0_1, p0_2)).bind fun x1 => (if (!x1) = true then some false else (L5 (p0_0, p0_1, p0_2)).bind fun x3 => match x3 with | (x3_0, x3_1) => match x3_0 with | (x3_0_0, x3_0_1, x3_0_2) => (chk (decide (x3_0_1 = p0_1)) (w5 (p0_0, p0_1, p0_2)) (0, 0, [])).bind fun x8 => match x8 with | (x8_0, x8_1, x8_2) => (chk (decide (x3_0_1 = p0_1)) (G6 (x8_0, x8_1, x8_2) (p0_0, p0_1, p0_2)) false).bind fun x11 => some (bif (decide (x3_0_1 = p0_1)) then x11 else false))
end Go.Proofs.YtknoadmdnjaocaaGreat
namespace Go.Proofs.YtknoadmdnjaocaaGreat
open Go.H
set_option linter.unusedVariables false
set_option linter.unusedSimpArgs false
set_option maxRecDepth 10000
def E3 (p0_2 : I0) (u2 : Int) : Nat → Int → (List R3) → Option ((List R3))
 | 0, _, _ => none
 | fuel + 1, u8, u9 => (if (decide (u8 < ((p0_2.length : Nat) : Int))) = true then (gi p0_2 u2).bind fun x13 => match x13 with | (x13_0, x13_1, x13_2) => (gi p0_2 u8).bind fun x14 => match x14 with | (x14_0, x14_1, x14_2) => (if (bif (decide (x13_1 = x14_1)) then (decide (x13_0 = x14_0)) else false) = true then (grd ((u9.length + ([((if x14_2 < x13_2 then x14_2 else x13_2), (if x14_2 > x13_2 then x14_2 else x13_2))]).length) * 16 ≤ 140737488355328)).bind fun _ => (if (bif (decide (x13_1 = x14_1)) then (decide (x13_2 = x14_2)) else false) = true then (grd (((u9 ++ [((if x14_2 < x13_2 then x14_2 else x13_2), (if x14_2 > x13_2 then x14_2 else x13_2))]).length + ([((if x14_0 < x13_0 then x14_0 else x13_0), (if x14_0 > x13_0 then x14_0 else x13_0))]).length) * 16 ≤ 140737488355328)).bind fun _ => (E3 p0_2 u2 fuel (IntKind.i64.wrap (u8 + 1)) ((u9 ++ [((if x14_2 < x13_2 then x14_2 else x13_2), (if x14_2 > x13_2 then x14_2 else x13_2))]) ++ [((if x14_0 < x13_0 then x14_0 else x13_0), (if x14_0 > x13_0 then x14_0 else x13_0))])) else (E3 p0_2 u2 fuel (IntKind.i64.wrap (u8 + 1)) (u9 ++ [((if x14_2 < x13_2 then x14_2 else x13_2), (if x14_2 > x13_2 then x14_2 else x13_2))]))) else (if (bif (decide (x13_1 = x14_1)) then (decide (x13_2 = x14_2)) else false) = true then (grd ((u9.length + ([((if x14_0 < x13_0 then x14_0 else x13_0), (if x14_0 > x13_0 then x14_0 else x13_0))]).length) * 16 ≤ 140737488355328)).bind fun _ => (E3 p0_2 u2 fuel (IntKind.i64.wrap (u8 + 1)) (u9 ++ [((if x14_0 < x13_0 then x14_0 else x13_0), (if x14_0 > x13_0 then x14_0 else x13_0))])) else (E3 p0_2 u2 fuel (IntKind.i64.wrap (u8 + 1)) u9))) else some (u9))
def M5 (p0_2 : I0) : Nat → Int → (List R3) → Option ((List R3))
 | 0, _, _ => none
 | fuel + 1, u2, u3 => (if (decide (u2 < ((p0_2.length : Nat) : Int))) = true then (E3 p0_2 u2 U0 (IntKind.i64.wrap (u2 + 1)) u3).bind (fun y22 => (M5 p0_2 fuel (IntKind.i64.wrap (u2 + 1)) y22)) else some (u3))
def C9 (p0 : j0) : Option (R6) := match p0 with | (p0_0, p0_1, p0_2) => (M5 p0_2 U0 0 ([] : R6)).bind (fun y30 => some y30)
def D7 (p0 : j0) : Option (R3 × Bool) := match p0 with | (p0_0, p0_1, p0_2) => (C4 (p0_0, p0_1, p0_2)).bind fun x1 => (if (!x1) = true then some ((0, 0), false) else (C9 (p0_0, p0_1, p0_2)).bind fun x3 => (if (decide (((x3.length : Nat) : Int) = 0)) = true then some ((0, 0), false) else (gi x3 0).bind fun x7 => match x7 with | (x7_0, x7_1) => some ((x7_0, x7_1), true)))
def Q9 (p0 : Int) (p1 : R3) : Option (Int) := match p1 with | (p1_0, p1_1) => (if (decide (p0 = p1_1)) = true then (if (decide (p1_0 > p1_1)) = true then some (IntKind.i64.wrap (p1_0 - 1)) else some p1_0) else (if (decide (p0 > p1_1)) = true then some (IntKind.i64.wrap (p0 - 1)) else some p0))
def L3 (p0_2 : I0) (p1_0 : Int) (p1_1 : Int) : Nat → Int → Int → Int → I0 → Option (Int × Int × I0)
 | 0, _, _, _, _ => none
 | fuel + 1, u7, u8, u9, u10 => (if (decide (u7 < ((p0_2.length : Nat) : Int))) = true then (gi p0_2 u7).bind fun x14 => match x14 with | (x14_0, x14_1, x14_2) => (Q9 x14_0 (p1_0, p1_1)).bind fun x15 => (grd (N0 x15)).bind fun q16 => (Q9 x14_2 (p1_0, p1_1)).bind fun x19 => (grd (N0 x19)).bind fun q20 => (P9 u10 (x15, x14_1, x19)).bind fun x25 => (L3 p0_2 p1_0 p1_1 fuel (IntKind.i64.wrap (u7 + 1)) u8 u9 x25) else some (u8, u9, u10))
def N5 (p0 : j0) (p1 : R3) : Option (j0 × Bool) := match p0 with | (p0_0, p0_1, p0_2) => match p1 with | (p1_0, p1_1) => (C4 (p0_0, p0_1, p0_2)).bind fun x1 => (if (bif (bif (bif (!x1) then true else (decide (p1_0 < 0))) then true else (decide (p1_0 ≥ p1_1))) then true else (decide (p1_1 ≥ p0_1))) = true then (T4 (p0_0, p0_1, p0_2)).bind fun x3 => match x3 with | (x3_0, x3_1, x3_2) => some ((x3_0, x3_1, x3_2), false) else (L3 p0_2 p1_0 p1_1 U0 0 p0_0 (IntKind.i64.wrap (p0_1 - 1)) ([] : I0)).bind (fun S32 => match S32 with | (y29, y30, y31) => some ((y29, y30, y31), true)))
def I8 (p0 : j0) : Option (j0 × R3 × Bool) := match p0 with | (p0_0, p0_1, p0_2) => (D7 (p0_0, p0_1, p0_2)).bind fun x1 => match x1 with | (x1_0, x1_1) => match x1_0 with | (x1_0_0, x1_0_1) => (if (!x1_1) = true then (T4 (p0_0, p0_1, p0_2)).bind fun x5 => match x5 with | (x5_0, x5_1, x5_2) => some ((x5_0, x5_1, x5_2), (0, 0), false) else (N5 (p0_0, p0_1, p0_2) (x1_0_0, x1_0_1)).bind fun x8 => match x8 with | (x8_0, x8_1) => match x8_0 with | (x8_0_0, x8_0_1, x8_0_2) => some ((x8_0_0, x8_0_1, x8_0_2), (x1_0_0, x1_0_1), true))
def U4 : Nat → Int → Int → Int → I0 → (List R3) → Option ((j0 × R6) ⊕ (Int × Int × I0 × (List R3)))
 | 0, _, _, _, _, _ => none
 | fuel + 1, u5, u6, u7, u8, u9 => (if (decide (u5 < 40)) = true then (I8 (u6, u7, u8)).bind fun x13 => match x13 with | (x13_0, x13_1, x13_2) => match x13_0 with | (x13_0_0, x13_0_1, x13_0_2) => match x13_1 with | (x13_1_0, x13_1_1) => (if (!x13_2) = true then some (.inl ((u6, u7, u8), u9)) else (grd ((u9.length + ([(x13_1_0, x13_1_1)]).length) * 16 ≤ 140737488355328)).bind fun _ => (U4 fuel (IntKind.i64.wrap (u5 + 1)) x13_0_0 x13_0_1 x13_0_2 (u9 ++ [(x13_1_0, x13_1_1)]))) else some (.inr (u6, u7, u8, u9)))
def D9 (p0 : j0) : Option (j0 × R6) := match p0 with | (p0_0, p0_1, p0_2) => (T4 (p0_0, p0_1, p0_2)).bind fun x1 => match x1 with | (x1_0, x1_1, x1_2) => (U4 U0 0 x1_0 x1_1 x1_2 ([] : R6)).bind fun X36 => l9 X36 (fun S35 => match S35 with | (y27, y28, y29, y30) => some ((y27, y28, y29), y30))
def Q2 (x8 : D0) (p0_0 : Int) (p0_1 : Int) (p0_2 : I0) (u2 : Int) : Nat → Int → (List C0) → Option ((List C0))
 | 0, _, _ => none
 | fuel + 1, u12, u13 => (if (decide (u12 < ((x8.length : Nat) : Int))) = true then (gi x8 u12).bind fun x17 => (W5 (p0_0, p0_1, p0_2) u2 x17).bind fun x18 => (grd (N0 x18)).bind fun _ => (if (decide (x18 < 0)) = true then (gi x8 u12).bind fun x21 => (grd ((u13.length + ([(u2, x21, (-1))]).length) * 24 ≤ 140737488355328)).bind fun _ => (Q2 x8 p0_0 p0_1 p0_2 u2 fuel (IntKind.i64.wrap (u12 + 1)) (u13 ++ [(u2, x21, (-1))])) else (Q2 x8 p0_0 p0_1 p0_2 u2 fuel (IntKind.i64.wrap (u12 + 1)) u13)) else some (u13))
def T3 (p0_1 : Int) (p0_0 : Int) (p0_2 : I0) : Nat → Int → (List C0) → Option ((List C0))
 | 0, _, _ => none
 | fuel + 1, u2, u3 => (chk (decide (u2 < p0_1)) (D5 (p0_0, p0_1, p0_2)) false).bind fun x6 => (if (bif (decide (u2 < p0_1)) then x6 else false) = true then (J5 p0_0).bind fun x8 => (Q2 x8 p0_0 p0_1 p0_2 u2 U0 0 u3).bind (fun y24 => (T3 p0_1 p0_0 p0_2 fuel (IntKind.i64.wrap (u2 + 1)) y24)) else some (u3))
def l6 (p0 : j0) : Option (I0) := match p0 with | (p0_0, p0_1, p0_2) => (T3 p0_1 p0_0 p0_2 U0 0 ([] : I0)).bind (fun y32 => some y32)
end Go.Proofs.YtknoadmdnjaocaaGreat
namespace Go.Proofs.YtknoadmdnjaocaaGreat
open Go.H
set_option linter.unusedVariables false
set_option linter.unusedSimpArgs false
set_option maxRecDepth 10000
def V4 (p0 : Int) (p1 : R3) : Option (Int) := match p1 with | (p1_0, p1_1) => (if (decide (p0 = p1_1)) = true then some p1_0 else (if (decide (p0 > p1_1)) = true then some (IntKind.i64.wrap (p0 - 1)) else some p0))
def d4 (x8 : I0) (x7_1 : Int) (x7_0 : Int) (x7_2 : Int) : Nat → Int → (List R3) → Option ((List R3))
 | 0, _, _ => none
 | fuel + 1, u10, u11 => (if (decide (u10 < ((x8.length : Nat) : Int))) = true then (gi x8 u10).bind fun x15 => match x15 with | (x15_0, x15_1, x15_2) => (if (!decide (x7_1 = x15_1)) = true then (d4 x8 x7_1 x7_0 x7_2 fuel (IntKind.i64.wrap (u10 + 1)) u11) else (if (decide (x7_0 = x15_0)) = true then (grd ((u11.length + ([((if x15_2 < x7_2 then x15_2 else x7_2), (if x15_2 > x7_2 then x15_2 else x7_2))]).length) * 16 ≤ 140737488355328)).bind fun _ => (if (decide (x7_2 = x15_2)) = true then (grd (((u11 ++ [((if x15_2 < x7_2 then x15_2 else x7_2), (if x15_2 > x7_2 then x15_2 else x7_2))]).length + ([((if x15_0 < x7_0 then x15_0 else x7_0), (if x15_0 > x7_0 then x15_0 else x7_0))]).length) * 16 ≤ 140737488355328)).bind fun _ => (d4 x8 x7_1 x7_0 x7_2 fuel (IntKind.i64.wrap (u10 + 1)) ((u11 ++ [((if x15_2 < x7_2 then x15_2 else x7_2), (if x15_2 > x7_2 then x15_2 else x7_2))]) ++ [((if x15_0 < x7_0 then x15_0 else x7_0), (if x15_0 > x7_0 then x15_0 else x7_0))])) else (d4 x8 x7_1 x7_0 x7_2 fuel (IntKind.i64.wrap (u10 + 1)) (u11 ++ [((if x15_2 < x7_2 then x15_2 else x7_2), (if x15_2 > x7_2 then x15_2 else x7_2))]))) else (if (decide (x7_2 = x15_2)) = true then (grd ((u11.length + ([((if x15_0 < x7_0 then x15_0 else x7_0), (if x15_0 > x7_0 then x15_0 else x7_0))]).length) * 16 ≤ 140737488355328)).bind fun _ => (d4 x8 x7_1 x7_0 x7_2 fuel (IntKind.i64.wrap (u10 + 1)) (u11 ++ [((if x15_0 < x7_0 then x15_0 else x7_0), (if x15_0 > x7_0 then x15_0 else x7_0))])) else (d4 x8 x7_1 x7_0 x7_2 fuel (IntKind.i64.wrap (u10 + 1)) u11)))) else some (u11))
def Y6 (p0_2 : I0) : Nat → Int → (List R3) → Option ((List R3))
 | 0, _, _ => none
 | fuel + 1, u2, u3 => (if (decide (u2 < ((p0_2.length : Nat) : Int))) = true then (gi p0_2 u2).bind fun x7 => match x7 with | (x7_0, x7_1, x7_2) => (E05 p0_2 (IntKind.i64.wrap (u2 + 1)) (p0_2.length : Int)).bind fun x8 => (d4 x8 x7_1 x7_0 x7_2 U0 0 u3).bind (fun y24 => (Y6 p0_2 fuel (IntKind.i64.wrap (u2 + 1)) y24)) else some (u3))
def C00 (p0 : j0) : Option (R6) := match p0 with | (p0_0, p0_1, p0_2) => (Y6 p0_2 U0 0 ([] : R6)).bind (fun y32 => some y32)
def E7 (p0 : j0) : Option (R3 × Bool) := match p0 with | (p0_0, p0_1, p0_2) => (T6 (p0_0, p0_1, p0_2)).bind fun x1 => (if (!x1) = true then some ((0, 0), false) else (C00 (p0_0, p0_1, p0_2)).bind fun x3 => (if (decide (((x3.length : Nat) : Int) = 0)) = true then some ((0, 0), false) else (gi x3 0).bind fun x7 => match x7 with | (x7_0, x7_1) => some ((x7_0, x7_1), true)))
def M3 (x1_2 : I0) (p1_0 : Int) (p1_1 : Int) : Nat → Int → I0 → Option (I0)
 | 0, _, _ => none
 | fuel + 1, u9, u10 => (if (decide (u9 < ((x1_2.length : Nat) : Int))) = true then (gi u10 u9).bind fun x15 => match x15 with | (x15_0, x15_1, x15_2) => (V4 x15_0 (p1_0, p1_1)).bind fun x16 => (grd (N0 x16)).bind fun q17 => (V4 x15_2 (p1_0, p1_1)).bind fun x20 => (grd (N0 x20)).bind fun q21 => (gi u10 u9).bind fun x26 => match x26 with | (x26_0, x26_1, x26_2) => (M3 x1_2 p1_0 p1_1 fuel (IntKind.i64.wrap (u9 + 1)) (u10.set u9.toNat (x16, x15_1, x20))) else some (u10))
def O5 (p0 : j0) (p1 : R3) : Option (j0 × Bool) := match p0 with | (p0_0, p0_1, p0_2) => match p1 with | (p1_0, p1_1) => (E4 (p0_0, p0_1, p0_2)).bind fun x1 => match x1 with | (x1_0, x1_1, x1_2) => (T6 (p0_0, p0_1, p0_2)).bind fun x5 => (if (bif (bif (bif (!x5) then true else (decide (p1_0 < 0))) then true else (decide (p1_0 ≥ p1_1))) then true else (decide (p1_1 ≥ p0_1))) = true then some ((x1_0, x1_1, x1_2), false) else (M3 x1_2 p1_0 p1_1 U0 0 x1_2).bind (fun y33 => (W8 y33).bind fun x34 => some ((x1_0, (IntKind.i64.wrap (x1_1 - 1)), x34), true)))
def J8 (p0 : j0) : Option (j0 × R3 × Bool) := match p0 with | (p0_0, p0_1, p0_2) => (E7 (p0_0, p0_1, p0_2)).bind fun x1 => match x1 with | (x1_0, x1_1) => match x1_0 with | (x1_0_0, x1_0_1) => (if (!x1_1) = true then (E4 (p0_0, p0_1, p0_2)).bind fun x5 => match x5 with | (x5_0, x5_1, x5_2) => some ((x5_0, x5_1, x5_2), (0, 0), false) else (O5 (p0_0, p0_1, p0_2) (x1_0_0, x1_0_1)).bind fun x9 => match x9 with | (x9_0, x9_1) => match x9_0 with | (x9_0_0, x9_0_1, x9_0_2) => some ((x9_0_0, x9_0_1, x9_0_2), (x1_0_0, x1_0_1), true))
def P5 : Nat → Int → Int → I0 → (List R3) → Option ((j0 × R6) ⊕ (Int × Int × I0 × (List R3)))
 | 0, _, _, _, _ => none
 | fuel + 1, u6, u7, u8, u9 => (J8 (u6, u7, u8)).bind fun x12 => match x12 with | (x12_0, x12_1, x12_2) => match x12_0 with | (x12_0_0, x12_0_1, x12_0_2) => match x12_1 with | (x12_1_0, x12_1_1) => (if (!x12_2) = true then some (.inl ((u6, u7, u8), u9)) else (grd ((u9.length + ([(x12_1_0, x12_1_1)]).length) * 16 ≤ 140737488355328)).bind fun _ => (P5 fuel x12_0_0 x12_0_1 x12_0_2 (u9 ++ [(x12_1_0, x12_1_1)])))
def E9 (p0 : j0) : Option (j0 × R6) := match p0 with | (p0_0, p0_1, p0_2) => (E4 (p0_0, p0_1, p0_2)).bind fun x1 => match x1 with | (x1_0, x1_1, x1_2) => (P5 U0 x1_0 x1_1 x1_2 ([] : R6)).bind fun X22 => l9 X22 (fun _ => none)
def T2 (x13 : D0) (p0_0 : Int) (p0_1 : Int) (p0_2 : I0) (u8 : Int) : Nat → Int → (List C0) → Option ((List C0))
 | 0, _, _ => none
 | fuel + 1, u17, u18 => (if (decide (u17 < ((x13.length : Nat) : Int))) = true then (gi x13 u17).bind fun x22 => (Y5 (p0_0, p0_1, p0_2) u8 x22).bind fun x23 => (grd (N0 x23)).bind fun _ => (if (decide (x23 < 0)) = true then (grd ((u18.length + ([(u8, x22, (-1))]).length) * 24 ≤ 140737488355328)).bind fun _ => (T2 x13 p0_0 p0_1 p0_2 u8 fuel (IntKind.i64.wrap (u17 + 1)) (u18 ++ [(u8, x22, (-1))])) else (T2 x13 p0_0 p0_1 p0_2 u8 fuel (IntKind.i64.wrap (u17 + 1)) u18)) else some (u18))
def U3 (p0_1 : Int) (p0_0 : Int) (p0_2 : I0) : Nat → Int → (List C0) → Option ((List C0))
 | 0, _, _ => none
 | fuel + 1, u8, u9 => (if (decide (u8 < p0_1)) = true then (Z5 p0_0).bind fun x13 => (T2 x13 p0_0 p0_1 p0_2 u8 U0 0 u9).bind (fun y28 => (U3 p0_1 p0_0 p0_2 fuel (IntKind.i64.wrap (u8 + 1)) y28)) else some (u9))
def o6 (p0 : j0) : Option (I0) := match p0 with | (p0_0, p0_1, p0_2) => (S4 (p0_0, p0_1, p0_2)).bind fun x1 => (if (!x1) = true then some ([] : I0) else (U3 p0_1 p0_0 p0_2 U0 0 ([] : I0)).bind (fun y36 => some y36))
end Go.Proofs.YtknoadmdnjaocaaGreat
namespace Go.Proofs.YtknoadmdnjaocaaGreat
open Go.H
set_option linter.unusedVariables false
set_option linter.unusedSimpArgs false
set_option maxRecDepth 10000
def A4 (u20 : Int) (x26 : Int) (u17 : D0) : Nat → Int → (List Int) → (List Int) → Option ((List Int) × (List Int))
 | 0, _, _, _ => none
 | fuel + 1, u30, u31, u32 => (if (decide (u30 < u20)) = true then (if (!decide (u30 = x26)) = true then (grd ((u31.length + [u30].length) * 8 ≤ 140737488355328)).bind fun _ => (gi u17 u30).bind fun x38 => (grd ((u32.length + [x38].length) * 8 ≤ 140737488355328)).bind fun _ => (A4 u20 x26 u17 fuel (IntKind.i64.wrap (u30 + 1)) (u31 ++ [u30]) (u32 ++ [x38])) else (A4 u20 x26 u17 fuel (IntKind.i64.wrap (u30 + 1)) u31 u32)) else some (u31, u32))
def Q4 (p0_0 : Int) (p0_1 : Int) (p0_2 : I0) : Nat → D0 → Int → Int → Int → I0 → Option ((j0 × D0) ⊕ (D0 × Int × Int × I0))
 | 0, _, _, _, _, _ => none
 | fuel + 1, u17, u18, u19, u20, u21 => (chk (decide (u18 < 40)) (C4 (p0_0, p0_1, p0_2)) false).bind fun x24 => (if (bif (decide (u18 < 40)) then x24 else false) = true then (U8 (u19, u20, u21)).bind fun x26 => (grd (N0 x26)).bind fun _ => (if (decide (x26 < 0)) = true then some (.inl ((u19, u20, u21), u17)) else (A4 u20 x26 u17 U0 0 ([] : D0) ([] : D0)).bind (fun S65 => match S65 with | (y52, y53) => (N4 (u19, u20, u21) y52).bind fun x58 => match x58 with | (x58_0, x58_1) => match x58_0 with | (x58_0_0, x58_0_1, x58_0_2) => (Q4 p0_0 p0_1 p0_2 fuel y53 (IntKind.i64.wrap (u18 + 1)) x58_0_0 x58_0_1 x58_0_2))) else some (.inr (u17, u19, u20, u21)))
def R4 (p0_1 : Int) (p0_0 : Int) (p0_2 : I0) : Nat → Int → (List Int) → Option ((List Int))
 | 0, _, _ => none
 | fuel + 1, u5, u6 => (chk (decide (u5 < p0_1)) (C4 (p0_0, p0_1, p0_2)) false).bind fun x9 => (if (bif (decide (u5 < p0_1)) then x9 else false) = true then (grd ((u6.length + [u5].length) * 8 ≤ 140737488355328)).bind fun _ => (R4 p0_1 p0_0 p0_2 fuel (IntKind.i64.wrap (u5 + 1)) (u6 ++ [u5])) else some (u6))
def n8 (p0 : j0) : Option (j0 × D0) := match p0 with | (p0_0, p0_1, p0_2) => (T4 (p0_0, p0_1, p0_2)).bind fun x1 => match x1 with | (x1_0, x1_1, x1_2) => (R4 p0_1 p0_0 p0_2 U0 0 ([] : D0)).bind (fun y75 => (Q4 p0_0 p0_1 p0_2 U0 y75 0 x1_0 x1_1 x1_2).bind fun X137 => l9 X137 (fun S136 => match S136 with | (y132, y133, y134, y135) => some ((y133, y134, y135), y132)))
def o8 (p0 : j0) : Option (j0) := match p0 with | (p0_0, p0_1, p0_2) => (D9 (p0_0, p0_1, p0_2)).bind fun x1 => match x1 with | (x1_0, x1_1) => match x1_0 with | (x1_0_0, x1_0_1, x1_0_2) => (n8 (x1_0_0, x1_0_1, x1_0_2)).bind fun x4 => match x4 with | (x4_0, x4_1) => match x4_0 with | (x4_0_0, x4_0_1, x4_0_2) => (s5 (x4_0_0, x4_0_1, x4_0_2)).bind fun x7 => match x7 with | (x7_0, x7_1, x7_2) => some (x7_0, x7_1, x7_2)
end Go.Proofs.YtknoadmdnjaocaaGreat
namespace Go.Proofs.YtknoadmdnjaocaaGreat
open Go.H
set_option linter.unusedVariables false
set_option linter.unusedSimpArgs false
set_option maxRecDepth 10000
def p8 (p0 : j0) : Option (j0) := match p0 with | (p0_0, p0_1, p0_2) => (E9 (p0_0, p0_1, p0_2)).bind fun x1 => match x1 with | (x1_0, x1_1) => match x1_0 with | (x1_0_0, x1_0_1, x1_0_2) => (L5 (x1_0_0, x1_0_1, x1_0_2)).bind fun x5 => match x5 with | (x5_0, x5_1) => match x5_0 with | (x5_0_0, x5_0_1, x5_0_2) => (w5 (x5_0_0, x5_0_1, x5_0_2)).bind fun x9 => match x9 with | (x9_0, x9_1, x9_2) => some (x9_0, x9_1, x9_2)
end Go.Proofs.YtknoadmdnjaocaaGreat
namespace Go.Proofs.YtknoadmdnjaocaaGreat
open Go.H
set_option linter.unusedVariables false
set_option linter.unusedSimpArgs false
set_option maxRecDepth 10000
def Q5 (p0 : j0) : Option (Bool) := match p0 with | (p0_0, p0_1, p0_2) => (i7 (p0_0, p0_1, p0_2)).bind fun x1 => (chk x1 (l6 (p0_0, p0_1, p0_2)) []).bind fun x4 => (grd (x4.length ≤ 9223372036854775807)).bind fun q7 => some (bif x1 then (decide (((x4.length : Nat) : Int) = 0)) else false)
def N3 (p0_1 : Int) (p1 : Int) : Nat → Int → (List Int) → Option ((List Int))
 | 0, _, _ => none
 | fuel + 1, u8, u9 => (if (decide (u8 < p0_1)) = true then (if (!decide (u8 = p1)) = true then (grd ((u9.length + [u8].length) * 8 ≤ 140737488355328)).bind fun _ => (N3 p0_1 p1 fuel (IntKind.i64.wrap (u8 + 1)) (u9 ++ [u8])) else (N3 p0_1 p1 fuel (IntKind.i64.wrap (u8 + 1)) u9)) else some (u9))
def K8 (p0 : j0) (p1 : Int) : Option (j0 × Bool) := match p0 with | (p0_0, p0_1, p0_2) => (D5 (p0_0, p0_1, p0_2)).bind fun x1 => (chk (!(!x1)) (d5 p1 0 (IntKind.i64.wrap (p0_1 - 1))) false).bind fun x2 => (if (bif (!x1) then true else (!x2)) = true then (T4 (p0_0, p0_1, p0_2)).bind fun x4 => match x4 with | (x4_0, x4_1, x4_2) => some ((x4_0, x4_1, x4_2), false) else (N3 p0_1 p1 U0 0 [p1]).bind (fun y26 => (N4 (p0_0, p0_1, p0_2) y26).bind fun x31 => match x31 with | (x31_0, x31_1) => match x31_0 with | (x31_0_0, x31_0_1, x31_0_2) => (o8 (x31_0_0, x31_0_1, x31_0_2)).bind fun x34 => match x34 with | (x34_0, x34_1, x34_2) => some ((x34_0, x34_1, x34_2), true)))
end Go.Proofs.YtknoadmdnjaocaaGreat
namespace Go.Proofs.YtknoadmdnjaocaaGreat
open Go.H
set_option linter.unusedVariables false
set_option linter.unusedSimpArgs false
set_option maxRecDepth 10000
def R5 (p0 : j0) : Option (Bool) := match p0 with | (p0_0, p0_1, p0_2) => (f8 (p0_0, p0_1, p0_2)).bind fun x1 => (chk x1 (o6 (p0_0, p0_1, p0_2)) []).bind fun x4 => (grd (x4.length ≤ 9223372036854775807)).bind fun q7 => some (bif x1 then (decide (((x4.length : Nat) : Int) = 0)) else false)
def n5 (p0_1 : Int) (p1 : Int) : Nat → Int → (List Int) → Option ((List Int))
 | 0, _, _ => none
 | fuel + 1, u9, u10 => (if (decide (u9 < p0_1)) = true then (if (!decide (u9 = p1)) = true then (grd ((u10.length + [u9].length) * 8 ≤ 140737488355328)).bind fun _ => (n5 p0_1 p1 fuel (IntKind.i64.wrap (u9 + 1)) (u10 ++ [u9])) else (n5 p0_1 p1 fuel (IntKind.i64.wrap (u9 + 1)) u10)) else some (u10))
def L8 (p0 : j0) (p1 : Int) : Option (j0 × Bool) := match p0 with | (p0_0, p0_1, p0_2) => (S4 (p0_0, p0_1, p0_2)).bind fun x1 => (chk (!(!x1)) (D3 (p0_0, p0_1, p0_2) p1) false).bind fun x2 => (if (bif (!x1) then true else (!x2)) = true then (E4 (p0_0, p0_1, p0_2)).bind fun x4 => match x4 with | (x4_0, x4_1, x4_2) => some ((x4_0, x4_1, x4_2), false) else (n5 p0_1 p1 U0 0 [p1]).bind (fun y29 => (z9 (p0_0, p0_1, p0_2) y29).bind fun x34 => match x34 with | (x34_0, x34_1, x34_2) => (p8 (x34_0, x34_1, x34_2)).bind fun x38 => match x38 with | (x38_0, x38_1, x38_2) => some ((x38_0, x38_1, x38_2), true)))
end Go.Proofs.YtknoadmdnjaocaaGreat
namespace Go.Proofs.YtknoadmdnjaocaaGreat
open Go.H
set_option linter.unusedVariables false
set_option linter.unusedSimpArgs false
set_option maxRecDepth 10000
def r8 (p0 : j0) : Option (Bool) := match p0 with | (p0_0, p0_1, p0_2) => (i7 (p0_0, p0_1, p0_2)).bind fun x1 => some (bif x1 then (decide (((p0_2.length : Nat) : Int) = 0)) else false)
def K4 (x9 : D0) (u13 : Int) (p0_0 : Int) (p0_1 : Int) (p0_2 : I0) : Nat → Int → (List Bool) → (List D0) → (List Int) → Option ((List Bool) × (List D0) × (List Int))
 | 0, _, _, _, _ => none
 | fuel + 1, u23, u24, u25, u26 => (if (decide (u23 < ((x9.length : Nat) : Int))) = true then (gi u26 u13).bind fun x30 => (gi x9 u23).bind fun x31 => (W5 (p0_0, p0_1, p0_2) x30 x31).bind fun x32 => (grd (N0 x32)).bind fun _ => (chk (decide (x32 ≥ 0)) (gi u24 x32) false).bind fun x34 => (if (bif (decide (x32 ≥ 0)) then (!x34) else false) = true then (gi u24 x32).bind fun x36 => (gi u26 u13).bind fun x40 => (gi u25 x40).bind fun x45 => (grd (x45.length * 8 ≤ 140737488355328)).bind fun q50 => (gi x9 u23).bind fun x55 => (some [x55]).bind fun x60 => (grd ((x45.length + x60.length) * 8 ≤ 140737488355328)).bind fun _ => (gi u25 x32).bind fun x71 => (grd ((u26.length + [x32].length) * 8 ≤ 140737488355328)).bind fun _ => (K4 x9 u13 p0_0 p0_1 p0_2 fuel (IntKind.i64.wrap (u23 + 1)) (u24.set x32.toNat true) (u25.set x32.toNat (x45 ++ x60)) (u26 ++ [x32])) else (K4 x9 u13 p0_0 p0_1 p0_2 fuel (IntKind.i64.wrap (u23 + 1)) u24 u25 u26)) else some (u24, u25, u26))
def d6 (x9 : D0) (p0_0 : Int) (p0_1 : Int) (p0_2 : I0) : Nat → Int → (List Bool) → (List D0) → (List Int) → Option ((List Bool) × (List D0) × (List Int))
 | 0, _, _, _, _ => none
 | fuel + 1, u13, u14, u15, u16 => (some u16.length).bind fun m19 => (grd (m19 ≤ 9223372036854775807)).bind fun _ => (if (decide (u13 < ((m19 : Nat) : Int))) = true then (K4 x9 u13 p0_0 p0_1 p0_2 U0 0 u14 u15 u16).bind (fun S77 => match S77 with | (y74, y75, y76) => (d6 x9 p0_0 p0_1 p0_2 fuel (IntKind.i64.wrap (u13 + 1)) y74 y75 y76)) else some (u14, u15, u16))
def M8 (p0 : j0) (p1 : Int) : Option ((List Bool) × B8) := match p0 with | (p0_0, p0_1, p0_2) => (grd ((0 : Int) ≤ p0_1 ∧ p0_1 ≤ p0_1 ∧ p0_1 * 1 ≤ 140737488355328 ∧ p0_1 ≤ 9223372036854775807)).bind fun _ => (grd ((0 : Int) ≤ p0_1 ∧ p0_1 ≤ p0_1 ∧ p0_1 * 24 ≤ 140737488355328 ∧ p0_1 ≤ 9223372036854775807)).bind fun _ => (gi (List.replicate p0_1.toNat (false : Bool)) p1).bind fun x3 => (gi (List.replicate p0_1.toNat ([] : D0)) p1).bind fun x4 => (J5 p0_0).bind fun x9 => (d6 x9 p0_0 p0_1 p0_2 U0 0 ((List.replicate p0_1.toNat (false : Bool)).set p1.toNat true) ((List.replicate p0_1.toNat ([] : D0)).set p1.toNat ([] : D0)) [p1]).bind (fun S99 => match S99 with | (y88, y89, y90) => some (y88, y89))
def r6 (p0 : j0) (p1 : Int) (p2 : Int) : Option (D0 × Bool) := match p0 with | (p0_0, p0_1, p0_2) => (D5 (p0_0, p0_1, p0_2)).bind fun x1 => (chk (!(!x1)) (d5 p1 0 (IntKind.i64.wrap (p0_1 - 1))) false).bind fun x2 => (chk (!(bif (!x1) then true else (!x2))) (d5 p2 0 (IntKind.i64.wrap (p0_1 - 1))) false).bind fun x3 => (if (bif (bif (!x1) then true else (!x2)) then true else (!x3)) = true then some (([] : D0), false) else (M8 (p0_0, p0_1, p0_2) p1).bind fun x9 => match x9 with | (x9_0, x9_1) => (gi x9_0 p2).bind fun x12 => (if (!x12) = true then some (([] : D0), false) else (gi x9_1 p2).bind fun x18 => (grd ((([] : D0).length + x18.length) * 8 ≤ 140737488355328)).bind fun _ => some ((([] : D0) ++ x18), true)))
def N8 (p0 : j0) (p1 : Int) : Option (D0) := match p0 with | (p0_0, p0_1, p0_2) => (r6 (p0_0, p0_1, p0_2) 0 p1).bind fun x1 => match x1 with | (x1_0, x1_1) => some x1_0
def j2 (p0_1 : Int) (p0_0 : Int) (p0_2 : I0) : Nat → Int → (List D0) → Option ((List D0))
 | 0, _, _ => none
 | fuel + 1, u2, u3 => (chk (decide (u2 < p0_1)) (Q5 (p0_0, p0_1, p0_2)) false).bind fun x6 => (if (bif (decide (u2 < p0_1)) then x6 else false) = true then (K8 (p0_0, p0_1, p0_2) u2).bind fun x8 => match x8 with | (x8_0, x8_1) => match x8_0 with | (x8_0_0, x8_0_1, x8_0_2) => (F6 (x8_0_0, x8_0_1, x8_0_2) (p0_0, p0_1, p0_2)).bind fun x11 => (if x11 = true then (N8 (p0_0, p0_1, p0_2) u2).bind fun x13 => (grd ((u3.length + [x13].length) * 24 ≤ 140737488355328)).bind fun _ => (j2 p0_1 p0_0 p0_2 fuel (IntKind.i64.wrap (u2 + 1)) (u3 ++ [x13])) else (j2 p0_1 p0_0 p0_2 fuel (IntKind.i64.wrap (u2 + 1)) u3)) else some (u3))
def W4 (p0 : j0) : Option (B8) := match p0 with | (p0_0, p0_1, p0_2) => (j2 p0_1 p0_0 p0_2 U0 0 ([] : B8)).bind (fun y22 => some y22)
def O8 (p0 : j0) : Option (Bool) := match p0 with | (p0_0, p0_1, p0_2) => (r8 (p0_0, p0_1, p0_2)).bind fun x1 => (chk (!x1) (Q5 (p0_0, p0_1, p0_2)) false).bind fun x4 => (chk (x4 && (!x1)) (W4 (p0_0, p0_1, p0_2)) []).bind fun x7 => (grd (x7.length ≤ 9223372036854775807)).bind fun q10 => some (bif x1 then true else (bif x4 then (decide (((x7.length : Nat) : Int) = p0_1)) else false))
def V3 (p0 : V5) : Nat → Int → (List Int) → Option ((List Int))
 | 0, _, _ => none
 | fuel + 1, u2, u3 => (if (decide (u2 < ((p0.length : Nat) : Int))) = true then (gi p0 u2).bind fun x7 => match x7 with | (x7_0, x7_1, x7_2) => (O8 (x7_0, x7_1, x7_2)).bind fun x8 => (if x8 = true then (grd ((u3.length + [u2].length) * 8 ≤ 140737488355328)).bind fun _ => (V3 p0 fuel (IntKind.i64.wrap (u2 + 1)) (u3 ++ [u2])) else (V3 p0 fuel (IntKind.i64.wrap (u2 + 1)) u3)) else some (u3))
def i9 (p0 : V5) : Option (D0) := (V3 p0 U0 0 ([] : D0)).bind (fun y16 => some y16)
end Go.Proofs.YtknoadmdnjaocaaGreat
namespace Go.Proofs.YtknoadmdnjaocaaGreat
open Go.H
set_option linter.unusedVariables false
set_option linter.unusedSimpArgs false
set_option maxRecDepth 10000
def s8 (p0 : j0) : Option (Bool) := match p0 with | (p0_0, p0_1, p0_2) => (f8 (p0_0, p0_1, p0_2)).bind fun x1 => some (bif (bif x1 then (decide (p0_1 = 1)) else false) then (decide (((p0_2.length : Nat) : Int) = 0)) else false)
def Z6 (x17 : D0) (p0_0 : Int) (p0_1 : Int) (p0_2 : I0) (x16 : Int) : Nat → Int → (List (Option D0)) → (List Int) → Option ((List (Option D0)) × (List Int))
 | 0, _, _, _ => none
 | fuel + 1, u21, u22, u23 => (if (decide (u21 < ((x17.length : Nat) : Int))) = true then (gi x17 u21).bind fun x27 => (Y5 (p0_0, p0_1, p0_2) x16 x27).bind fun x28 => (grd (N0 x28)).bind fun _ => (chk (decide (x28 ≥ 0)) (gi u22 x28) (none : Option D0)).bind fun x30 => (if (bif (decide (x28 ≥ 0)) then x30.isNone else false) = true then (gi u22 x16).bind fun x32 => (U7 (x32.getD [])).bind fun x33 => (grd ((x33.length + [x27].length) * 8 ≤ 140737488355328)).bind fun _ => (gi u22 x28).bind fun x38 => (grd ((u23.length + [x28].length) * 8 ≤ 140737488355328)).bind fun _ => (Z6 x17 p0_0 p0_1 p0_2 x16 fuel (IntKind.i64.wrap (u21 + 1)) (u22.set x28.toNat (some (x33 ++ [x27]))) (u23 ++ [x28])) else (Z6 x17 p0_0 p0_1 p0_2 x16 fuel (IntKind.i64.wrap (u21 + 1)) u22 u23)) else some (u22, u23))
def N7 (p0_0 : Int) (p0_1 : Int) (p0_2 : I0) : Nat → Int → (List (Option D0)) → (List Int) → Option ((List (Option D0)) × (List Int))
 | 0, _, _, _ => none
 | fuel + 1, u8, u9, u10 => (some u10.length).bind fun m13 => (grd (m13 ≤ 9223372036854775807)).bind fun _ => (if (decide (u8 < ((m13 : Nat) : Int))) = true then (gi u10 u8).bind fun x16 => (Z5 p0_0).bind fun x17 => (Z6 x17 p0_0 p0_1 p0_2 x16 U0 0 u9 u10).bind (fun S43 => match S43 with | (y41, y42) => (N7 p0_0 p0_1 p0_2 fuel (IntKind.i64.wrap (u8 + 1)) y41 y42)) else some (u9, u10))
def D00 (p0 : j0) (p1 : Int) : Option (D0 × (List (Option D0))) := match p0 with | (p0_0, p0_1, p0_2) => (grd ((0 : Int) ≤ p0_1 ∧ p0_1 ≤ p0_1 ∧ p0_1 * 24 ≤ 140737488355328 ∧ p0_1 ≤ 9223372036854775807)).bind fun _ => (gi (List.replicate p0_1.toNat (none : Option D0)) p1).bind fun x2 => (N7 p0_0 p0_1 p0_2 U0 0 ((List.replicate p0_1.toNat (none : Option D0)).set p1.toNat (some ([] : D0))) [p1]).bind (fun S64 => match S64 with | (y54, y55) => some (y55, y54))
def t6 (p0 : j0) (p1 : Int) (p2 : Int) : Option (D0 × Bool) := match p0 with | (p0_0, p0_1, p0_2) => (S4 (p0_0, p0_1, p0_2)).bind fun x1 => (chk (!(!x1)) (D3 (p0_0, p0_1, p0_2) p1) false).bind fun x2 => (chk (!(bif (!x1) then true else (!x2))) (D3 (p0_0, p0_1, p0_2) p2) false).bind fun x3 => (if (bif (bif (!x1) then true else (!x2)) then true else (!x3)) = true then some (([] : D0), false) else (D00 (p0_0, p0_1, p0_2) p1).bind fun x9 => match x9 with | (x9_0, x9_1) => (gi x9_1 p2).bind fun x12 => (if x12.isNone = true then some (([] : D0), false) else (gi x9_1 p2).bind fun x18 => some ((x18.getD []), true)))
def P8 (p0 : j0) (p1 : Int) : Option (D0) := match p0 with | (p0_0, p0_1, p0_2) => (t6 (p0_0, p0_1, p0_2) 0 p1).bind fun x1 => match x1 with | (x1_0, x1_1) => some x1_0
def I2 (p0_1 : Int) (p0_0 : Int) (p0_2 : I0) : Nat → Int → (List D0) → Option ((List D0))
 | 0, _, _ => none
 | fuel + 1, u8, u9 => (if (decide (u8 < p0_1)) = true then (L8 (p0_0, p0_1, p0_2) u8).bind fun x13 => match x13 with | (x13_0, x13_1) => match x13_0 with | (x13_0_0, x13_0_1, x13_0_2) => (G6 (x13_0_0, x13_0_1, x13_0_2) (p0_0, p0_1, p0_2)).bind fun x16 => (if x16 = true then (P8 (p0_0, p0_1, p0_2) u8).bind fun x18 => (grd ((u9.length + [x18].length) * 24 ≤ 140737488355328)).bind fun _ => (I2 p0_1 p0_0 p0_2 fuel (IntKind.i64.wrap (u8 + 1)) (u9 ++ [x18])) else (I2 p0_1 p0_0 p0_2 fuel (IntKind.i64.wrap (u8 + 1)) u9)) else some (u9))
def Y4 (p0 : j0) : Option (B8) := match p0 with | (p0_0, p0_1, p0_2) => (R5 (p0_0, p0_1, p0_2)).bind fun x1 => (if (!x1) = true then some ([] : B8) else (I2 p0_1 p0_0 p0_2 U0 0 ([] : B8)).bind (fun y27 => some y27))
def Q8 (p0 : j0) : Option (Bool) := match p0 with | (p0_0, p0_1, p0_2) => (s8 (p0_0, p0_1, p0_2)).bind fun x1 => (chk (!x1) (R5 (p0_0, p0_1, p0_2)) false).bind fun x4 => (chk (x4 && (!x1)) (Y4 (p0_0, p0_1, p0_2)) []).bind fun x7 => (grd (x7.length ≤ 9223372036854775807)).bind fun q10 => some (bif x1 then true else (bif x4 then (decide (((x7.length : Nat) : Int) = p0_1)) else false))
def Y3 (p0 : V5) : Nat → Int → (List Int) → Option ((List Int))
 | 0, _, _ => none
 | fuel + 1, u2, u3 => (if (decide (u2 < ((p0.length : Nat) : Int))) = true then (gi p0 u2).bind fun x7 => match x7 with | (x7_0, x7_1, x7_2) => (Q8 (x7_0, x7_1, x7_2)).bind fun x8 => (if x8 = true then (grd ((u3.length + [u2].length) * 8 ≤ 140737488355328)).bind fun _ => (Y3 p0 fuel (IntKind.i64.wrap (u2 + 1)) (u3 ++ [u2])) else (Y3 p0 fuel (IntKind.i64.wrap (u2 + 1)) u3)) else some (u3))
def j9 (p0 : V5) : Option (D0) := (Y3 p0 U0 0 ([] : D0)).bind (fun y16 => some y16)
end Go.Proofs.YtknoadmdnjaocaaGreat
