/- Texts of the claim, joined: What functions of the program compute, in plain words: batch 1; What functions of the program compute, in plain words: batch 4g; What functions of the program compute, in plain words: batch 9; What functions of the program compute, in plain words: batch g1; What functions of the program compute, in plain words: batch g2; What functions of the program compute, in plain words: batch g3; What functions of the program compute, in plain words: batch g4; What functions of the program compute, in plain words: batch g5; What functions of the program compute, in plain words: batch h3; What functions of the program compute, in plain words: batch 3; What functions of the program compute, in plain words: batch i4; What functions of the program compute, in plain words: batch n1; What functions of the program compute, in plain words: batch q6; What functions of the program compute, in plain words: batch n2. -/
import Derived.Test.YtknoadmdnjaocaaGreatPart17
import Derived.Test.YtknoadmdnjaocaaGreatH36
namespace Go.Proofs.YtknoadmdnjaocaaGreat
open Go.H
set_option linter.unusedVariables false
set_option linter.unusedSimpArgs false
set_option maxRecDepth 10000
def E5 (p0 : Int) (p1 : Int) (p2 : Int) : Option (Bool) := some (bif (decide (p0 ≥ p1)) then (decide (p0 ≤ p2)) else false)
def v6 (p0 : Int) (p1 : Int) (p2 : Int) : Option (Bool) := some (bif (decide (p0 ≥ p1)) then (decide (p0 ≤ p2)) else false)
def F7 (p0 : Int) (p1 : Int) : Option (Bool) := some (bif (bif (!decide (p0 = 0)) then (!decide (p0 = (-9223372036854775808))) else false) then (decide (p1 = (IntKind.i64.wrap (0 - p0)))) else false)
def C5 (p0 : Int) (p1 : Int) : Option (Int) := (if (decide (p0 < p1)) = true then some (-1) else (if (decide (p0 > p1)) = true then some 1 else some 0))
end Go.Proofs.YtknoadmdnjaocaaGreat
namespace Go.Proofs.YtknoadmdnjaocaaGreat
open Go.H
set_option linter.unusedVariables false
set_option linter.unusedSimpArgs false
set_option maxRecDepth 10000
def B9 (p0 : j0) (p1 : B0) : Option (Bool) := match p0 with | (p0_0, p0_1, p0_2) => match p1 with | (p1_0, p1_1, p1_2) => (E5 p1_0 0 (IntKind.i64.wrap (p0_1 - 1))).bind fun x1 => (chk x1 (E5 p1_2 0 (IntKind.i64.wrap (p0_1 - 1))) false).bind fun x2 => (chk (bif x1 then x2 else false) (E5 p1_1 1 p0_0) false).bind fun x3 => some (bif (bif x1 then x2 else false) then x3 else false)
def p5 (p0_0 : Int) (p0_1 : Int) (p0_2 : Int) (p1_0 : Int) (p1_1 : Int) (p1_2 : Int) : Nat → Int → Option ((Int) ⊕ (Unit))
 | 0, _ => none
 | fuel + 1, u2 => (if (decide (u2 < 3)) = true then (gi [p0_0, p0_1, p0_2] u2).bind fun x6 => (gi [p1_0, p1_1, p1_2] u2).bind fun x7 => (if (decide (x6 < x7)) = true then some (.inl (-1)) else (gi [p0_0, p0_1, p0_2] u2).bind fun x9 => (gi [p1_0, p1_1, p1_2] u2).bind fun x10 => (if (decide (x9 > x10)) = true then some (.inl 1) else (p5 p0_0 p0_1 p0_2 p1_0 p1_1 p1_2 fuel (IntKind.i64.wrap (u2 + 1))))) else some (.inr ()))
def R5 (p0 : B0) (p1 : B0) : Option (Int) := match p0 with | (p0_0, p0_1, p0_2) => match p1 with | (p1_0, p1_1, p1_2) => (p5 p0_0 p0_1 p0_2 p1_0 p1_1 p1_2 T0 0).bind fun X14 => T7 X14 (fun _ => some 0)
def F5 (p0_2 : D0) (p0_0 : Int) (p0_1 : Int) : Nat → Int → Option ((Bool) ⊕ (Unit))
 | 0, _ => none
 | fuel + 1, u2 => (if (decide (u2 < ((p0_2.length : Nat) : Int))) = true then (gi p0_2 u2).bind fun x6 => match x6 with | (x6_0, x6_1, x6_2) => (B9 (p0_0, p0_1, p0_2) (x6_0, x6_1, x6_2)).bind fun x7 => (chk ((decide (u2 > 0)) && (!(!x7))) (gi p0_2 (IntKind.i64.wrap (u2 - 1))) (0, 0, 0)).bind fun x8 => match x8 with | (x8_0, x8_1, x8_2) => (chk ((decide (u2 > 0)) && (!(!x7))) (gi p0_2 u2) (0, 0, 0)).bind fun x9 => match x9 with | (x9_0, x9_1, x9_2) => (chk ((decide (u2 > 0)) && (!(!x7))) (R5 (x8_0, x8_1, x8_2) (x9_0, x9_1, x9_2)) 0).bind fun x10 => (grd (P0 x10)).bind fun _ => (if (bif (!x7) then true else (bif (decide (u2 > 0)) then (decide (x10 ≥ 0)) else false)) = true then some (.inl false) else (F5 p0_2 p0_0 p0_1 fuel (IntKind.i64.wrap (u2 + 1)))) else some (.inr ()))
def J6 (p0 : j0) : Option (Bool) := match p0 with | (p0_0, p0_1, p0_2) => (F5 p0_2 p0_0 p0_1 T0 0).bind fun X19 => T7 X19 (fun _ => (E5 p0_0 1 3).bind fun x16 => (chk x16 (E5 p0_1 1 40) false).bind fun x17 => some (bif (bif x16 then x17 else false) then (decide (((p0_2.length : Nat) : Int) ≤ 120)) else false))
def a8 (p0 : j0) (p1 : Int) : Option (Bool) := match p0 with | (p0_0, p0_1, p0_2) => (v6 p1 0 (IntKind.i64.wrap (p0_1 - 1))).bind fun x1 => some x1
def K6 (p0 : j0) (p1 : B0) : Option (Bool) := match p0 with | (p0_0, p0_1, p0_2) => match p1 with | (p1_0, p1_1, p1_2) => (a8 (p0_0, p0_1, p0_2) p1_0).bind fun x1 => (chk x1 (a8 (p0_0, p0_1, p0_2) p1_2) false).bind fun x2 => (chk (bif x1 then x2 else false) (v6 p1_1 1 p0_0) false).bind fun x3 => some (bif (bif x1 then x2 else false) then x3 else false)
def S6 (p0 : B0) (p1 : B0) : Option (Int) := match p0 with | (p0_0, p0_1, p0_2) => match p1 with | (p1_0, p1_1, p1_2) => (C5 p0_0 p1_0).bind fun x1 => (grd (P0 x1)).bind fun _ => (if (!decide (x1 = 0)) = true then some x1 else (C5 p0_1 p1_1).bind fun x4 => (grd (P0 x4)).bind fun _ => (if (!decide (x4 = 0)) = true then some x4 else (C5 p0_2 p1_2).bind fun x7 => (grd (P0 x7)).bind fun _ => some x7))
def G5 (p0_2 : D0) (p0_0 : Int) (p0_1 : Int) : Nat → Int → Option ((Bool) ⊕ (Unit))
 | 0, _ => none
 | fuel + 1, u5 => (if (decide (u5 < ((p0_2.length : Nat) : Int))) = true then (gi p0_2 u5).bind fun x9 => match x9 with | (x9_0, x9_1, x9_2) => (K6 (p0_0, p0_1, p0_2) (x9_0, x9_1, x9_2)).bind fun x10 => (chk ((decide (u5 > 0)) && (!(!x10))) (gi p0_2 (IntKind.i64.wrap (u5 - 1))) (0, 0, 0)).bind fun x11 => match x11 with | (x11_0, x11_1, x11_2) => (chk ((decide (u5 > 0)) && (!(!x10))) (S6 (x11_0, x11_1, x11_2) (x9_0, x9_1, x9_2)) 0).bind fun x12 => (grd (P0 x12)).bind fun _ => (if (bif (!x10) then true else (bif (decide (u5 > 0)) then (decide (x12 ≥ 0)) else false)) = true then some (.inl false) else (G5 p0_2 p0_0 p0_1 fuel (IntKind.i64.wrap (u5 + 1)))) else some (.inr ()))
def c8 (p0 : j0) : Option (Bool) := match p0 with | (p0_0, p0_1, p0_2) => (v6 p0_0 1 3).bind fun x1 => (chk (!(!x1)) (v6 p0_1 1 40) false).bind fun x2 => (if (bif (bif (!x1) then true else (!x2)) then true else (decide (((p0_2.length : Nat) : Int) > 120))) = true then some false else (G5 p0_2 p0_0 p0_1 T0 0).bind fun X17 => T7 X17 (fun _ => some true))
end Go.Proofs.YtknoadmdnjaocaaGreat
namespace Go.Proofs.YtknoadmdnjaocaaGreat
open Go.H
set_option linter.unusedVariables false
set_option linter.unusedSimpArgs false
set_option maxRecDepth 10000
def J3 (p0 : J0) (p1 : Int) : Nat → Bool → Int → (List Int) → Option (Bool × (List Int))
 | 0, _, _, _ => none
 | fuel + 1, u2, u3, u4 => (if (decide (u3 < ((p0.length : Nat) : Int))) = true then (gi p0 u3).bind fun x8 => (if (decide (x8 = p1)) = true then (gi p0 u3).bind fun x10 => (if (bif (decide (x10 > p1)) then (!true) else false) = true then (grd ((u4.length + [p1].length) * 8 ≤ 140737488355328)).bind fun _ => (gi p0 u3).bind fun x13 => (grd (((u4 ++ [p1]).length + [x13].length) * 8 ≤ 140737488355328)).bind fun _ => (J3 p0 p1 fuel true (IntKind.i64.wrap (u3 + 1)) ((u4 ++ [p1]) ++ [x13])) else (gi p0 u3).bind fun x15 => (grd ((u4.length + [x15].length) * 8 ≤ 140737488355328)).bind fun _ => (J3 p0 p1 fuel true (IntKind.i64.wrap (u3 + 1)) (u4 ++ [x15]))) else (gi p0 u3).bind fun x17 => (if (bif (decide (x17 > p1)) then (!u2) else false) = true then (grd ((u4.length + [p1].length) * 8 ≤ 140737488355328)).bind fun _ => (gi p0 u3).bind fun x20 => (grd (((u4 ++ [p1]).length + [x20].length) * 8 ≤ 140737488355328)).bind fun _ => (J3 p0 p1 fuel true (IntKind.i64.wrap (u3 + 1)) ((u4 ++ [p1]) ++ [x20])) else (gi p0 u3).bind fun x22 => (grd ((u4.length + [x22].length) * 8 ≤ 140737488355328)).bind fun _ => (J3 p0 p1 fuel u2 (IntKind.i64.wrap (u3 + 1)) (u4 ++ [x22])))) else some (u2, u4))
def w6 (p0 : J0) (p1 : Int) : Option (J0) := (J3 p0 p1 T0 false 0 ([] : J0)).bind (fun S47 => match S47 with | (y35, y36) => (if (!y35) = true then (grd ((y36.length + [p1].length) * 8 ≤ 140737488355328)).bind fun _ => some (y36 ++ [p1]) else some y36))
def L6 (p0 : J0) (p1 : Int) : Nat → Int → Option ((Bool) ⊕ (Unit))
 | 0, _ => none
 | fuel + 1, u2 => (if (decide (u2 < ((p0.length : Nat) : Int))) = true then (gi p0 u2).bind fun x6 => (if (decide (x6 = p1)) = true then some (.inl true) else (L6 p0 p1 fuel (IntKind.i64.wrap (u2 + 1)))) else some (.inr ()))
def A6 (p0 : J0) (p1 : Int) : Option (Bool) := (L6 p0 p1 T0 0).bind fun X10 => T7 X10 (fun _ => some false)
def B3 (p0_2 : D0) (p2 : Int) (p1 : Int) : Nat → J0 → Int → Option (J0)
 | 0, _, _ => none
 | fuel + 1, u6, u7 => (if (decide (u7 < ((p0_2.length : Nat) : Int))) = true then (gi p0_2 u7).bind fun x11 => match x11 with | (x11_0, x11_1, x11_2) => (if (bif (bif (decide (p2 > 0)) then (decide (x11_1 = p2)) else false) then (decide (x11_0 = p1)) else false) = true then (w6 u6 x11_2).bind fun x13 => (if (bif (bif (decide (p2 < 0)) then (decide (x11_1 = (IntKind.i64.wrap (0 - p2)))) else false) then (decide (x11_2 = p1)) else false) = true then (w6 x13 x11_0).bind fun x17 => (B3 p0_2 p2 p1 fuel x17 (IntKind.i64.wrap (u7 + 1))) else (B3 p0_2 p2 p1 fuel x13 (IntKind.i64.wrap (u7 + 1)))) else (if (bif (bif (decide (p2 < 0)) then (decide (x11_1 = (IntKind.i64.wrap (0 - p2)))) else false) then (decide (x11_2 = p1)) else false) = true then (w6 u6 x11_0).bind fun x21 => (B3 p0_2 p2 p1 fuel x21 (IntKind.i64.wrap (u7 + 1))) else (B3 p0_2 p2 p1 fuel u6 (IntKind.i64.wrap (u7 + 1))))) else some (u6))
def d8 (p0 : j0) (p1 : Int) (p2 : Int) : Option (J0) := match p0 with | (p0_0, p0_1, p0_2) => (B3 p0_2 p2 p1 T0 ([] : J0) 0).bind (fun y25 => some y25)
def M5 (p0 : j0) (p1 : Int) (p2 : Int) : Option (Int) := match p0 with | (p0_0, p0_1, p0_2) => (d8 (p0_0, p0_1, p0_2) p1 p2).bind fun x1 => (if (decide (((x1.length : Nat) : Int) = 0)) = true then some (-1) else (gi x1 0).bind fun x5 => some x5)
def i5 (u2 : Int) (p0_2 : D0) : Nat → Int → Option ((Bool) ⊕ (Unit))
 | 0, _ => none
 | fuel + 1, u8 => (if (decide (u8 < u2)) = true then (gi p0_2 u2).bind fun x12 => match x12 with | (x12_0, x12_1, x12_2) => (gi p0_2 u8).bind fun x13 => match x13 with | (x13_0, x13_1, x13_2) => (if (bif (decide (x12_1 = x13_1)) then (bif (decide (x12_0 = x13_0)) then true else (decide (x12_2 = x13_2))) else false) = true then some (.inl false) else (i5 u2 p0_2 fuel (IntKind.i64.wrap (u8 + 1)))) else some (.inr ()))
def d4 (p0_2 : D0) (p0_0 : Int) (p0_1 : Int) : Nat → Int → Option ((Bool) ⊕ (Unit))
 | 0, _ => none
 | fuel + 1, u2 => (chk (decide (u2 < ((p0_2.length : Nat) : Int))) (J6 (p0_0, p0_1, p0_2)) false).bind fun x5 => (if (bif (decide (u2 < ((p0_2.length : Nat) : Int))) then x5 else false) = true then (i5 u2 p0_2 T0 0).bind fun X17 => R0e X17 (fun _ => (d4 p0_2 p0_0 p0_1 fuel (IntKind.i64.wrap (u2 + 1)))) else some (.inr ()))
def B7 (p0 : j0) : Option (Bool) := match p0 with | (p0_0, p0_1, p0_2) => (d4 p0_2 p0_0 p0_1 T0 0).bind fun X22 => T7 X22 (fun _ => (J6 (p0_0, p0_1, p0_2)).bind fun x20 => some x20)
def O3 (p0_2 : D0) (p2 : Int) (p1 : Int) : Nat → Int → (List Int) → Option ((List Int))
 | 0, _, _ => none
 | fuel + 1, u2, u3 => (if (decide (u2 < ((p0_2.length : Nat) : Int))) = true then (gi p0_2 u2).bind fun x7 => match x7 with | (x7_0, x7_1, x7_2) => (if (bif (bif (decide (p2 > 0)) then (decide (x7_1 = p2)) else false) then (decide (x7_0 = p1)) else false) = true then (grd ((u3.length + [x7_2].length) * 8 ≤ 140737488355328)).bind fun _ => (O3 p0_2 p2 p1 fuel (IntKind.i64.wrap (u2 + 1)) (u3 ++ [x7_2])) else (if (bif (bif (bif (decide (p2 < 0)) then (!decide (p2 = (-9223372036854775808))) else false) then (decide (x7_1 = (IntKind.i64.wrap (0 - p2)))) else false) then (decide (x7_2 = p1)) else false) = true then (grd ((u3.length + [x7_0].length) * 8 ≤ 140737488355328)).bind fun _ => (O3 p0_2 p2 p1 fuel (IntKind.i64.wrap (u2 + 1)) (u3 ++ [x7_0])) else (O3 p0_2 p2 p1 fuel (IntKind.i64.wrap (u2 + 1)) u3))) else some (u3))
def f8 (p0 : j0) (p1 : Int) (p2 : Int) : Option (J0) := match p0 with | (p0_0, p0_1, p0_2) => (O3 p0_2 p2 p1 T0 0 ([] : J0)).bind (fun y19 => (grd (y19.length < 4611686018427387904)).bind fun _ => some (w00 eqI (O02 O6 y19)))
def N5 (p0 : j0) (p1 : Int) (p2 : Int) : Option (Int) := match p0 with | (p0_0, p0_1, p0_2) => (f8 (p0_0, p0_1, p0_2) p1 p2).bind fun x1 => (if (decide (((x1.length : Nat) : Int) = 0)) = true then some (-1) else (gi x1 0).bind fun x5 => some x5)
def j5 (x9 : D0) (x8_1 : Int) (x8_0 : Int) (x8_2 : Int) : Nat → Int → Option ((Bool) ⊕ (Unit))
 | 0, _ => none
 | fuel + 1, u11 => (if (decide (u11 < ((x9.length : Nat) : Int))) = true then (gi x9 u11).bind fun x15 => match x15 with | (x15_0, x15_1, x15_2) => (if (bif (decide (x8_1 = x15_1)) then (bif (decide (x8_0 = x15_0)) then true else (decide (x8_2 = x15_2))) else false) = true then some (.inl false) else (j5 x9 x8_1 x8_0 x8_2 fuel (IntKind.i64.wrap (u11 + 1)))) else some (.inr ()))
def l5 (p0_2 : D0) : Nat → Int → Option ((Bool) ⊕ (Unit))
 | 0, _ => none
 | fuel + 1, u4 => (if (decide (u4 < ((p0_2.length : Nat) : Int))) = true then (gi p0_2 u4).bind fun x8 => match x8 with | (x8_0, x8_1, x8_2) => (V04 p0_2 (IntKind.i64.wrap (u4 + 1)) (p0_2.length : Int)).bind fun x9 => (j5 x9 x8_1 x8_0 x8_2 T0 0).bind fun X19 => R0e X19 (fun _ => (l5 p0_2 fuel (IntKind.i64.wrap (u4 + 1)))) else some (.inr ()))
def S5 (p0 : j0) : Option (Bool) := match p0 with | (p0_0, p0_1, p0_2) => (c8 (p0_0, p0_1, p0_2)).bind fun x1 => (if (!x1) = true then some false else (l5 p0_2 T0 0).bind fun X22 => T7 X22 (fun _ => some true))
def I4 (p2 : J0) (p0_0 : Int) (p0_1 : Int) (p0_2 : D0) : Nat → Int → Int → Option ((Int × Int) ⊕ (Int))
 | 0, _, _ => none
 | fuel + 1, u2, u3 => (if (decide (u3 < ((p2.length : Nat) : Int))) = true then (gi p2 u3).bind fun x7 => (N5 (p0_0, p0_1, p0_2) u2 x7).bind fun x8 => (grd (P0 x8)).bind fun _ => (if (decide (x8 < 0)) = true then some (.inl (u2, u3)) else (I4 p2 p0_0 p0_1 p0_2 fuel x8 (IntKind.i64.wrap (u3 + 1)))) else some (.inr (u2)))
def G7 (p0 : j0) (p1 : Int) (p2 : J0) : Option (Int × Int) := match p0 with | (p0_0, p0_1, p0_2) => (I4 p2 p0_0 p0_1 p0_2 T0 p1 0).bind fun X14 => T7 X14 (fun y12 => some (y12, ((p2.length : Nat) : Int)))
end Go.Proofs.YtknoadmdnjaocaaGreat
namespace Go.Proofs.YtknoadmdnjaocaaGreat
open Go.H
set_option linter.unusedVariables false
set_option linter.unusedSimpArgs false
set_option maxRecDepth 10000
def Y6 (p0 : j0) : Option (j0) := match p0 with | (p0_0, p0_1, p0_2) => (grd ((([] : D0).length + p0_2.length) * 24 ≤ 140737488355328)).bind fun _ => some (p0_0, p0_1, (([] : D0) ++ p0_2))
def K3 (p0 : D0) (p1_0 : Int) (p1_1 : Int) (p1_2 : Int) : Nat → Bool → Int → (List B0) → Option (Bool × (List B0))
 | 0, _, _, _ => none
 | fuel + 1, u2, u3, u4 => (if (decide (u3 < ((p0.length : Nat) : Int))) = true then (gi p0 u3).bind fun x8 => match x8 with | (x8_0, x8_1, x8_2) => (R5 (p1_0, p1_1, p1_2) (x8_0, x8_1, x8_2)).bind fun x9 => (grd (P0 x9)).bind fun _ => (if (decide (x9 = 0)) = true then (if (bif (decide (x9 < 0)) then (!true) else false) = true then (grd ((u4.length + ([(p1_0, p1_1, p1_2)]).length) * 24 ≤ 140737488355328)).bind fun _ => (gi p0 u3).bind fun x14 => match x14 with | (x14_0, x14_1, x14_2) => (grd (((u4 ++ [(p1_0, p1_1, p1_2)]).length + ([(x14_0, x14_1, x14_2)]).length) * 24 ≤ 140737488355328)).bind fun _ => (K3 p0 p1_0 p1_1 p1_2 fuel true (IntKind.i64.wrap (u3 + 1)) ((u4 ++ [(p1_0, p1_1, p1_2)]) ++ [(x14_0, x14_1, x14_2)])) else (gi p0 u3).bind fun x16 => match x16 with | (x16_0, x16_1, x16_2) => (grd ((u4.length + ([(x16_0, x16_1, x16_2)]).length) * 24 ≤ 140737488355328)).bind fun _ => (K3 p0 p1_0 p1_1 p1_2 fuel true (IntKind.i64.wrap (u3 + 1)) (u4 ++ [(x16_0, x16_1, x16_2)]))) else (if (bif (decide (x9 < 0)) then (!u2) else false) = true then (grd ((u4.length + ([(p1_0, p1_1, p1_2)]).length) * 24 ≤ 140737488355328)).bind fun _ => (gi p0 u3).bind fun x20 => match x20 with | (x20_0, x20_1, x20_2) => (grd (((u4 ++ [(p1_0, p1_1, p1_2)]).length + ([(x20_0, x20_1, x20_2)]).length) * 24 ≤ 140737488355328)).bind fun _ => (K3 p0 p1_0 p1_1 p1_2 fuel true (IntKind.i64.wrap (u3 + 1)) ((u4 ++ [(p1_0, p1_1, p1_2)]) ++ [(x20_0, x20_1, x20_2)])) else (gi p0 u3).bind fun x22 => match x22 with | (x22_0, x22_1, x22_2) => (grd ((u4.length + ([(x22_0, x22_1, x22_2)]).length) * 24 ≤ 140737488355328)).bind fun _ => (K3 p0 p1_0 p1_1 p1_2 fuel u2 (IntKind.i64.wrap (u3 + 1)) (u4 ++ [(x22_0, x22_1, x22_2)])))) else some (u2, u4))
def k00 (p0 : D0) (p1 : B0) : Option (D0) := match p1 with | (p1_0, p1_1, p1_2) => (K3 p0 p1_0 p1_1 p1_2 T0 false 0 ([] : D0)).bind (fun S47 => match S47 with | (y35, y36) => (if (!y35) = true then (grd ((y36.length + ([(p1_0, p1_1, p1_2)]).length) * 24 ≤ 140737488355328)).bind fun _ => some (y36 ++ [(p1_0, p1_1, p1_2)]) else some y36))
def T2 (p0_2 : D0) (p1 : Int) : Nat → Int → Int → Option (Int)
 | 0, _, _ => none
 | fuel + 1, u2, u3 => (if (decide (u3 < ((p0_2.length : Nat) : Int))) = true then (gi p0_2 u3).bind fun x7 => match x7 with | (x7_0, x7_1, x7_2) => (if (decide (x7_0 = p1)) = true then (gi p0_2 u3).bind fun x9 => match x9 with | (x9_0, x9_1, x9_2) => (if (decide (x9_2 = p1)) = true then (T2 p0_2 p1 fuel (IntKind.i64.wrap ((IntKind.i64.wrap (u2 + 1)) + 1)) (IntKind.i64.wrap (u3 + 1))) else (T2 p0_2 p1 fuel (IntKind.i64.wrap (u2 + 1)) (IntKind.i64.wrap (u3 + 1)))) else (gi p0_2 u3).bind fun x11 => match x11 with | (x11_0, x11_1, x11_2) => (if (decide (x11_2 = p1)) = true then (T2 p0_2 p1 fuel (IntKind.i64.wrap (u2 + 1)) (IntKind.i64.wrap (u3 + 1))) else (T2 p0_2 p1 fuel u2 (IntKind.i64.wrap (u3 + 1))))) else some (u2))
def C7 (p0 : j0) (p1 : Int) : Option (Int) := match p0 with | (p0_0, p0_1, p0_2) => (T2 p0_2 p1 T0 0 0).bind (fun y14 => some y14)
def N4 (p0_2 : D0) (p1_2 : D0) : Nat → Int → Option ((Bool) ⊕ (Unit))
 | 0, _ => none
 | fuel + 1, u3 => (if (decide (u3 < ((p0_2.length : Nat) : Int))) = true then (gi p0_2 u3).bind fun x7 => match x7 with | (x7_0, x7_1, x7_2) => (gi p1_2 u3).bind fun x8 => match x8 with | (x8_0, x8_1, x8_2) => (if (!eqE (x7_0, x7_1, x7_2) (x8_0, x8_1, x8_2)) = true then some (.inl false) else (N4 p0_2 p1_2 fuel (IntKind.i64.wrap (u3 + 1)))) else some (.inr ()))
def l7 (p0 : j0) (p1 : j0) : Option (Bool) := match p0 with | (p0_0, p0_1, p0_2) => match p1 with | (p1_0, p1_1, p1_2) => (if (bif (bif (!decide (p0_0 = p1_0)) then true else (!decide (p0_1 = p1_1))) then true else (!decide (((p0_2.length : Nat) : Int) = ((p1_2.length : Nat) : Int)))) = true then some false else (N4 p0_2 p1_2 T0 0).bind fun X12 => T7 X12 (fun _ => some true))
def M2 (p0_2 : D0) : Nat → J0 → Int → Option (J0)
 | 0, _, _ => none
 | fuel + 1, u19, u20 => (if (decide (u20 < ((p0_2.length : Nat) : Int))) = true then (gi p0_2 u20).bind fun x24 => match x24 with | (x24_0, x24_1, x24_2) => (A6 u19 x24_0).bind fun x25 => (if x25 = true then (w6 u19 x24_2).bind fun x27 => (A6 x27 x24_2).bind fun x30 => (if x30 = true then (w6 x27 x24_0).bind fun x32 => (M2 p0_2 fuel x32 (IntKind.i64.wrap (u20 + 1))) else (M2 p0_2 fuel x27 (IntKind.i64.wrap (u20 + 1)))) else (A6 u19 x24_2).bind fun x35 => (if x35 = true then (w6 u19 x24_0).bind fun x37 => (M2 p0_2 fuel x37 (IntKind.i64.wrap (u20 + 1))) else (M2 p0_2 fuel u19 (IntKind.i64.wrap (u20 + 1))))) else some (u19))
def j4 (p0_2 : D0) : Nat → J0 → Int → Option (J0)
 | 0, _, _ => none
 | fuel + 1, u13, u14 => (if (decide (u14 < (IntKind.i64.wrap (((p0_2.length : Nat) : Int) + 1)))) = true then (M2 p0_2 T0 u13 0).bind (fun y41 => (j4 p0_2 fuel y41 (IntKind.i64.wrap (u14 + 1)))) else some (u13))
def n7 (p0 : j0) (p1 : Int) : Option (J0) := match p0 with | (p0_0, p0_1, p0_2) => (J6 (p0_0, p0_1, p0_2)).bind fun x1 => (chk (!(!x1)) (E5 p1 0 (IntKind.i64.wrap (p0_1 - 1))) false).bind fun x2 => (if (bif (!x1) then true else (!x2)) = true then some ([] : J0) else (j4 p0_2 T0 [p1] 0).bind (fun y45 => some y45))
def T5 (p0_1 : Int) (p0_0 : Int) (p0_2 : D0) (x1 : J0) : Nat → Int → Option ((Int) ⊕ (Unit))
 | 0, _ => none
 | fuel + 1, u5 => (if (decide (u5 < p0_1)) = true then (C7 (p0_0, p0_1, p0_2) u5).bind fun x9 => (grd (P0 x9)).bind fun _ => (chk (!(decide (x9 < 2))) (A6 x1 u5) false).bind fun x11 => (if (bif (decide (x9 < 2)) then true else (!x11)) = true then some (.inl u5) else (T5 p0_1 p0_0 p0_2 x1 fuel (IntKind.i64.wrap (u5 + 1)))) else some (.inr ()))
def C9 (p0 : j0) : Option (Int) := match p0 with | (p0_0, p0_1, p0_2) => (n7 (p0_0, p0_1, p0_2) 0).bind fun x1 => (T5 p0_1 p0_0 p0_2 x1 T0 1).bind fun X15 => T7 X15 (fun _ => some (-1))
def j3 (p0_2 : D0) (u9 : (List Int)) : Nat → Int → Int → Int → D0 → Option (Int × Int × D0)
 | 0, _, _, _, _ => none
 | fuel + 1, u24, u25, u26, u27 => (if (decide (u24 < ((p0_2.length : Nat) : Int))) = true then (gi p0_2 u24).bind fun x31 => match x31 with | (x31_0, x31_1, x31_2) => (gi u9 x31_0).bind fun x32 => (chk (decide (x32 > 0)) (gi u9 x31_2) 0).bind fun x33 => (if (bif (decide (x32 > 0)) then (decide (x33 > 0)) else false) = true then (gi u9 x31_0).bind fun x35 => (gi u9 x31_2).bind fun x42 => (k00 u27 ((IntKind.i64.wrap (x35 - 1)), x31_1, (IntKind.i64.wrap (x42 - 1)))).bind fun x51 => (j3 p0_2 u9 fuel (IntKind.i64.wrap (u24 + 1)) u25 u26 x51) else (j3 p0_2 u9 fuel (IntKind.i64.wrap (u24 + 1)) u25 u26 u27)) else some (u25, u26, u27))
def L3 (p1 : J0) (p0_1 : Int) (p0_0 : Int) (p0_2 : D0) : Nat → Int → (List Int) → Option ((j0 × Bool) ⊕ ((List Int)))
 | 0, _, _ => none
 | fuel + 1, u8, u9 => (if (decide (u8 < ((p1.length : Nat) : Int))) = true then (gi p1 u8).bind fun x13 => (E5 x13 0 (IntKind.i64.wrap (p0_1 - 1))).bind fun x14 => (chk (!(!x14)) (gi p1 u8) 0).bind fun x15 => (chk (!(!x14)) (gi u9 x15) 0).bind fun x16 => (if (bif (!x14) then true else (!decide (x16 = 0))) = true then (Y6 (p0_0, p0_1, p0_2)).bind fun x18 => match x18 with | (x18_0, x18_1, x18_2) => some (.inl ((x18_0, x18_1, x18_2), false)) else (gi p1 u8).bind fun x21 => (gi u9 x21).bind fun x22 => (L3 p1 p0_1 p0_0 p0_2 fuel (IntKind.i64.wrap (u8 + 1)) (u9.set x21.toNat (IntKind.i64.wrap (u8 + 1))))) else some (.inr (u9)))
def M6 (p0 : j0) (p1 : J0) : Option (j0 × Bool) := match p0 with | (p0_0, p0_1, p0_2) => (J6 (p0_0, p0_1, p0_2)).bind fun x1 => (if (bif (bif (!x1) then true else (decide (((p1.length : Nat) : Int) = 0))) then true else (decide (((p1.length : Nat) : Int) > p0_1))) = true then (Y6 (p0_0, p0_1, p0_2)).bind fun x3 => match x3 with | (x3_0, x3_1, x3_2) => some ((x3_0, x3_1, x3_2), false) else (grd ((0 : Int) ≤ p0_1 ∧ p0_1 ≤ p0_1 ∧ p0_1 * 8 ≤ 140737488355328 ∧ p0_1 ≤ 9223372036854775807)).bind fun _ => (L3 p1 p0_1 p0_0 p0_2 T0 0 (List.replicate p0_1.toNat (0 : Int))).bind fun X100 => T7 X100 (fun y61 => (j3 p0_2 y61 T0 0 p0_0 ((p1.length : Nat) : Int) ([] : D0)).bind (fun S97 => match S97 with | (y94, y95, y96) => some ((y94, y95, y96), true))))
def O4 (p0 : Int) : Nat → Int → (List Int) → Option ((List Int))
 | 0, _, _ => none
 | fuel + 1, u2, u3 => (if (decide (u2 ≤ p0)) = true then (grd ((u3.length + [u2].length) * 8 ≤ 140737488355328)).bind fun _ => (grd (((u3 ++ [u2]).length + ([(IntKind.i64.wrap (0 - u2))]).length) * 8 ≤ 140737488355328)).bind fun _ => (O4 p0 fuel (IntKind.i64.wrap (u2 + 1)) ((u3 ++ [u2]) ++ [(IntKind.i64.wrap (0 - u2))])) else some (u3))
def l6 (p0 : Int) : Option (J0) := (O4 p0 T0 1 ([] : J0)).bind (fun y14 => some y14)
def U2 (x7 : J0) (u11 : Int) (p0_0 : Int) (p0_1 : Int) (p0_2 : D0) : Nat → Int → (List Int) → Option ((List Int))
 | 0, _, _ => none
 | fuel + 1, u19, u20 => (if (decide (u19 < ((x7.length : Nat) : Int))) = true then (gi u20 u11).bind fun x24 => (gi x7 u19).bind fun x25 => (M5 (p0_0, p0_1, p0_2) x24 x25).bind fun x26 => (grd (P0 x26)).bind fun _ => (chk (decide (x26 ≥ 0)) (A6 u20 x26) false).bind fun x28 => (if (bif (decide (x26 ≥ 0)) then (!x28) else false) = true then (grd ((u20.length + [x26].length) * 8 ≤ 140737488355328)).bind fun _ => (U2 x7 u11 p0_0 p0_1 p0_2 fuel (IntKind.i64.wrap (u19 + 1)) (u20 ++ [x26])) else (U2 x7 u11 p0_0 p0_1 p0_2 fuel (IntKind.i64.wrap (u19 + 1)) u20)) else some (u20))
def Z3 (x7 : J0) (p0_0 : Int) (p0_1 : Int) (p0_2 : D0) : Nat → Int → (List Int) → Option ((List Int))
 | 0, _, _ => none
 | fuel + 1, u11, u12 => (some u12.length).bind fun m15 => (grd (m15 ≤ 9223372036854775807)).bind fun _ => (if (decide (u11 < ((m15 : Nat) : Int))) = true then (U2 x7 u11 p0_0 p0_1 p0_2 T0 0 u12).bind (fun y36 => (Z3 x7 p0_0 p0_1 p0_2 fuel (IntKind.i64.wrap (u11 + 1)) y36)) else some (u12))
def Z5 (p0 : j0) : Option (J0) := match p0 with | (p0_0, p0_1, p0_2) => (B7 (p0_0, p0_1, p0_2)).bind fun x1 => (if (!x1) = true then some ([] : J0) else (l6 p0_0).bind fun x7 => (Z3 x7 p0_0 p0_1 p0_2 T0 0 [0]).bind (fun y44 => some y44))
def c6 (p0 : j0) : Option (j0) := match p0 with | (p0_0, p0_1, p0_2) => (Z5 (p0_0, p0_1, p0_2)).bind fun x1 => (if (decide (((x1.length : Nat) : Int) = 0)) = true then (Y6 (p0_0, p0_1, p0_2)).bind fun x5 => match x5 with | (x5_0, x5_1, x5_2) => some (x5_0, x5_1, x5_2) else (M6 (p0_0, p0_1, p0_2) x1).bind fun x8 => match x8 with | (x8_0, x8_1) => match x8_0 with | (x8_0_0, x8_0_1, x8_0_2) => some (x8_0_0, x8_0_1, x8_0_2))
def H8 (p0 : j0) : Option (Bool) := match p0 with | (p0_0, p0_1, p0_2) => (B7 (p0_0, p0_1, p0_2)).bind fun x1 => (chk x1 (C9 (p0_0, p0_1, p0_2)) 0).bind fun x4 => (grd (P0 x4)).bind fun q5 => (chk (bif x1 then (decide (x4 < 0)) else false) (c6 (p0_0, p0_1, p0_2)) (0, 0, [])).bind fun x10 => match x10 with | (x10_0, x10_1, x10_2) => (chk (bif x1 then (decide (x4 < 0)) else false) (l7 (x10_0, x10_1, x10_2) (p0_0, p0_1, p0_2)) false).bind fun x13 => some (bif (bif x1 then (decide (x4 < 0)) else false) then x13 else false)
def M3 (p0 : j0) : Option (Bool) := match p0 with | (p0_0, p0_1, p0_2) => (H8 (p0_0, p0_1, p0_2)).bind fun x1 => some x1
def U5 (p0 : ByteArray) : Nat → Int → Option ((Bool) ⊕ (Unit))
 | 0, _ => none
 | fuel + 1, u2 => (if (decide (u2 < ((p0.size : Nat) : Int))) = true then (sgi p0 u2).bind fun x6 => (chk (!(decide (((x6.toNat : Nat) : Int) < 97))) (sgi p0 u2) 0).bind fun x7 => (chk (bif (decide (((x6.toNat : Nat) : Int) < 97)) then true else (decide (((x7.toNat : Nat) : Int) > 122))) (sgi p0 u2) 0).bind fun x8 => (chk ((!(decide (((x8.toNat : Nat) : Int) < 48))) && (bif (decide (((x6.toNat : Nat) : Int) < 97)) then true else (decide (((x7.toNat : Nat) : Int) > 122)))) (sgi p0 u2) 0).bind fun x9 => (if (bif (bif (decide (((x6.toNat : Nat) : Int) < 97)) then true else (decide (((x7.toNat : Nat) : Int) > 122))) then (bif (bif (decide (((x8.toNat : Nat) : Int) < 48)) then true else (decide (((x9.toNat : Nat) : Int) > 57))) then true else (decide (u2 = 0))) else false) = true then some (.inl false) else (U5 p0 fuel (IntKind.i64.wrap (u2 + 1)))) else some (.inr ()))
def D9 (p0 : ByteArray) : Option (Bool) := (U5 p0 T0 0).bind fun X15 => T7 X15 (fun _ => (E5 ((p0.size : Nat) : Int) 1 8).bind fun x13 => some x13)
def P4 (p0_1 : n3) (p0_0 : Int) : Nat → Int → Option ((Bool) ⊕ (Unit))
 | 0, _ => none
 | fuel + 1, u2 => (if (decide (u2 < ((p0_1.length : Nat) : Int))) = true then (gi p0_1 u2).bind fun x6 => match x6 with | (x6_0, (x6_1, x6_2, x6_3)) => (D9 x6_0).bind fun x7 => (chk (!(!x7)) (M3 (x6_1, x6_2, x6_3)) false).bind fun x8 => (chk ((decide (u2 > 0)) && (!(bif (bif (!x7) then true else (!x8)) then true else (!decide (x6_1 = p0_0))))) (gi p0_1 (IntKind.i64.wrap (u2 - 1))) (⟨#[]⟩, (0, 0, []))).bind fun x9 => match x9 with | (x9_0, (x9_1, x9_2, x9_3)) => (if (bif (bif (bif (!x7) then true else (!x8)) then true else (!decide (x6_1 = p0_0))) then true else (bif (decide (u2 > 0)) then (!T0e x9_0 x6_0) else false)) = true then some (.inl false) else (P4 p0_1 p0_0 fuel (IntKind.i64.wrap (u2 + 1)))) else some (.inr ()))
def g8 (p0 : L1) : Option (Bool) := match p0 with | (p0_0, p0_1) => (P4 p0_1 p0_0 T0 0).bind fun X15 => T7 X15 (fun _ => (E5 p0_0 1 3).bind fun x13 => some (bif x13 then (decide (((p0_1.length : Nat) : Int) ≤ 16)) else false))
end Go.Proofs.YtknoadmdnjaocaaGreat
namespace Go.Proofs.YtknoadmdnjaocaaGreat
open Go.H
set_option linter.unusedVariables false
set_option linter.unusedSimpArgs false
set_option maxRecDepth 10000
def o6 (p0 : j0) : Option (j0) := match p0 with | (p0_0, p0_1, p0_2) => (grd ((([] : D0).length + p0_2.length) * 24 ≤ 140737488355328)).bind fun _ => some (p0_0, p0_1, (([] : D0) ++ p0_2))
def f4 (p0_2 : D0) (p1 : Int) : Nat → Int → Int → Option (Int)
 | 0, _, _ => none
 | fuel + 1, u2, u3 => (if (decide (u3 < ((p0_2.length : Nat) : Int))) = true then (gi p0_2 u3).bind fun x7 => match x7 with | (x7_0, x7_1, x7_2) => (if (decide (x7_0 = p1)) = true then (if (decide (x7_2 = p1)) = true then (f4 p0_2 p1 fuel (IntKind.i64.wrap ((IntKind.i64.wrap (u2 + 1)) + 1)) (IntKind.i64.wrap (u3 + 1))) else (f4 p0_2 p1 fuel (IntKind.i64.wrap (u2 + 1)) (IntKind.i64.wrap (u3 + 1)))) else (if (decide (x7_2 = p1)) = true then (f4 p0_2 p1 fuel (IntKind.i64.wrap (u2 + 1)) (IntKind.i64.wrap (u3 + 1))) else (f4 p0_2 p1 fuel u2 (IntKind.i64.wrap (u3 + 1))))) else some (u2))
def A8 (p0 : j0) (p1 : Int) : Option (Int) := match p0 with | (p0_0, p0_1, p0_2) => (f4 p0_2 p1 T0 0 0).bind (fun y12 => some y12)
def Q0 (p0 : D0) (p1 : D0) : Nat → Int → Option ((Bool) ⊕ (Unit))
 | 0, _ => none
 | fuel + 1, u3 => (if (decide (u3 < ((p0.length : Nat) : Int))) = true then (gi p0 u3).bind fun x7 => match x7 with | (x7_0, x7_1, x7_2) => (gi p1 u3).bind fun x8 => match x8 with | (x8_0, x8_1, x8_2) => (if (!eqE (x7_0, x7_1, x7_2) (x8_0, x8_1, x8_2)) = true then some (.inl false) else (Q0 p0 p1 fuel (IntKind.i64.wrap (u3 + 1)))) else some (.inr ()))
def V1 (p0 : D0) (p1 : D0) : Option (Bool) := (if (!decide (((p0.length : Nat) : Int) = ((p1.length : Nat) : Int))) = true then some false else (Q0 p0 p1 T0 0).bind fun X12 => T7 X12 (fun _ => some true))
def o7 (p0 : j0) (p1 : j0) : Option (Bool) := match p0 with | (p0_0, p0_1, p0_2) => match p1 with | (p1_0, p1_1, p1_2) => (chk (bif (decide (p0_0 = p1_0)) then (decide (p0_1 = p1_1)) else false) (V1 p0_2 p1_2) false).bind fun x1 => some (bif (bif (decide (p0_0 = p1_0)) then (decide (p0_1 = p1_1)) else false) then x1 else false)
def D3 (p0_2 : D0) : Nat → Bool → Int → (List Bool) → Option (Bool × (List Bool))
 | 0, _, _, _ => none
 | fuel + 1, u10, u11, u12 => (if (decide (u11 < ((p0_2.length : Nat) : Int))) = true then (gi p0_2 u11).bind fun x16 => match x16 with | (x16_0, x16_1, x16_2) => (gi u12 x16_0).bind fun x17 => (gi u12 x16_2).bind fun x18 => (if (!(x17 == x18)) = true then (gi u12 x16_0).bind fun x20 => (gi (u12.set x16_0.toNat true) x16_2).bind fun x21 => (D3 p0_2 fuel true (IntKind.i64.wrap (u11 + 1)) ((u12.set x16_0.toNat true).set x16_2.toNat true)) else (D3 p0_2 fuel u10 (IntKind.i64.wrap (u11 + 1)) u12)) else some (u10, u12))
def S3 (p0_2 : D0) : Nat → Bool → (List Bool) → Option ((List Bool))
 | 0, _, _ => none
 | fuel + 1, u4, u5 => (if u4 = true then (D3 p0_2 T0 false 0 u5).bind (fun S25 => match S25 with | (y23, y24) => (S3 p0_2 fuel y23 y24)) else some (u5))
def T6 (p0 : j0) (p1 : Int) : Option ((List Bool)) := match p0 with | (p0_0, p0_1, p0_2) => (grd ((0 : Int) ≤ p0_1 ∧ p0_1 ≤ p0_1 ∧ p0_1 * 1 ≤ 140737488355328 ∧ p0_1 ≤ 9223372036854775807)).bind fun _ => (gi (List.replicate p0_1.toNat (false : Bool)) p1).bind fun x2 => (S3 p0_2 T0 true ((List.replicate p0_1.toNat (false : Bool)).set p1.toNat true)).bind (fun y32 => some y32)
def H5 (p0 : Int) : Nat → Int → (List Int) → Option ((List Int))
 | 0, _, _ => none
 | fuel + 1, u2, u3 => (if (decide (u2 ≤ p0)) = true then (grd ((u3.length + ([u2, (IntKind.i64.wrap (0 - u2))]).length) * 8 ≤ 140737488355328)).bind fun _ => (H5 p0 fuel (IntKind.i64.wrap (u2 + 1)) (u3 ++ [u2, (IntKind.i64.wrap (0 - u2))])) else some (u3))
def h8 (p0 : Int) : Option (J0) := (H5 p0 T0 1 ([] : J0)).bind (fun y13 => some y13)
def I8 (p0 : D0) : Option (D0) := (grd ((([] : D0).length + p0.length) * 24 ≤ 140737488355328)).bind fun _ => (grd ((([] : D0) ++ p0).length < 4611686018427387904)).bind fun _ => some (w00 eqE (O02 C1 (([] : D0) ++ p0)))
def B6 (p0_2 : D0) (u13 : (List Int)) : Nat → Int → Int → Int → (List B0) → Option (Int × Int × (List B0))
 | 0, _, _, _, _ => none
 | fuel + 1, u20, u21, u22, u23 => (if (decide (u20 < ((p0_2.length : Nat) : Int))) = true then (gi p0_2 u20).bind fun x27 => match x27 with | (x27_0, x27_1, x27_2) => (gi u13 x27_0).bind fun x28 => (chk (decide (x28 ≥ 0)) (gi u13 x27_2) 0).bind fun x29 => (if (bif (decide (x28 ≥ 0)) then (decide (x29 ≥ 0)) else false) = true then (gi u13 x27_0).bind fun x31 => (gi u13 x27_2).bind fun x36 => (grd ((u23.length + ([(x31, x27_1, x36)]).length) * 24 ≤ 140737488355328)).bind fun _ => (B6 p0_2 u13 fuel (IntKind.i64.wrap (u20 + 1)) u21 u22 (u23 ++ [(x31, x27_1, x36)])) else (B6 p0_2 u13 fuel (IntKind.i64.wrap (u20 + 1)) u21 u22 u23)) else some (u21, u22, u23))
def Z6 (p1 : J0) : Nat → Int → (List Int) → Option ((List Int))
 | 0, _, _ => none
 | fuel + 1, u12, u13 => (if (decide (u12 < ((p1.length : Nat) : Int))) = true then (gi p1 u12).bind fun x17 => (gi u13 x17).bind fun x18 => (Z6 p1 fuel (IntKind.i64.wrap (u12 + 1)) (u13.set x17.toNat u12)) else some (u13))
def c7 (m2 : Nat) : Nat → Int → (List Int) → Option ((List Int))
 | 0, _, _ => none
 | fuel + 1, u5, u6 => (if (decide (u5 < ((m2 : Nat) : Int))) = true then (gi u6 u5).bind fun x10 => (c7 m2 fuel (IntKind.i64.wrap (u5 + 1)) (u6.set u5.toNat (-1))) else some (u6))
def a00 (p0 : j0) (p1 : J0) : Option (j0) := match p0 with | (p0_0, p0_1, p0_2) => (grd ((0 : Int) ≤ p0_1 ∧ p0_1 ≤ p0_1 ∧ p0_1 * 8 ≤ 140737488355328 ∧ p0_1 ≤ 9223372036854775807)).bind fun _ => (some (List.replicate p0_1.toNat (0 : Int)).length).bind fun m2 => (grd (m2 ≤ 9223372036854775807)).bind fun _ => (c7 m2 T0 0 (List.replicate p0_1.toNat (0 : Int))).bind (fun y114 => (Z6 p1 T0 0 y114).bind (fun y169 => (B6 p0_2 y169 T0 0 p0_0 ((p1.length : Nat) : Int) ([] : D0)).bind (fun S213 => match S213 with | (y203, y204, y205) => (I8 y205).bind fun x210 => some (y203, y204, x210))))
def V5 (p0 : ByteArray) : Nat → Int → Option ((Bool) ⊕ (Unit))
 | 0, _ => none
 | fuel + 1, u4 => (if (decide (u4 < ((p0.size : Nat) : Int))) = true then (sgi p0 u4).bind fun x8 => (chk (decide (((x8.toNat : Nat) : Int) ≥ 97)) (sgi p0 u4) 0).bind fun x9 => (sgi p0 u4).bind fun x10 => (chk (decide (((x10.toNat : Nat) : Int) ≥ 48)) (sgi p0 u4) 0).bind fun x11 => (if (bif (!(bif (decide (((x8.toNat : Nat) : Int) ≥ 97)) then (decide (((x9.toNat : Nat) : Int) ≤ 122)) else false)) then (bif (decide (u4 = 0)) then true else (!(bif (decide (((x10.toNat : Nat) : Int) ≥ 48)) then (decide (((x11.toNat : Nat) : Int) ≤ 57)) else false))) else false) = true then some (.inl false) else (V5 p0 fuel (IntKind.i64.wrap (u4 + 1)))) else some (.inr ()))
def E9 (p0 : ByteArray) : Option (Bool) := (v6 ((p0.size : Nat) : Int) 1 8).bind fun x1 => (if (!x1) = true then some false else (V5 p0 T0 0).bind fun X15 => T7 X15 (fun _ => some true))
end Go.Proofs.YtknoadmdnjaocaaGreat
namespace Go.Proofs.YtknoadmdnjaocaaGreat
open Go.H
set_option linter.unusedVariables false
set_option linter.unusedSimpArgs false
set_option maxRecDepth 10000
def B8 (p0 : J0) : Option (J0) := (grd ((([] : J0).length + p0.length) * 8 ≤ 140737488355328)).bind fun _ => some (([] : J0) ++ p0)
def D2 (x17 : J0) (p0_0 : Int) (p0_1 : Int) (p0_2 : D0) (x16 : Int) : Nat → Int → (List (Option J0)) → (List Int) → Option ((List (Option J0)) × (List Int))
 | 0, _, _, _ => none
 | fuel + 1, u21, u22, u23 => (if (decide (u21 < ((x17.length : Nat) : Int))) = true then (gi x17 u21).bind fun x27 => (N5 (p0_0, p0_1, p0_2) x16 x27).bind fun x28 => (grd (P0 x28)).bind fun _ => (chk (decide (x28 ≥ 0)) (gi u22 x28) (none : Option J0)).bind fun x30 => (if (bif (decide (x28 ≥ 0)) then x30.isNone else false) = true then (gi u22 x16).bind fun x32 => (B8 (x32.getD [])).bind fun x33 => (grd ((x33.length + [x27].length) * 8 ≤ 140737488355328)).bind fun _ => (gi u22 x28).bind fun x38 => (grd ((u23.length + [x28].length) * 8 ≤ 140737488355328)).bind fun _ => (D2 x17 p0_0 p0_1 p0_2 x16 fuel (IntKind.i64.wrap (u21 + 1)) (u22.set x28.toNat (some (x33 ++ [x27]))) (u23 ++ [x28])) else (D2 x17 p0_0 p0_1 p0_2 x16 fuel (IntKind.i64.wrap (u21 + 1)) u22 u23)) else some (u22, u23))
def U3 (p0_0 : Int) (p0_1 : Int) (p0_2 : D0) : Nat → Int → (List (Option J0)) → (List Int) → Option ((List (Option J0)) × (List Int))
 | 0, _, _, _ => none
 | fuel + 1, u8, u9, u10 => (some u10.length).bind fun m13 => (grd (m13 ≤ 9223372036854775807)).bind fun _ => (if (decide (u8 < ((m13 : Nat) : Int))) = true then (gi u10 u8).bind fun x16 => (h8 p0_0).bind fun x17 => (D2 x17 p0_0 p0_1 p0_2 x16 T0 0 u9 u10).bind (fun S43 => match S43 with | (y41, y42) => (U3 p0_0 p0_1 p0_2 fuel (IntKind.i64.wrap (u8 + 1)) y41 y42)) else some (u9, u10))
def n5 (p0 : j0) (p1 : Int) : Option (J0 × W7) := match p0 with | (p0_0, p0_1, p0_2) => (grd ((0 : Int) ≤ p0_1 ∧ p0_1 ≤ p0_1 ∧ p0_1 * 24 ≤ 140737488355328 ∧ p0_1 ≤ 9223372036854775807)).bind fun _ => (gi (List.replicate p0_1.toNat (none : Option J0)) p1).bind fun x2 => (U3 p0_0 p0_1 p0_2 T0 0 ((List.replicate p0_1.toNat (none : Option J0)).set p1.toNat (some ([] : J0))) [p1]).bind (fun S64 => match S64 with | (y54, y55) => some (y55, (List.map (fun o : Option J0 => o.getD ([] : J0)) y54)))
def d6 (p0 : j0) : Option (J0) := match p0 with | (p0_0, p0_1, p0_2) => (S5 (p0_0, p0_1, p0_2)).bind fun x1 => (if (!x1) = true then some ([] : J0) else (n5 (p0_0, p0_1, p0_2) 0).bind fun x7 => match x7 with | (x7_0, x7_1) => some x7_0)
def g6 (p0 : j0) : Option (j0) := match p0 with | (p0_0, p0_1, p0_2) => (S5 (p0_0, p0_1, p0_2)).bind fun x1 => (if (!x1) = true then (o6 (p0_0, p0_1, p0_2)).bind fun x3 => match x3 with | (x3_0, x3_1, x3_2) => some (x3_0, x3_1, x3_2) else (d6 (p0_0, p0_1, p0_2)).bind fun x7 => (a00 (p0_0, p0_1, p0_2) x7).bind fun x10 => match x10 with | (x10_0, x10_1, x10_2) => some (x10_0, x10_1, x10_2))
end Go.Proofs.YtknoadmdnjaocaaGreat
namespace Go.Proofs.YtknoadmdnjaocaaGreat
open Go.H
set_option linter.unusedVariables false
set_option linter.unusedSimpArgs false
set_option maxRecDepth 10000
def B4 (u25 : Int) (u33 : Int) : Nat → Int → (List Int) → Option ((List Int))
 | 0, _, _ => none
 | fuel + 1, u44, u45 => (if (decide (u44 < u25)) = true then (if (!decide (u44 = u33)) = true then (grd ((u45.length + [u44].length) * 8 ≤ 140737488355328)).bind fun _ => (B4 u25 u33 fuel (IntKind.i64.wrap (u44 + 1)) (u45 ++ [u44])) else (B4 u25 u33 fuel (IntKind.i64.wrap (u44 + 1)) u45)) else some (u45))
def C3 (u25 : Int) (u24 : Int) (u26 : D0) (x29 : (List Bool)) : Nat → Int → Int → Option (Int)
 | 0, _, _ => none
 | fuel + 1, u33, u34 => (if (bif (decide (u34 < u25)) then (decide (u33 = 0)) else false) = true then (A8 (u24, u25, u26) u34).bind fun x38 => (grd (P0 x38)).bind fun _ => (chk (!(decide (x38 < 2))) (gi x29 u34) false).bind fun x40 => (if (bif (decide (x38 < 2)) then true else (!x40)) = true then (C3 u25 u24 u26 x29 fuel u34 (IntKind.i64.wrap (u34 + 1))) else (C3 u25 u24 u26 x29 fuel u33 (IntKind.i64.wrap (u34 + 1)))) else some (u33))
def D5 : Nat → J0 → Int → Int → D0 → Option ((j0 × J0) ⊕ (Int × Int × D0))
 | 0, _, _, _, _ => none
 | fuel + 1, u23, u24, u25, u26 => (T6 (u24, u25, u26) 0).bind fun x29 => (C3 u25 u24 u26 x29 T0 0 1).bind (fun y86 => (if (decide (y86 = 0)) = true then some (.inl ((u24, u25, u26), u23)) else (B4 u25 y86 T0 0 ([] : J0)).bind (fun y112 => (a00 (u24, u25, u26) y112).bind fun x117 => match x117 with | (x117_0, x117_1, x117_2) => (V04 u23 0 y86).bind fun x123 => (V04 u23 (IntKind.i64.wrap (y86 + 1)) (u23.length : Int)).bind fun x124 => (grd ((x123.length + x124.length) * 8 ≤ 140737488355328)).bind fun _ => (D5 fuel (x123 ++ x124) x117_0 x117_1 x117_2))))
def Q4 (p0_1 : Int) : Nat → Int → (List Int) → Option ((List Int))
 | 0, _, _ => none
 | fuel + 1, u12, u13 => (if (decide (u12 < p0_1)) = true then (grd ((u13.length + [u12].length) * 8 ≤ 140737488355328)).bind fun _ => (Q4 p0_1 fuel (IntKind.i64.wrap (u12 + 1)) (u13 ++ [u12])) else some (u13))
def i8 (p0 : j0) : Option (j0 × J0) := match p0 with | (p0_0, p0_1, p0_2) => (o6 (p0_0, p0_1, p0_2)).bind fun x1 => match x1 with | (x1_0, x1_1, x1_2) => (c8 (p0_0, p0_1, p0_2)).bind fun x5 => (if (!x5) = true then some ((x1_0, x1_1, x1_2), ([] : J0)) else (Q4 p0_1 T0 0 ([] : J0)).bind (fun y134 => (D5 T0 y134 x1_0 x1_1 x1_2).bind fun X249 => T7 X249 (fun _ => none)))
def K5 (p0 : j0) : Option (Bool) := match p0 with | (p0_0, p0_1, p0_2) => (S5 (p0_0, p0_1, p0_2)).bind fun x1 => (if (!x1) = true then some false else (i8 (p0_0, p0_1, p0_2)).bind fun x3 => match x3 with | (x3_0, x3_1) => match x3_0 with | (x3_0_0, x3_0_1, x3_0_2) => (chk (decide (x3_0_1 = p0_1)) (g6 (p0_0, p0_1, p0_2)) (0, 0, [])).bind fun x8 => match x8 with | (x8_0, x8_1, x8_2) => (chk (decide (x3_0_1 = p0_1)) (o7 (x8_0, x8_1, x8_2) (p0_0, p0_1, p0_2)) false).bind fun x11 => some (bif (decide (x3_0_1 = p0_1)) then x11 else false))
def R4 (p0_1 : n3) (p0_0 : Int) : Nat → Int → Option ((Bool) ⊕ (Unit))
 | 0, _ => none
 | fuel + 1, u4 => (if (decide (u4 < ((p0_1.length : Nat) : Int))) = true then (gi p0_1 u4).bind fun x8 => match x8 with | (x8_0, (x8_1, x8_2, x8_3)) => (E9 x8_0).bind fun x9 => (chk ((decide (u4 > 0)) && (!(!x9))) (gi p0_1 (IntKind.i64.wrap (u4 - 1))) (⟨#[]⟩, (0, 0, []))).bind fun x10 => match x10 with | (x10_0, (x10_1, x10_2, x10_3)) => (chk (!(bif (bif (!x9) then true else (bif (decide (u4 > 0)) then (!T0e x10_0 x8_0) else false)) then true else (!decide (x8_1 = p0_0)))) (K5 (x8_1, x8_2, x8_3)) false).bind fun x11 => (if (bif (bif (bif (!x9) then true else (bif (decide (u4 > 0)) then (!T0e x10_0 x8_0) else false)) then true else (!decide (x8_1 = p0_0))) then true else (!x11)) = true then some (.inl false) else (R4 p0_1 p0_0 fuel (IntKind.i64.wrap (u4 + 1)))) else some (.inr ()))
def j8 (p0 : L1) : Option (Bool) := match p0 with | (p0_0, p0_1) => (v6 p0_0 1 3).bind fun x1 => (if (bif (!x1) then true else (decide (((p0_1.length : Nat) : Int) > 16))) = true then some false else (R4 p0_1 p0_0 T0 0).bind fun X15 => T7 X15 (fun _ => some true))
end Go.Proofs.YtknoadmdnjaocaaGreat
namespace Go.Proofs.YtknoadmdnjaocaaGreat
open Go.H
set_option linter.unusedVariables false
set_option linter.unusedSimpArgs false
set_option maxRecDepth 10000
def T3 (p0_1 : n3) (p1 : ByteArray) : Nat → Int → Option ((Int) ⊕ (Unit))
 | 0, _ => none
 | fuel + 1, u2 => (if (decide (u2 < ((p0_1.length : Nat) : Int))) = true then (gi p0_1 u2).bind fun x6 => match x6 with | (x6_0, (x6_1, x6_2, x6_3)) => (if (h0c x6_0 p1) = true then some (.inl u2) else (T3 p0_1 p1 fuel (IntKind.i64.wrap (u2 + 1)))) else some (.inr ()))
def U6 (p0 : L1) (p1 : ByteArray) : Option (Int) := match p0 with | (p0_0, p0_1) => (T3 p0_1 p1 T0 0).bind fun X10 => T7 X10 (fun _ => some (-1))
end Go.Proofs.YtknoadmdnjaocaaGreat
namespace Go.Proofs.YtknoadmdnjaocaaGreat
open Go.H
set_option linter.unusedVariables false
set_option linter.unusedSimpArgs false
set_option maxRecDepth 10000
def Y00 (p0 : Int) (p1 : Int) (p2 : Int) : Option (B0) := (if (decide (p1 < 0)) = true then some (p2, (IntKind.i64.wrap (0 - p1)), p0) else some (p0, p1, p2))
def Y0 (p0 : D0) (p1_0 : Int) (p1_1 : Int) (p1_2 : Int) : Nat → Int → Option ((Int) ⊕ (Unit))
 | 0, _ => none
 | fuel + 1, u2 => (if (decide (u2 < ((p0.length : Nat) : Int))) = true then (gi p0 u2).bind fun x6 => match x6 with | (x6_0, x6_1, x6_2) => (if (eqE (p1_0, p1_1, p1_2) (x6_0, x6_1, x6_2)) = true then some (.inl u2) else (Y0 p0 p1_0 p1_1 p1_2 fuel (IntKind.i64.wrap (u2 + 1)))) else some (.inr ()))
def P3 (p0 : D0) (p1 : B0) : Option (Int) := match p1 with | (p1_0, p1_1, p1_2) => (Y0 p0 p1_0 p1_1 p1_2 T0 0).bind fun X10 => T7 X10 (fun _ => some (-1))
def A2 (p0 : D0) (p1 : B0) : Option (Bool) := match p1 with | (p1_0, p1_1, p1_2) => (P3 p0 (p1_0, p1_1, p1_2)).bind fun x1 => (grd (P0 x1)).bind fun _ => some (decide (x1 ≥ 0))
end Go.Proofs.YtknoadmdnjaocaaGreat
namespace Go.Proofs.YtknoadmdnjaocaaGreat
open Go.H
set_option linter.unusedVariables false
set_option linter.unusedSimpArgs false
set_option maxRecDepth 10000
def Z4 (p0 : J0) : Nat → Int → (List Int) → Option ((List Int))
 | 0, _, _ => none
 | fuel + 1, u2, u3 => (if (decide (u2 ≥ 0)) = true then (gi p0 u2).bind fun x7 => (grd ((u3.length + ([(IntKind.i64.wrap (0 - x7))]).length) * 8 ≤ 140737488355328)).bind fun _ => (Z4 p0 fuel (IntKind.i64.wrap (u2 - 1)) (u3 ++ [(IntKind.i64.wrap (0 - x7))])) else some (u3))
def n00 (p0 : J0) : Option (J0) := (Z4 p0 T0 (IntKind.i64.wrap (((p0.length : Nat) : Int) - 1)) ([] : J0)).bind (fun y14 => some y14)
def c5 (p0 : J0) : Nat → Int → (List Int) → Option ((List Int))
 | 0, _, _ => none
 | fuel + 1, u3, u4 => (if (decide (u3 ≥ 0)) = true then (gi p0 u3).bind fun x8 => (grd ((u4.length + ([(IntKind.i64.wrap (0 - x8))]).length) * 8 ≤ 140737488355328)).bind fun _ => (c5 p0 fuel (IntKind.i64.wrap (u3 - 1)) (u4 ++ [(IntKind.i64.wrap (0 - x8))])) else some (u4))
def H7 (p0 : J0) : Option (J0) := (grd ((0 : Int) ≤ 0 ∧ 0 ≤ ((p0.length : Nat) : Int) ∧ ((p0.length : Nat) : Int) * 8 ≤ 140737488355328 ∧ ((p0.length : Nat) : Int) ≤ 9223372036854775807)).bind fun _ => (c5 p0 T0 (IntKind.i64.wrap (((p0.length : Nat) : Int) - 1)) (List.replicate (0 : Int).toNat (0 : Int))).bind (fun y15 => some y15)
def T4 (x7 : J0) : Nat → Int → (List Int) → Option ((List Int))
 | 0, _, _ => none
 | fuel + 1, u9, u10 => (if (decide (u9 < ((x7.length : Nat) : Int))) = true then (gi x7 u9).bind fun x14 => (some u10.length).bind fun m15 => (grd (m15 ≤ 9223372036854775807)).bind fun _ => (some u10.length).bind fun m17 => (grd (m17 ≤ 9223372036854775807)).bind fun _ => (chk (decide (((m15 : Nat) : Int) > 0)) (gi u10 (IntKind.i64.wrap (((m17 : Nat) : Int) - 1))) 0).bind fun x19 => (chk (decide (((m15 : Nat) : Int) > 0)) (F7 x19 x14) false).bind fun x20 => (if (bif (decide (((m15 : Nat) : Int) > 0)) then x20 else false) = true then (some u10.length).bind fun m22 => (grd (m22 ≤ 9223372036854775807)).bind fun _ => (grd (0 ≤ (IntKind.i64.wrap (((m22 : Nat) : Int) - 1)) ∧ (IntKind.i64.wrap (((m22 : Nat) : Int) - 1)) ≤ (u10.length : Int))).bind fun _ => (T4 x7 fuel (IntKind.i64.wrap (u9 + 1)) (u10.take (IntKind.i64.wrap (((m22 : Nat) : Int) - 1)).toNat)) else (grd ((u10.length + [x14].length) * 8 ≤ 140737488355328)).bind fun _ => (T4 x7 fuel (IntKind.i64.wrap (u9 + 1)) (u10 ++ [x14]))) else some (u10))
def I5 (p0 : W7) : Nat → Int → (List Int) → Option ((List Int))
 | 0, _, _ => none
 | fuel + 1, u2, u3 => (if (decide (u2 < ((p0.length : Nat) : Int))) = true then (gi p0 u2).bind fun x7 => (T4 x7 T0 0 u3).bind (fun y27 => (I5 p0 fuel (IntKind.i64.wrap (u2 + 1)) y27)) else some (u3))
def p7 (p0 : W7) : Option (J0) := (I5 p0 T0 0 ([] : J0)).bind (fun y35 => some y35)
end Go.Proofs.YtknoadmdnjaocaaGreat
namespace Go.Proofs.YtknoadmdnjaocaaGreat
open Go.H
set_option linter.unusedVariables false
set_option linter.unusedSimpArgs false
set_option maxRecDepth 10000
def r7 (p0 : j0) (p1 : J0) : Option (Bool) := match p0 with | (p0_0, p0_1, p0_2) => (G7 (p0_0, p0_1, p0_2) 0 p1).bind fun x1 => match x1 with | (x1_0, x1_1) => (grd (P0 x1_0)).bind fun _ => (grd (P0 x1_1)).bind fun _ => some (bif (decide (x1_1 = ((p1.length : Nat) : Int))) then (decide (x1_0 = 0)) else false)
end Go.Proofs.YtknoadmdnjaocaaGreat
namespace Go.Proofs.YtknoadmdnjaocaaGreat
open Go.H
set_option linter.unusedVariables false
set_option linter.unusedSimpArgs false
set_option maxRecDepth 10000
def W5 (p0_1 : n3) (p1 : ByteArray) : Nat → Int → Option ((j0 × Bool) ⊕ (Unit))
 | 0, _ => none
 | fuel + 1, u2 => (if (decide (u2 < ((p0_1.length : Nat) : Int))) = true then (gi p0_1 u2).bind fun x6 => match x6 with | (x6_0, (x6_1, x6_2, x6_3)) => (if (h0c x6_0 p1) = true then (gi p0_1 u2).bind fun x8 => match x8 with | (x8_0, (x8_1, x8_2, x8_3)) => (Y6 (x8_1, x8_2, x8_3)).bind fun x9 => match x9 with | (x9_0, x9_1, x9_2) => some (.inl ((x9_0, x9_1, x9_2), true)) else (W5 p0_1 p1 fuel (IntKind.i64.wrap (u2 + 1)))) else some (.inr ()))
def F9 (p0 : L1) (p1 : ByteArray) : Option (j0 × Bool) := match p0 with | (p0_0, p0_1) => (W5 p0_1 p1 T0 0).bind fun X14 => T7 X14 (fun _ => some ((0, 0, []), false))
def i4 (x5 : J0) (u9 : Int) (p0_0 : Int) (p0_1 : Int) (p0_2 : D0) (p1_0 : Int) (p1_1 : Int) (p1_2 : D0) : Nat → Int → (List Int) → (List Int) → Option ((Bool) ⊕ ((List Int) × (List Int)))
 | 0, _, _, _ => none
 | fuel + 1, u18, u19, u20 => (if (decide (u18 < ((x5.length : Nat) : Int))) = true then (gi u20 u9).bind fun x24 => (gi x5 u18).bind fun x25 => (M5 (p0_0, p0_1, p0_2) x24 x25).bind fun x26 => (grd (P0 x26)).bind fun _ => (if (decide (x26 < 0)) = true then (i4 x5 u9 p0_0 p0_1 p0_2 p1_0 p1_1 p1_2 fuel (IntKind.i64.wrap (u18 + 1)) u19 u20) else (gi u20 u9).bind fun x29 => (gi u19 x29).bind fun x30 => (gi x5 u18).bind fun x31 => (M5 (p1_0, p1_1, p1_2) x30 x31).bind fun x32 => (grd (P0 x32)).bind fun _ => (if (decide (x32 < 0)) = true then some (.inl false) else (A6 u20 x26).bind fun x39 => (if (!x39) = true then (grd ((u20.length + [x26].length) * 8 ≤ 140737488355328)).bind fun _ => (gi u19 x26).bind fun x42 => (i4 x5 u9 p0_0 p0_1 p0_2 p1_0 p1_1 p1_2 fuel (IntKind.i64.wrap (u18 + 1)) (u19.set x26.toNat x32) (u20 ++ [x26])) else (gi u19 x26).bind fun x43 => (if (!decide (x43 = x32)) = true then some (.inl false) else (i4 x5 u9 p0_0 p0_1 p0_2 p1_0 p1_1 p1_2 fuel (IntKind.i64.wrap (u18 + 1)) u19 u20))))) else some (.inr (u19, u20)))
def o5 (x5 : J0) (p0_0 : Int) (p0_1 : Int) (p0_2 : D0) (p1_0 : Int) (p1_1 : Int) (p1_2 : D0) : Nat → Int → (List Int) → (List Int) → Option ((Bool) ⊕ ((List Int) × (List Int)))
 | 0, _, _, _ => none
 | fuel + 1, u9, u10, u11 => (some u11.length).bind fun m14 => (grd (m14 ≤ 9223372036854775807)).bind fun _ => (if (decide (u9 < ((m14 : Nat) : Int))) = true then (i4 x5 u9 p0_0 p0_1 p0_2 p1_0 p1_1 p1_2 T0 0 u10 u11).bind fun X49 => R0e X49 (fun S48 => match S48 with | (y46, y47) => (o5 x5 p0_0 p0_1 p0_2 p1_0 p1_1 p1_2 fuel (IntKind.i64.wrap (u9 + 1)) y46 y47)) else some (.inr (u10, u11)))
def D8 (p0 : j0) (p1 : j0) : Option (Bool) := match p0 with | (p0_0, p0_1, p0_2) => match p1 with | (p1_0, p1_1, p1_2) => (M3 (p0_0, p0_1, p0_2)).bind fun x1 => (chk (!(!x1)) (M3 (p1_0, p1_1, p1_2)) false).bind fun x2 => (if (bif (bif (!x1) then true else (!x2)) then true else (!decide (p0_0 = p1_0))) = true then some false else (grd ((0 : Int) ≤ p0_1 ∧ p0_1 ≤ p0_1 ∧ p0_1 * 8 ≤ 140737488355328 ∧ p0_1 ≤ 9223372036854775807)).bind fun _ => (l6 p0_0).bind fun x5 => (o5 x5 p0_0 p0_1 p0_2 p1_0 p1_1 p1_2 T0 0 (List.replicate p0_1.toNat (0 : Int)) [0]).bind fun X54 => T7 X54 (fun S53 => match S53 with | (y51, y52) => some true))
def P2 (p0_1 : n3) (x1_1 : Bool) (p0_0 : Int) (x1_0_0 : Int) (x1_0_1 : Int) (x1_0_2 : D0) : Nat → Int → (List ByteArray) → Option ((List ByteArray))
 | 0, _, _ => none
 | fuel + 1, u5, u6 => (chk (bif (decide (u5 < ((p0_1.length : Nat) : Int))) then x1_1 else false) (g8 (p0_0, p0_1)) false).bind fun x9 => (if (bif (bif (decide (u5 < ((p0_1.length : Nat) : Int))) then x1_1 else false) then x9 else false) = true then (gi p0_1 u5).bind fun x11 => match x11 with | (x11_0, (x11_1, x11_2, x11_3)) => (D8 (x11_1, x11_2, x11_3) (x1_0_0, x1_0_1, x1_0_2)).bind fun x12 => (if x12 = true then (gi p0_1 u5).bind fun x14 => match x14 with | (x14_0, (x14_1, x14_2, x14_3)) => (grd ((u6.length + [x14_0].length) * 16 ≤ 140737488355328)).bind fun _ => (P2 p0_1 x1_1 p0_0 x1_0_0 x1_0_1 x1_0_2 fuel (IntKind.i64.wrap (u5 + 1)) (u6 ++ [x14_0])) else (P2 p0_1 x1_1 p0_0 x1_0_0 x1_0_1 x1_0_2 fuel (IntKind.i64.wrap (u5 + 1)) u6)) else some (u6))
def t8 (p0 : L1) (p1 : ByteArray) : Option ((List ByteArray)) := match p0 with | (p0_0, p0_1) => (F9 (p0_0, p0_1) p1).bind fun x1 => match x1 with | (x1_0, x1_1) => match x1_0 with | (x1_0_0, x1_0_1, x1_0_2) => (P2 p0_1 x1_1 p0_0 x1_0_0 x1_0_1 x1_0_2 T0 0 ([] : (List ByteArray))).bind (fun y21 => some y21)
end Go.Proofs.YtknoadmdnjaocaaGreat
namespace Go.Proofs.YtknoadmdnjaocaaGreat
open Go.H
set_option linter.unusedVariables false
set_option linter.unusedSimpArgs false
set_option maxRecDepth 10000
def N6 (p0 : J0) : Option (J0) := (p7 [p0]).bind fun x5 => some x5
end Go.Proofs.YtknoadmdnjaocaaGreat
namespace Go.Proofs.YtknoadmdnjaocaaGreat
open Go.H
set_option linter.unusedVariables false
set_option linter.unusedSimpArgs false
set_option maxRecDepth 10000
def G9 (p0 : L1) (p1 : ByteArray) : Option (j0 × Bool) := match p0 with | (p0_0, p0_1) => (U6 (p0_0, p0_1) p1).bind fun x1 => (grd (P0 x1)).bind fun _ => (if (decide (x1 < 0)) = true then some ((0, 0, []), false) else (gi p0_1 x1).bind fun x4 => match x4 with | (x4_0, (x4_1, x4_2, x4_3)) => (o6 (x4_1, x4_2, x4_3)).bind fun x5 => match x5 with | (x5_0, x5_1, x5_2) => some ((x5_0, x5_1, x5_2), true))
def S4 (x4 : J0) (x1_1 : W7) (p0_0 : Int) (p0_1 : Int) (p0_2 : D0) : Nat → Int → (List B0) → Option ((List B0))
 | 0, _, _ => none
 | fuel + 1, u6, u7 => (if (decide (u6 < ((x4.length : Nat) : Int))) = true then (gi x4 u6).bind fun x11 => (gi x1_1 x11).bind fun x12 => (gi x12 (IntKind.i64.wrap (((x12.length : Nat) : Int) - 1))).bind fun x13 => (N5 (p0_0, p0_1, p0_2) x11 (IntKind.i64.wrap (0 - x13))).bind fun x14 => (grd (P0 x14)).bind fun _ => (Y00 x14 x13 x11).bind fun x16 => match x16 with | (x16_0, x16_1, x16_2) => (grd ((u7.length + ([(x16_0, x16_1, x16_2)]).length) * 24 ≤ 140737488355328)).bind fun _ => (S4 x4 x1_1 p0_0 p0_1 p0_2 fuel (IntKind.i64.wrap (u6 + 1)) (u7 ++ [(x16_0, x16_1, x16_2)])) else some (u7))
def l8 (p0 : j0) : Option (D0) := match p0 with | (p0_0, p0_1, p0_2) => (n5 (p0_0, p0_1, p0_2) 0).bind fun x1 => match x1 with | (x1_0, x1_1) => (V04 x1_0 1 (x1_0.length : Int)).bind fun x4 => (S4 x4 x1_1 p0_0 p0_1 p0_2 T0 0 ([] : D0)).bind (fun y28 => (I8 y28).bind fun x33 => some x33)
def V3 (p0_2 : D0) (x7 : D0) : Nat → Int → (List B0) → Option ((List B0))
 | 0, _, _ => none
 | fuel + 1, u11, u12 => (if (decide (u11 < ((p0_2.length : Nat) : Int))) = true then (gi p0_2 u11).bind fun x16 => match x16 with | (x16_0, x16_1, x16_2) => (A2 x7 (x16_0, x16_1, x16_2)).bind fun x17 => (if (!x17) = true then (grd ((u12.length + ([(x16_0, x16_1, x16_2)]).length) * 24 ≤ 140737488355328)).bind fun _ => (V3 p0_2 x7 fuel (IntKind.i64.wrap (u11 + 1)) (u12 ++ [(x16_0, x16_1, x16_2)])) else (V3 p0_2 x7 fuel (IntKind.i64.wrap (u11 + 1)) u12)) else some (u12))
def I7 (p0 : j0) : Option (D0) := match p0 with | (p0_0, p0_1, p0_2) => (S5 (p0_0, p0_1, p0_2)).bind fun x1 => (if (!x1) = true then some ([] : D0) else (l8 (p0_0, p0_1, p0_2)).bind fun x7 => (V3 p0_2 x7 T0 0 ([] : D0)).bind (fun y25 => some y25))
def J5 (x10 : D0) (x7_1 : W7) : Nat → Int → (List J0) → Option ((List J0))
 | 0, _, _ => none
 | fuel + 1, u14, u15 => (if (decide (u14 < ((x10.length : Nat) : Int))) = true then (gi x10 u14).bind fun x19 => match x19 with | (x19_0, x19_1, x19_2) => (gi x7_1 x19_0).bind fun x20 => (some [x19_1]).bind fun x25 => (gi x7_1 x19_2).bind fun x28 => (H7 x28).bind fun x33 => (some [x20, x25, x33]).bind fun x36 => (p7 x36).bind fun x41 => (some [x41]).bind fun x45 => (grd ((u15.length + x45.length) * 24 ≤ 140737488355328)).bind fun _ => (J5 x10 x7_1 fuel (IntKind.i64.wrap (u14 + 1)) (u15 ++ x45)) else some (u15))
def n8 (p0 : j0) : Option (W7) := match p0 with | (p0_0, p0_1, p0_2) => (K5 (p0_0, p0_1, p0_2)).bind fun x1 => (if (!x1) = true then some ([] : W7) else (n5 (p0_0, p0_1, p0_2) 0).bind fun x7 => match x7 with | (x7_0, x7_1) => (I7 (p0_0, p0_1, p0_2)).bind fun x10 => (J5 x10 x7_1 T0 0 ([] : W7)).bind (fun y63 => some y63))
def l4 (p1 : W7) (p0_0 : Int) (p0_1 : Int) (p0_2 : D0) : Nat → Int → Option ((Bool) ⊕ (Unit))
 | 0, _ => none
 | fuel + 1, u4 => (if (decide (u4 < ((p1.length : Nat) : Int))) = true then (gi p1 u4).bind fun x8 => (N6 x8).bind fun x9 => (r7 (p0_0, p0_1, p0_2) x9).bind fun x12 => (if (!x12) = true then some (.inl false) else (l4 p1 p0_0 p0_1 p0_2 fuel (IntKind.i64.wrap (u4 + 1)))) else some (.inr ()))
def r6 (p0 : j0) (p1 : W7) : Option (Bool) := match p0 with | (p0_0, p0_1, p0_2) => (K5 (p0_0, p0_1, p0_2)).bind fun x1 => (if (!x1) = true then some false else (l4 p1 p0_0 p0_1 p0_2 T0 0).bind fun X24 => T7 X24 (fun _ => some true))
def E8 (p0 : j0) (p1 : j0) : Option (Bool) := match p0 with | (p0_0, p0_1, p0_2) => match p1 with | (p1_0, p1_1, p1_2) => (K5 (p0_0, p0_1, p0_2)).bind fun x1 => (chk x1 (K5 (p1_0, p1_1, p1_2)) false).bind fun x4 => (chk (bif (bif x1 then x4 else false) then (decide (p0_0 = p1_0)) else false) (n8 (p0_0, p0_1, p0_2)) []).bind fun x9 => (chk (bif (bif x1 then x4 else false) then (decide (p0_0 = p1_0)) else false) (r6 (p1_0, p1_1, p1_2) x9) false).bind fun x12 => some (bif (bif (bif x1 then x4 else false) then (decide (p0_0 = p1_0)) else false) then x12 else false)
def N3 (p0_1 : n3) (x1_0_0 : Int) (x1_0_1 : Int) (x1_0_2 : D0) : Nat → Int → (List ByteArray) → Option ((List ByteArray))
 | 0, _, _ => none
 | fuel + 1, u12, u13 => (if (decide (u12 < ((p0_1.length : Nat) : Int))) = true then (gi p0_1 u12).bind fun x17 => match x17 with | (x17_0, (x17_1, x17_2, x17_3)) => (E8 (x17_1, x17_2, x17_3) (x1_0_0, x1_0_1, x1_0_2)).bind fun x18 => (if x18 = true then (grd ((u13.length + [x17_0].length) * 16 ≤ 140737488355328)).bind fun _ => (N3 p0_1 x1_0_0 x1_0_1 x1_0_2 fuel (IntKind.i64.wrap (u12 + 1)) (u13 ++ [x17_0])) else (N3 p0_1 x1_0_0 x1_0_1 x1_0_2 fuel (IntKind.i64.wrap (u12 + 1)) u13)) else some (u13))
def w8 (p0 : L1) (p1 : ByteArray) : Option ((List ByteArray)) := match p0 with | (p0_0, p0_1) => (G9 (p0_0, p0_1) p1).bind fun x1 => match x1 with | (x1_0, x1_1) => match x1_0 with | (x1_0_0, x1_0_1, x1_0_2) => (chk (!(!x1_1)) (j8 (p0_0, p0_1)) false).bind fun x5 => (if (bif (!x1_1) then true else (!x5)) = true then some ([] : (List ByteArray)) else (N3 p0_1 x1_0_0 x1_0_1 x1_0_2 T0 0 ([] : (List ByteArray))).bind (fun y26 => some y26))
end Go.Proofs.YtknoadmdnjaocaaGreat
