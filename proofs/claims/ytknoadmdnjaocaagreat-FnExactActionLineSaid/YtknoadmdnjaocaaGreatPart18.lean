/- Texts of the claim, joined: What functions of the program compute, in plain words: batch 1; What functions of the program compute, in plain words: batch 4g; What functions of the program compute, in plain words: batch 9; What functions of the program compute, in plain words: batch g1; What functions of the program compute, in plain words: batch g2; What functions of the program compute, in plain words: batch g3; What functions of the program compute, in plain words: batch g4; What functions of the program compute, in plain words: batch h1; What functions of the program compute, in plain words: batch h3; What functions of the program compute, in plain words: batch i1; What functions of the program compute, in plain words: batch i2; What functions of the program compute, in plain words: batch b1; What functions of the program compute, in plain words: batch b2; What functions of the program compute, in plain words: batch 5e; What functions of the program compute, in plain words: batch 2; What functions of the program compute, in plain words: batch 4; What functions of the program compute, in plain words: batch a1; What functions of the program compute, in plain words: batch a2. -/
import Derived.Test.YtknoadmdnjaocaaGreatPart17
import Derived.Test.YtknoadmdnjaocaaGreatH36
namespace Go.Proofs.YtknoadmdnjaocaaGreat
open Go.H
set_option linter.unusedVariables false
set_option linter.unusedSimpArgs false
set_option maxRecDepth 10000
def l6 (p0 : Int) (p1 : Int) (p2 : Int) : Option (Bool) := some (bif (decide (p0 ≥ p1)) then (decide (p0 ≤ p2)) else false)
def M6 (p0 : Int) (p1 : Int) (p2 : Int) : Option (Bool) := some (bif (decide (p0 ≥ p1)) then (decide (p0 ≤ p2)) else false)
def j6 (p0 : Int) (p1 : Int) : Option (Int) := (if (decide (p0 < p1)) = true then some (-1) else (if (decide (p0 > p1)) = true then some 1 else some 0))
end Go.Proofs.YtknoadmdnjaocaaGreat
namespace Go.Proofs.YtknoadmdnjaocaaGreat
open Go.H
set_option linter.unusedVariables false
set_option linter.unusedSimpArgs false
set_option maxRecDepth 10000
def B00 (p0 : l0) (p1 : F0) : Option (Bool) := match p0 with | (p0_0, p0_1, p0_2) => match p1 with | (p1_0, p1_1, p1_2) => (l6 p1_0 0 (IntKind.i64.wrap (p0_1 - 1))).bind fun x1 => (chk x1 (l6 p1_2 0 (IntKind.i64.wrap (p0_1 - 1))) false).bind fun x2 => (chk (bif x1 then x2 else false) (l6 p1_1 1 p0_0) false).bind fun x3 => some (bif (bif x1 then x2 else false) then x3 else false)
def U5 (p0_0 : Int) (p0_1 : Int) (p0_2 : Int) (p1_0 : Int) (p1_1 : Int) (p1_2 : Int) : Nat → Int → Option ((Int) ⊕ (Unit))
 | 0, _ => none
 | fuel + 1, u2 => (if (decide (u2 < 3)) = true then (gi [p0_0, p0_1, p0_2] u2).bind fun x6 => (gi [p1_0, p1_1, p1_2] u2).bind fun x7 => (if (decide (x6 < x7)) = true then some (.inl (-1)) else (gi [p0_0, p0_1, p0_2] u2).bind fun x9 => (gi [p1_0, p1_1, p1_2] u2).bind fun x10 => (if (decide (x9 > x10)) = true then some (.inl 1) else (U5 p0_0 p0_1 p0_2 p1_0 p1_1 p1_2 fuel (IntKind.i64.wrap (u2 + 1))))) else some (.inr ()))
def T6 (p0 : F0) (p1 : F0) : Option (Int) := match p0 with | (p0_0, p0_1, p0_2) => match p1 with | (p1_0, p1_1, p1_2) => (U5 p0_0 p0_1 p0_2 p1_0 p1_1 p1_2 I0 0).bind fun X14 => Z7 X14 (fun _ => some 0)
def o6 (p0_2 : J0) (p0_0 : Int) (p0_1 : Int) : Nat → Int → Option ((Bool) ⊕ (Unit))
 | 0, _ => none
 | fuel + 1, u2 => (if (decide (u2 < ((p0_2.length : Nat) : Int))) = true then (gi p0_2 u2).bind fun x6 => match x6 with | (x6_0, x6_1, x6_2) => (B00 (p0_0, p0_1, p0_2) (x6_0, x6_1, x6_2)).bind fun x7 => (chk ((decide (u2 > 0)) && (!(!x7))) (gi p0_2 (IntKind.i64.wrap (u2 - 1))) (0, 0, 0)).bind fun x8 => match x8 with | (x8_0, x8_1, x8_2) => (chk ((decide (u2 > 0)) && (!(!x7))) (gi p0_2 u2) (0, 0, 0)).bind fun x9 => match x9 with | (x9_0, x9_1, x9_2) => (chk ((decide (u2 > 0)) && (!(!x7))) (T6 (x8_0, x8_1, x8_2) (x9_0, x9_1, x9_2)) 0).bind fun x10 => (grd (M0 x10)).bind fun _ => (if (bif (!x7) then true else (bif (decide (u2 > 0)) then (decide (x10 ≥ 0)) else false)) = true then some (.inl false) else (o6 p0_2 p0_0 p0_1 fuel (IntKind.i64.wrap (u2 + 1)))) else some (.inr ()))
def U4 (p0 : l0) : Option (Bool) := match p0 with | (p0_0, p0_1, p0_2) => (o6 p0_2 p0_0 p0_1 I0 0).bind fun X19 => Z7 X19 (fun _ => (l6 p0_0 1 3).bind fun x16 => (chk x16 (l6 p0_1 1 40) false).bind fun x17 => some (bif (bif x16 then x17 else false) then (decide (((p0_2.length : Nat) : Int) ≤ 120)) else false))
def p6 (p0 : l0) (p1 : Int) : Option (Bool) := match p0 with | (p0_0, p0_1, p0_2) => (M6 p1 0 (IntKind.i64.wrap (p0_1 - 1))).bind fun x1 => some x1
def G7 (p0 : l0) (p1 : F0) : Option (Bool) := match p0 with | (p0_0, p0_1, p0_2) => match p1 with | (p1_0, p1_1, p1_2) => (p6 (p0_0, p0_1, p0_2) p1_0).bind fun x1 => (chk x1 (p6 (p0_0, p0_1, p0_2) p1_2) false).bind fun x2 => (chk (bif x1 then x2 else false) (M6 p1_1 1 p0_0) false).bind fun x3 => some (bif (bif x1 then x2 else false) then x3 else false)
def V7 (p0 : F0) (p1 : F0) : Option (Int) := match p0 with | (p0_0, p0_1, p0_2) => match p1 with | (p1_0, p1_1, p1_2) => (j6 p0_0 p1_0).bind fun x1 => (grd (M0 x1)).bind fun _ => (if (!decide (x1 = 0)) = true then some x1 else (j6 p0_1 p1_1).bind fun x4 => (grd (M0 x4)).bind fun _ => (if (!decide (x4 = 0)) = true then some x4 else (j6 p0_2 p1_2).bind fun x7 => (grd (M0 x7)).bind fun _ => some x7))
def r6 (p0_2 : J0) (p0_0 : Int) (p0_1 : Int) : Nat → Int → Option ((Bool) ⊕ (Unit))
 | 0, _ => none
 | fuel + 1, u5 => (if (decide (u5 < ((p0_2.length : Nat) : Int))) = true then (gi p0_2 u5).bind fun x9 => match x9 with | (x9_0, x9_1, x9_2) => (G7 (p0_0, p0_1, p0_2) (x9_0, x9_1, x9_2)).bind fun x10 => (chk ((decide (u5 > 0)) && (!(!x10))) (gi p0_2 (IntKind.i64.wrap (u5 - 1))) (0, 0, 0)).bind fun x11 => match x11 with | (x11_0, x11_1, x11_2) => (chk ((decide (u5 > 0)) && (!(!x10))) (V7 (x11_0, x11_1, x11_2) (x9_0, x9_1, x9_2)) 0).bind fun x12 => (grd (M0 x12)).bind fun _ => (if (bif (!x10) then true else (bif (decide (u5 > 0)) then (decide (x12 ≥ 0)) else false)) = true then some (.inl false) else (r6 p0_2 p0_0 p0_1 fuel (IntKind.i64.wrap (u5 + 1)))) else some (.inr ()))
def H7 (p0 : l0) : Option (Bool) := match p0 with | (p0_0, p0_1, p0_2) => (M6 p0_0 1 3).bind fun x1 => (chk (!(!x1)) (M6 p0_1 1 40) false).bind fun x2 => (if (bif (bif (!x1) then true else (!x2)) then true else (decide (((p0_2.length : Nat) : Int) > 120))) = true then some false else (r6 p0_2 p0_0 p0_1 I0 0).bind fun X17 => Z7 X17 (fun _ => some true))
end Go.Proofs.YtknoadmdnjaocaaGreat
namespace Go.Proofs.YtknoadmdnjaocaaGreat
open Go.H
set_option linter.unusedVariables false
set_option linter.unusedSimpArgs false
set_option maxRecDepth 10000
def N3 (p0 : D0) (p1 : Int) : Nat → Bool → Int → (List Int) → Option (Bool × (List Int))
 | 0, _, _, _ => none
 | fuel + 1, u2, u3, u4 => (if (decide (u3 < ((p0.length : Nat) : Int))) = true then (gi p0 u3).bind fun x8 => (if (decide (x8 = p1)) = true then (gi p0 u3).bind fun x10 => (if (bif (decide (x10 > p1)) then (!true) else false) = true then (grd ((u4.length + [p1].length) * 8 ≤ 140737488355328)).bind fun _ => (gi p0 u3).bind fun x13 => (grd (((u4 ++ [p1]).length + [x13].length) * 8 ≤ 140737488355328)).bind fun _ => (N3 p0 p1 fuel true (IntKind.i64.wrap (u3 + 1)) ((u4 ++ [p1]) ++ [x13])) else (gi p0 u3).bind fun x15 => (grd ((u4.length + [x15].length) * 8 ≤ 140737488355328)).bind fun _ => (N3 p0 p1 fuel true (IntKind.i64.wrap (u3 + 1)) (u4 ++ [x15]))) else (gi p0 u3).bind fun x17 => (if (bif (decide (x17 > p1)) then (!u2) else false) = true then (grd ((u4.length + [p1].length) * 8 ≤ 140737488355328)).bind fun _ => (gi p0 u3).bind fun x20 => (grd (((u4 ++ [p1]).length + [x20].length) * 8 ≤ 140737488355328)).bind fun _ => (N3 p0 p1 fuel true (IntKind.i64.wrap (u3 + 1)) ((u4 ++ [p1]) ++ [x20])) else (gi p0 u3).bind fun x22 => (grd ((u4.length + [x22].length) * 8 ≤ 140737488355328)).bind fun _ => (N3 p0 p1 fuel u2 (IntKind.i64.wrap (u3 + 1)) (u4 ++ [x22])))) else some (u2, u4))
def t7 (p0 : D0) (p1 : Int) : Option (D0) := (N3 p0 p1 I0 false 0 ([] : D0)).bind (fun S47 => match S47 with | (y35, y36) => (if (!y35) = true then (grd ((y36.length + [p1].length) * 8 ≤ 140737488355328)).bind fun _ => some (y36 ++ [p1]) else some y36))
def I7 (p0 : D0) (p1 : Int) : Nat → Int → Option ((Bool) ⊕ (Unit))
 | 0, _ => none
 | fuel + 1, u2 => (if (decide (u2 < ((p0.length : Nat) : Int))) = true then (gi p0 u2).bind fun x6 => (if (decide (x6 = p1)) = true then some (.inl true) else (I7 p0 p1 fuel (IntKind.i64.wrap (u2 + 1)))) else some (.inr ()))
def a8 (p0 : D0) (p1 : Int) : Option (Bool) := (I7 p0 p1 I0 0).bind fun X10 => Z7 X10 (fun _ => some false)
def D3 (p0_2 : J0) (p2 : Int) (p1 : Int) : Nat → D0 → Int → Option (D0)
 | 0, _, _ => none
 | fuel + 1, u6, u7 => (if (decide (u7 < ((p0_2.length : Nat) : Int))) = true then (gi p0_2 u7).bind fun x11 => match x11 with | (x11_0, x11_1, x11_2) => (if (bif (bif (decide (p2 > 0)) then (decide (x11_1 = p2)) else false) then (decide (x11_0 = p1)) else false) = true then (t7 u6 x11_2).bind fun x13 => (if (bif (bif (decide (p2 < 0)) then (decide (x11_1 = (IntKind.i64.wrap (0 - p2)))) else false) then (decide (x11_2 = p1)) else false) = true then (t7 x13 x11_0).bind fun x17 => (D3 p0_2 p2 p1 fuel x17 (IntKind.i64.wrap (u7 + 1))) else (D3 p0_2 p2 p1 fuel x13 (IntKind.i64.wrap (u7 + 1)))) else (if (bif (bif (decide (p2 < 0)) then (decide (x11_1 = (IntKind.i64.wrap (0 - p2)))) else false) then (decide (x11_2 = p1)) else false) = true then (t7 u6 x11_0).bind fun x21 => (D3 p0_2 p2 p1 fuel x21 (IntKind.i64.wrap (u7 + 1))) else (D3 p0_2 p2 p1 fuel u6 (IntKind.i64.wrap (u7 + 1))))) else some (u6))
def Z8 (p0 : l0) (p1 : Int) (p2 : Int) : Option (D0) := match p0 with | (p0_0, p0_1, p0_2) => (D3 p0_2 p2 p1 I0 ([] : D0) 0).bind (fun y25 => some y25)
def O6 (p0 : l0) (p1 : Int) (p2 : Int) : Option (Int) := match p0 with | (p0_0, p0_1, p0_2) => (Z8 (p0_0, p0_1, p0_2) p1 p2).bind fun x1 => (if (decide (((x1.length : Nat) : Int) = 0)) = true then some (-1) else (gi x1 0).bind fun x5 => some x5)
def M5 (u2 : Int) (p0_2 : J0) : Nat → Int → Option ((Bool) ⊕ (Unit))
 | 0, _ => none
 | fuel + 1, u8 => (if (decide (u8 < u2)) = true then (gi p0_2 u2).bind fun x12 => match x12 with | (x12_0, x12_1, x12_2) => (gi p0_2 u8).bind fun x13 => match x13 with | (x13_0, x13_1, x13_2) => (if (bif (decide (x12_1 = x13_1)) then (bif (decide (x12_0 = x13_0)) then true else (decide (x12_2 = x13_2))) else false) = true then some (.inl false) else (M5 u2 p0_2 fuel (IntKind.i64.wrap (u8 + 1)))) else some (.inr ()))
def J4 (p0_2 : J0) (p0_0 : Int) (p0_1 : Int) : Nat → Int → Option ((Bool) ⊕ (Unit))
 | 0, _ => none
 | fuel + 1, u2 => (chk (decide (u2 < ((p0_2.length : Nat) : Int))) (U4 (p0_0, p0_1, p0_2)) false).bind fun x5 => (if (bif (decide (u2 < ((p0_2.length : Nat) : Int))) then x5 else false) = true then (M5 u2 p0_2 I0 0).bind fun X17 => q0d X17 (fun _ => (J4 p0_2 p0_0 p0_1 fuel (IntKind.i64.wrap (u2 + 1)))) else some (.inr ()))
def Z6 (p0 : l0) : Option (Bool) := match p0 with | (p0_0, p0_1, p0_2) => (J4 p0_2 p0_0 p0_1 I0 0).bind fun X22 => Z7 X22 (fun _ => (U4 (p0_0, p0_1, p0_2)).bind fun x20 => some x20)
def d4 (p0_2 : J0) (p2 : Int) (p1 : Int) : Nat → Int → (List Int) → Option ((List Int))
 | 0, _, _ => none
 | fuel + 1, u2, u3 => (if (decide (u2 < ((p0_2.length : Nat) : Int))) = true then (gi p0_2 u2).bind fun x7 => match x7 with | (x7_0, x7_1, x7_2) => (if (bif (bif (decide (p2 > 0)) then (decide (x7_1 = p2)) else false) then (decide (x7_0 = p1)) else false) = true then (grd ((u3.length + [x7_2].length) * 8 ≤ 140737488355328)).bind fun _ => (d4 p0_2 p2 p1 fuel (IntKind.i64.wrap (u2 + 1)) (u3 ++ [x7_2])) else (if (bif (bif (bif (decide (p2 < 0)) then (!decide (p2 = (-9223372036854775808))) else false) then (decide (x7_1 = (IntKind.i64.wrap (0 - p2)))) else false) then (decide (x7_2 = p1)) else false) = true then (grd ((u3.length + [x7_0].length) * 8 ≤ 140737488355328)).bind fun _ => (d4 p0_2 p2 p1 fuel (IntKind.i64.wrap (u2 + 1)) (u3 ++ [x7_0])) else (d4 p0_2 p2 p1 fuel (IntKind.i64.wrap (u2 + 1)) u3))) else some (u3))
def a9 (p0 : l0) (p1 : Int) (p2 : Int) : Option (D0) := match p0 with | (p0_0, p0_1, p0_2) => (d4 p0_2 p2 p1 I0 0 ([] : D0)).bind (fun y19 => (grd (y19.length < 4611686018427387904)).bind fun _ => some (n01 eqI (A03 P7 y19)))
def P6 (p0 : l0) (p1 : Int) (p2 : Int) : Option (Int) := match p0 with | (p0_0, p0_1, p0_2) => (a9 (p0_0, p0_1, p0_2) p1 p2).bind fun x1 => (if (decide (((x1.length : Nat) : Int) = 0)) = true then some (-1) else (gi x1 0).bind fun x5 => some x5)
def N5 (x9 : J0) (x8_1 : Int) (x8_0 : Int) (x8_2 : Int) : Nat → Int → Option ((Bool) ⊕ (Unit))
 | 0, _ => none
 | fuel + 1, u11 => (if (decide (u11 < ((x9.length : Nat) : Int))) = true then (gi x9 u11).bind fun x15 => match x15 with | (x15_0, x15_1, x15_2) => (if (bif (decide (x8_1 = x15_1)) then (bif (decide (x8_0 = x15_0)) then true else (decide (x8_2 = x15_2))) else false) = true then some (.inl false) else (N5 x9 x8_1 x8_0 x8_2 fuel (IntKind.i64.wrap (u11 + 1)))) else some (.inr ()))
def O5 (p0_2 : J0) : Nat → Int → Option ((Bool) ⊕ (Unit))
 | 0, _ => none
 | fuel + 1, u4 => (if (decide (u4 < ((p0_2.length : Nat) : Int))) = true then (gi p0_2 u4).bind fun x8 => match x8 with | (x8_0, x8_1, x8_2) => (W04 p0_2 (IntKind.i64.wrap (u4 + 1)) (p0_2.length : Int)).bind fun x9 => (N5 x9 x8_1 x8_0 x8_2 I0 0).bind fun X19 => q0d X19 (fun _ => (O5 p0_2 fuel (IntKind.i64.wrap (u4 + 1)))) else some (.inr ()))
def d6 (p0 : l0) : Option (Bool) := match p0 with | (p0_0, p0_1, p0_2) => (H7 (p0_0, p0_1, p0_2)).bind fun x1 => (if (!x1) = true then some false else (O5 p0_2 I0 0).bind fun X22 => Z7 X22 (fun _ => some true))
end Go.Proofs.YtknoadmdnjaocaaGreat
namespace Go.Proofs.YtknoadmdnjaocaaGreat
open Go.H
set_option linter.unusedVariables false
set_option linter.unusedSimpArgs false
set_option maxRecDepth 10000
def D5 (p0 : l0) : Option (l0) := match p0 with | (p0_0, p0_1, p0_2) => (grd ((([] : J0).length + p0_2.length) * 24 ≤ 140737488355328)).bind fun _ => some (p0_0, p0_1, (([] : J0) ++ p0_2))
def O3 (p0 : J0) (p1_0 : Int) (p1_1 : Int) (p1_2 : Int) : Nat → Bool → Int → (List F0) → Option (Bool × (List F0))
 | 0, _, _, _ => none
 | fuel + 1, u2, u3, u4 => (if (decide (u3 < ((p0.length : Nat) : Int))) = true then (gi p0 u3).bind fun x8 => match x8 with | (x8_0, x8_1, x8_2) => (T6 (p1_0, p1_1, p1_2) (x8_0, x8_1, x8_2)).bind fun x9 => (grd (M0 x9)).bind fun _ => (if (decide (x9 = 0)) = true then (if (bif (decide (x9 < 0)) then (!true) else false) = true then (grd ((u4.length + ([(p1_0, p1_1, p1_2)]).length) * 24 ≤ 140737488355328)).bind fun _ => (gi p0 u3).bind fun x14 => match x14 with | (x14_0, x14_1, x14_2) => (grd (((u4 ++ [(p1_0, p1_1, p1_2)]).length + ([(x14_0, x14_1, x14_2)]).length) * 24 ≤ 140737488355328)).bind fun _ => (O3 p0 p1_0 p1_1 p1_2 fuel true (IntKind.i64.wrap (u3 + 1)) ((u4 ++ [(p1_0, p1_1, p1_2)]) ++ [(x14_0, x14_1, x14_2)])) else (gi p0 u3).bind fun x16 => match x16 with | (x16_0, x16_1, x16_2) => (grd ((u4.length + ([(x16_0, x16_1, x16_2)]).length) * 24 ≤ 140737488355328)).bind fun _ => (O3 p0 p1_0 p1_1 p1_2 fuel true (IntKind.i64.wrap (u3 + 1)) (u4 ++ [(x16_0, x16_1, x16_2)]))) else (if (bif (decide (x9 < 0)) then (!u2) else false) = true then (grd ((u4.length + ([(p1_0, p1_1, p1_2)]).length) * 24 ≤ 140737488355328)).bind fun _ => (gi p0 u3).bind fun x20 => match x20 with | (x20_0, x20_1, x20_2) => (grd (((u4 ++ [(p1_0, p1_1, p1_2)]).length + ([(x20_0, x20_1, x20_2)]).length) * 24 ≤ 140737488355328)).bind fun _ => (O3 p0 p1_0 p1_1 p1_2 fuel true (IntKind.i64.wrap (u3 + 1)) ((u4 ++ [(p1_0, p1_1, p1_2)]) ++ [(x20_0, x20_1, x20_2)])) else (gi p0 u3).bind fun x22 => match x22 with | (x22_0, x22_1, x22_2) => (grd ((u4.length + ([(x22_0, x22_1, x22_2)]).length) * 24 ≤ 140737488355328)).bind fun _ => (O3 p0 p1_0 p1_1 p1_2 fuel u2 (IntKind.i64.wrap (u3 + 1)) (u4 ++ [(x22_0, x22_1, x22_2)])))) else some (u2, u4))
def n00 (p0 : J0) (p1 : F0) : Option (J0) := match p1 with | (p1_0, p1_1, p1_2) => (O3 p0 p1_0 p1_1 p1_2 I0 false 0 ([] : J0)).bind (fun S47 => match S47 with | (y35, y36) => (if (!y35) = true then (grd ((y36.length + ([(p1_0, p1_1, p1_2)]).length) * 24 ≤ 140737488355328)).bind fun _ => some (y36 ++ [(p1_0, p1_1, p1_2)]) else some y36))
def L2 (p0_2 : J0) (p1 : Int) : Nat → Int → Int → Option (Int)
 | 0, _, _ => none
 | fuel + 1, u2, u3 => (if (decide (u3 < ((p0_2.length : Nat) : Int))) = true then (gi p0_2 u3).bind fun x7 => match x7 with | (x7_0, x7_1, x7_2) => (if (decide (x7_0 = p1)) = true then (gi p0_2 u3).bind fun x9 => match x9 with | (x9_0, x9_1, x9_2) => (if (decide (x9_2 = p1)) = true then (L2 p0_2 p1 fuel (IntKind.i64.wrap ((IntKind.i64.wrap (u2 + 1)) + 1)) (IntKind.i64.wrap (u3 + 1))) else (L2 p0_2 p1 fuel (IntKind.i64.wrap (u2 + 1)) (IntKind.i64.wrap (u3 + 1)))) else (gi p0_2 u3).bind fun x11 => match x11 with | (x11_0, x11_1, x11_2) => (if (decide (x11_2 = p1)) = true then (L2 p0_2 p1 fuel (IntKind.i64.wrap (u2 + 1)) (IntKind.i64.wrap (u3 + 1))) else (L2 p0_2 p1 fuel u2 (IntKind.i64.wrap (u3 + 1))))) else some (u2))
def F8 (p0 : l0) (p1 : Int) : Option (Int) := match p0 with | (p0_0, p0_1, p0_2) => (L2 p0_2 p1 I0 0 0).bind (fun y14 => some y14)
def j5 (p0_2 : J0) (p1_2 : J0) : Nat → Int → Option ((Bool) ⊕ (Unit))
 | 0, _ => none
 | fuel + 1, u3 => (if (decide (u3 < ((p0_2.length : Nat) : Int))) = true then (gi p0_2 u3).bind fun x7 => match x7 with | (x7_0, x7_1, x7_2) => (gi p1_2 u3).bind fun x8 => match x8 with | (x8_0, x8_1, x8_2) => (if (!eqE (x7_0, x7_1, x7_2) (x8_0, x8_1, x8_2)) = true then some (.inl false) else (j5 p0_2 p1_2 fuel (IntKind.i64.wrap (u3 + 1)))) else some (.inr ()))
def n7 (p0 : l0) (p1 : l0) : Option (Bool) := match p0 with | (p0_0, p0_1, p0_2) => match p1 with | (p1_0, p1_1, p1_2) => (if (bif (bif (!decide (p0_0 = p1_0)) then true else (!decide (p0_1 = p1_1))) then true else (!decide (((p0_2.length : Nat) : Int) = ((p1_2.length : Nat) : Int)))) = true then some false else (j5 p0_2 p1_2 I0 0).bind fun X12 => Z7 X12 (fun _ => some true))
def I2 (p0_2 : J0) : Nat → D0 → Int → Option (D0)
 | 0, _, _ => none
 | fuel + 1, u19, u20 => (if (decide (u20 < ((p0_2.length : Nat) : Int))) = true then (gi p0_2 u20).bind fun x24 => match x24 with | (x24_0, x24_1, x24_2) => (a8 u19 x24_0).bind fun x25 => (if x25 = true then (t7 u19 x24_2).bind fun x27 => (a8 x27 x24_2).bind fun x30 => (if x30 = true then (t7 x27 x24_0).bind fun x32 => (I2 p0_2 fuel x32 (IntKind.i64.wrap (u20 + 1))) else (I2 p0_2 fuel x27 (IntKind.i64.wrap (u20 + 1)))) else (a8 u19 x24_2).bind fun x35 => (if x35 = true then (t7 u19 x24_0).bind fun x37 => (I2 p0_2 fuel x37 (IntKind.i64.wrap (u20 + 1))) else (I2 p0_2 fuel u19 (IntKind.i64.wrap (u20 + 1))))) else some (u19))
def L4 (p0_2 : J0) : Nat → D0 → Int → Option (D0)
 | 0, _, _ => none
 | fuel + 1, u13, u14 => (if (decide (u14 < (IntKind.i64.wrap (((p0_2.length : Nat) : Int) + 1)))) = true then (I2 p0_2 I0 u13 0).bind (fun y41 => (L4 p0_2 fuel y41 (IntKind.i64.wrap (u14 + 1)))) else some (u13))
def w8 (p0 : l0) (p1 : Int) : Option (D0) := match p0 with | (p0_0, p0_1, p0_2) => (U4 (p0_0, p0_1, p0_2)).bind fun x1 => (chk (!(!x1)) (l6 p1 0 (IntKind.i64.wrap (p0_1 - 1))) false).bind fun x2 => (if (bif (!x1) then true else (!x2)) = true then some ([] : D0) else (L4 p0_2 I0 [p1] 0).bind (fun y45 => some y45))
def c7 (p0_1 : Int) (p0_0 : Int) (p0_2 : J0) (x1 : D0) : Nat → Int → Option ((Int) ⊕ (Unit))
 | 0, _ => none
 | fuel + 1, u5 => (if (decide (u5 < p0_1)) = true then (F8 (p0_0, p0_1, p0_2) u5).bind fun x9 => (grd (M0 x9)).bind fun _ => (chk (!(decide (x9 < 2))) (a8 x1 u5) false).bind fun x11 => (if (bif (decide (x9 < 2)) then true else (!x11)) = true then some (.inl u5) else (c7 p0_1 p0_0 p0_2 x1 fuel (IntKind.i64.wrap (u5 + 1)))) else some (.inr ()))
def I9 (p0 : l0) : Option (Int) := match p0 with | (p0_0, p0_1, p0_2) => (w8 (p0_0, p0_1, p0_2) 0).bind fun x1 => (c7 p0_1 p0_0 p0_2 x1 I0 1).bind fun X15 => Z7 X15 (fun _ => some (-1))
def j3 (p0_2 : J0) (u9 : (List Int)) : Nat → Int → Int → Int → J0 → Option (Int × Int × J0)
 | 0, _, _, _, _ => none
 | fuel + 1, u24, u25, u26, u27 => (if (decide (u24 < ((p0_2.length : Nat) : Int))) = true then (gi p0_2 u24).bind fun x31 => match x31 with | (x31_0, x31_1, x31_2) => (gi u9 x31_0).bind fun x32 => (chk (decide (x32 > 0)) (gi u9 x31_2) 0).bind fun x33 => (if (bif (decide (x32 > 0)) then (decide (x33 > 0)) else false) = true then (gi u9 x31_0).bind fun x35 => (gi u9 x31_2).bind fun x42 => (n00 u27 ((IntKind.i64.wrap (x35 - 1)), x31_1, (IntKind.i64.wrap (x42 - 1)))).bind fun x51 => (j3 p0_2 u9 fuel (IntKind.i64.wrap (u24 + 1)) u25 u26 x51) else (j3 p0_2 u9 fuel (IntKind.i64.wrap (u24 + 1)) u25 u26 u27)) else some (u25, u26, u27))
def P3 (p1 : D0) (p0_1 : Int) (p0_0 : Int) (p0_2 : J0) : Nat → Int → (List Int) → Option ((l0 × Bool) ⊕ ((List Int)))
 | 0, _, _ => none
 | fuel + 1, u8, u9 => (if (decide (u8 < ((p1.length : Nat) : Int))) = true then (gi p1 u8).bind fun x13 => (l6 x13 0 (IntKind.i64.wrap (p0_1 - 1))).bind fun x14 => (chk (!(!x14)) (gi p1 u8) 0).bind fun x15 => (chk (!(!x14)) (gi u9 x15) 0).bind fun x16 => (if (bif (!x14) then true else (!decide (x16 = 0))) = true then (D5 (p0_0, p0_1, p0_2)).bind fun x18 => match x18 with | (x18_0, x18_1, x18_2) => some (.inl ((x18_0, x18_1, x18_2), false)) else (gi p1 u8).bind fun x21 => (gi u9 x21).bind fun x22 => (P3 p1 p0_1 p0_0 p0_2 fuel (IntKind.i64.wrap (u8 + 1)) (u9.set x21.toNat (IntKind.i64.wrap (u8 + 1))))) else some (.inr (u9)))
def l5 (p0 : l0) (p1 : D0) : Option (l0 × Bool) := match p0 with | (p0_0, p0_1, p0_2) => (U4 (p0_0, p0_1, p0_2)).bind fun x1 => (if (bif (bif (!x1) then true else (decide (((p1.length : Nat) : Int) = 0))) then true else (decide (((p1.length : Nat) : Int) > p0_1))) = true then (D5 (p0_0, p0_1, p0_2)).bind fun x3 => match x3 with | (x3_0, x3_1, x3_2) => some ((x3_0, x3_1, x3_2), false) else (grd ((0 : Int) ≤ p0_1 ∧ p0_1 ≤ p0_1 ∧ p0_1 * 8 ≤ 140737488355328 ∧ p0_1 ≤ 9223372036854775807)).bind fun _ => (P3 p1 p0_1 p0_0 p0_2 I0 0 (List.replicate p0_1.toNat (0 : Int))).bind fun X100 => Z7 X100 (fun y61 => (j3 p0_2 y61 I0 0 p0_0 ((p1.length : Nat) : Int) ([] : J0)).bind (fun S97 => match S97 with | (y94, y95, y96) => some ((y94, y95, y96), true))))
def n5 (p0 : Int) : Nat → Int → (List Int) → Option ((List Int))
 | 0, _, _ => none
 | fuel + 1, u2, u3 => (if (decide (u2 ≤ p0)) = true then (grd ((u3.length + [u2].length) * 8 ≤ 140737488355328)).bind fun _ => (grd (((u3 ++ [u2]).length + ([(IntKind.i64.wrap (0 - u2))]).length) * 8 ≤ 140737488355328)).bind fun _ => (n5 p0 fuel (IntKind.i64.wrap (u2 + 1)) ((u3 ++ [u2]) ++ [(IntKind.i64.wrap (0 - u2))])) else some (u3))
def o7 (p0 : Int) : Option (D0) := (n5 p0 I0 1 ([] : D0)).bind (fun y14 => some y14)
def M2 (x7 : D0) (u11 : Int) (p0_0 : Int) (p0_1 : Int) (p0_2 : J0) : Nat → Int → (List Int) → Option ((List Int))
 | 0, _, _ => none
 | fuel + 1, u19, u20 => (if (decide (u19 < ((x7.length : Nat) : Int))) = true then (gi u20 u11).bind fun x24 => (gi x7 u19).bind fun x25 => (O6 (p0_0, p0_1, p0_2) x24 x25).bind fun x26 => (grd (M0 x26)).bind fun _ => (chk (decide (x26 ≥ 0)) (a8 u20 x26) false).bind fun x28 => (if (bif (decide (x26 ≥ 0)) then (!x28) else false) = true then (grd ((u20.length + [x26].length) * 8 ≤ 140737488355328)).bind fun _ => (M2 x7 u11 p0_0 p0_1 p0_2 fuel (IntKind.i64.wrap (u19 + 1)) (u20 ++ [x26])) else (M2 x7 u11 p0_0 p0_1 p0_2 fuel (IntKind.i64.wrap (u19 + 1)) u20)) else some (u20))
def G4 (x7 : D0) (p0_0 : Int) (p0_1 : Int) (p0_2 : J0) : Nat → Int → (List Int) → Option ((List Int))
 | 0, _, _ => none
 | fuel + 1, u11, u12 => (some u12.length).bind fun m15 => (grd (m15 ≤ 9223372036854775807)).bind fun _ => (if (decide (u11 < ((m15 : Nat) : Int))) = true then (M2 x7 u11 p0_0 p0_1 p0_2 I0 0 u12).bind (fun y36 => (G4 x7 p0_0 p0_1 p0_2 fuel (IntKind.i64.wrap (u11 + 1)) y36)) else some (u12))
def i7 (p0 : l0) : Option (D0) := match p0 with | (p0_0, p0_1, p0_2) => (Z6 (p0_0, p0_1, p0_2)).bind fun x1 => (if (!x1) = true then some ([] : D0) else (o7 p0_0).bind fun x7 => (G4 x7 p0_0 p0_1 p0_2 I0 0 [0]).bind (fun y44 => some y44))
def V5 (p0 : l0) : Option (l0) := match p0 with | (p0_0, p0_1, p0_2) => (i7 (p0_0, p0_1, p0_2)).bind fun x1 => (if (decide (((x1.length : Nat) : Int) = 0)) = true then (D5 (p0_0, p0_1, p0_2)).bind fun x5 => match x5 with | (x5_0, x5_1, x5_2) => some (x5_0, x5_1, x5_2) else (l5 (p0_0, p0_1, p0_2) x1).bind fun x8 => match x8 with | (x8_0, x8_1) => match x8_0 with | (x8_0_0, x8_0_1, x8_0_2) => some (x8_0_0, x8_0_1, x8_0_2))
def J9 (p0 : l0) : Option (Bool) := match p0 with | (p0_0, p0_1, p0_2) => (Z6 (p0_0, p0_1, p0_2)).bind fun x1 => (chk x1 (I9 (p0_0, p0_1, p0_2)) 0).bind fun x4 => (grd (M0 x4)).bind fun q5 => (chk (bif x1 then (decide (x4 < 0)) else false) (V5 (p0_0, p0_1, p0_2)) (0, 0, [])).bind fun x10 => match x10 with | (x10_0, x10_1, x10_2) => (chk (bif x1 then (decide (x4 < 0)) else false) (n7 (x10_0, x10_1, x10_2) (p0_0, p0_1, p0_2)) false).bind fun x13 => some (bif (bif x1 then (decide (x4 < 0)) else false) then x13 else false)
def P9 (p0 : l0) : Option (Bool) := match p0 with | (p0_0, p0_1, p0_2) => (J9 (p0_0, p0_1, p0_2)).bind fun x1 => some x1
end Go.Proofs.YtknoadmdnjaocaaGreat
namespace Go.Proofs.YtknoadmdnjaocaaGreat
open Go.H
set_option linter.unusedVariables false
set_option linter.unusedSimpArgs false
set_option maxRecDepth 10000
def W4 (p0 : l0) : Option (l0) := match p0 with | (p0_0, p0_1, p0_2) => (grd ((([] : J0).length + p0_2.length) * 24 ≤ 140737488355328)).bind fun _ => some (p0_0, p0_1, (([] : J0) ++ p0_2))
def K4 (p0_2 : J0) (p1 : Int) : Nat → Int → Int → Option (Int)
 | 0, _, _ => none
 | fuel + 1, u2, u3 => (if (decide (u3 < ((p0_2.length : Nat) : Int))) = true then (gi p0_2 u3).bind fun x7 => match x7 with | (x7_0, x7_1, x7_2) => (if (decide (x7_0 = p1)) = true then (if (decide (x7_2 = p1)) = true then (K4 p0_2 p1 fuel (IntKind.i64.wrap ((IntKind.i64.wrap (u2 + 1)) + 1)) (IntKind.i64.wrap (u3 + 1))) else (K4 p0_2 p1 fuel (IntKind.i64.wrap (u2 + 1)) (IntKind.i64.wrap (u3 + 1)))) else (if (decide (x7_2 = p1)) = true then (K4 p0_2 p1 fuel (IntKind.i64.wrap (u2 + 1)) (IntKind.i64.wrap (u3 + 1))) else (K4 p0_2 p1 fuel u2 (IntKind.i64.wrap (u3 + 1))))) else some (u2))
def y9 (p0 : l0) (p1 : Int) : Option (Int) := match p0 with | (p0_0, p0_1, p0_2) => (K4 p0_2 p1 I0 0 0).bind (fun y12 => some y12)
def Z0 (p0 : J0) (p1 : J0) : Nat → Int → Option ((Bool) ⊕ (Unit))
 | 0, _ => none
 | fuel + 1, u3 => (if (decide (u3 < ((p0.length : Nat) : Int))) = true then (gi p0 u3).bind fun x7 => match x7 with | (x7_0, x7_1, x7_2) => (gi p1 u3).bind fun x8 => match x8 with | (x8_0, x8_1, x8_2) => (if (!eqE (x7_0, x7_1, x7_2) (x8_0, x8_1, x8_2)) = true then some (.inl false) else (Z0 p0 p1 fuel (IntKind.i64.wrap (u3 + 1)))) else some (.inr ()))
def Y1 (p0 : J0) (p1 : J0) : Option (Bool) := (if (!decide (((p0.length : Nat) : Int) = ((p1.length : Nat) : Int))) = true then some false else (Z0 p0 p1 I0 0).bind fun X12 => Z7 X12 (fun _ => some true))
def p7 (p0 : l0) (p1 : l0) : Option (Bool) := match p0 with | (p0_0, p0_1, p0_2) => match p1 with | (p1_0, p1_1, p1_2) => (chk (bif (decide (p0_0 = p1_0)) then (decide (p0_1 = p1_1)) else false) (Y1 p0_2 p1_2) false).bind fun x1 => some (bif (bif (decide (p0_0 = p1_0)) then (decide (p0_1 = p1_1)) else false) then x1 else false)
def G3 (p0_2 : J0) : Nat → Bool → Int → (List Bool) → Option (Bool × (List Bool))
 | 0, _, _, _ => none
 | fuel + 1, u10, u11, u12 => (if (decide (u11 < ((p0_2.length : Nat) : Int))) = true then (gi p0_2 u11).bind fun x16 => match x16 with | (x16_0, x16_1, x16_2) => (gi u12 x16_0).bind fun x17 => (gi u12 x16_2).bind fun x18 => (if (!(x17 == x18)) = true then (gi u12 x16_0).bind fun x20 => (gi (u12.set x16_0.toNat true) x16_2).bind fun x21 => (G3 p0_2 fuel true (IntKind.i64.wrap (u11 + 1)) ((u12.set x16_0.toNat true).set x16_2.toNat true)) else (G3 p0_2 fuel u10 (IntKind.i64.wrap (u11 + 1)) u12)) else some (u10, u12))
def B4 (p0_2 : J0) : Nat → Bool → (List Bool) → Option ((List Bool))
 | 0, _, _ => none
 | fuel + 1, u4, u5 => (if u4 = true then (G3 p0_2 I0 false 0 u5).bind (fun S25 => match S25 with | (y23, y24) => (B4 p0_2 fuel y23 y24)) else some (u5))
def W7 (p0 : l0) (p1 : Int) : Option ((List Bool)) := match p0 with | (p0_0, p0_1, p0_2) => (grd ((0 : Int) ≤ p0_1 ∧ p0_1 ≤ p0_1 ∧ p0_1 * 1 ≤ 140737488355328 ∧ p0_1 ≤ 9223372036854775807)).bind fun _ => (gi (List.replicate p0_1.toNat (false : Bool)) p1).bind fun x2 => (B4 p0_2 I0 true ((List.replicate p0_1.toNat (false : Bool)).set p1.toNat true)).bind (fun y32 => some y32)
def t6 (p0 : Int) : Nat → Int → (List Int) → Option ((List Int))
 | 0, _, _ => none
 | fuel + 1, u2, u3 => (if (decide (u2 ≤ p0)) = true then (grd ((u3.length + ([u2, (IntKind.i64.wrap (0 - u2))]).length) * 8 ≤ 140737488355328)).bind fun _ => (t6 p0 fuel (IntKind.i64.wrap (u2 + 1)) (u3 ++ [u2, (IntKind.i64.wrap (0 - u2))])) else some (u3))
def y8 (p0 : Int) : Option (D0) := (t6 p0 I0 1 ([] : D0)).bind (fun y13 => some y13)
def K9 (p0 : J0) : Option (J0) := (grd ((([] : J0).length + p0.length) * 24 ≤ 140737488355328)).bind fun _ => (grd ((([] : J0) ++ p0).length < 4611686018427387904)).bind fun _ => some (n01 eqE (A03 V0 (([] : J0) ++ p0)))
def w7 (p0_2 : J0) (u13 : (List Int)) : Nat → Int → Int → Int → (List F0) → Option (Int × Int × (List F0))
 | 0, _, _, _, _ => none
 | fuel + 1, u20, u21, u22, u23 => (if (decide (u20 < ((p0_2.length : Nat) : Int))) = true then (gi p0_2 u20).bind fun x27 => match x27 with | (x27_0, x27_1, x27_2) => (gi u13 x27_0).bind fun x28 => (chk (decide (x28 ≥ 0)) (gi u13 x27_2) 0).bind fun x29 => (if (bif (decide (x28 ≥ 0)) then (decide (x29 ≥ 0)) else false) = true then (gi u13 x27_0).bind fun x31 => (gi u13 x27_2).bind fun x36 => (grd ((u23.length + ([(x31, x27_1, x36)]).length) * 24 ≤ 140737488355328)).bind fun _ => (w7 p0_2 u13 fuel (IntKind.i64.wrap (u20 + 1)) u21 u22 (u23 ++ [(x31, x27_1, x36)])) else (w7 p0_2 u13 fuel (IntKind.i64.wrap (u20 + 1)) u21 u22 u23)) else some (u21, u22, u23))
def c8 (p1 : D0) : Nat → Int → (List Int) → Option ((List Int))
 | 0, _, _ => none
 | fuel + 1, u12, u13 => (if (decide (u12 < ((p1.length : Nat) : Int))) = true then (gi p1 u12).bind fun x17 => (gi u13 x17).bind fun x18 => (c8 p1 fuel (IntKind.i64.wrap (u12 + 1)) (u13.set x17.toNat u12)) else some (u13))
def d8 (m2 : Nat) : Nat → Int → (List Int) → Option ((List Int))
 | 0, _, _ => none
 | fuel + 1, u5, u6 => (if (decide (u5 < ((m2 : Nat) : Int))) = true then (gi u6 u5).bind fun x10 => (d8 m2 fuel (IntKind.i64.wrap (u5 + 1)) (u6.set u5.toNat (-1))) else some (u6))
def Z9 (p0 : l0) (p1 : D0) : Option (l0) := match p0 with | (p0_0, p0_1, p0_2) => (grd ((0 : Int) ≤ p0_1 ∧ p0_1 ≤ p0_1 ∧ p0_1 * 8 ≤ 140737488355328 ∧ p0_1 ≤ 9223372036854775807)).bind fun _ => (some (List.replicate p0_1.toNat (0 : Int)).length).bind fun m2 => (grd (m2 ≤ 9223372036854775807)).bind fun _ => (d8 m2 I0 0 (List.replicate p0_1.toNat (0 : Int))).bind (fun y114 => (c8 p1 I0 0 y114).bind (fun y169 => (w7 p0_2 y169 I0 0 p0_0 ((p1.length : Nat) : Int) ([] : J0)).bind (fun S213 => match S213 with | (y203, y204, y205) => (K9 y205).bind fun x210 => some (y203, y204, x210))))
end Go.Proofs.YtknoadmdnjaocaaGreat
namespace Go.Proofs.YtknoadmdnjaocaaGreat
open Go.H
set_option linter.unusedVariables false
set_option linter.unusedSimpArgs false
set_option maxRecDepth 10000
def z9 (p0 : D0) : Option (D0) := (grd ((([] : D0).length + p0.length) * 8 ≤ 140737488355328)).bind fun _ => some (([] : D0) ++ p0)
def F4 (x17 : D0) (p0_0 : Int) (p0_1 : Int) (p0_2 : J0) (x16 : Int) : Nat → Int → (List (Option D0)) → (List Int) → Option ((List (Option D0)) × (List Int))
 | 0, _, _, _ => none
 | fuel + 1, u21, u22, u23 => (if (decide (u21 < ((x17.length : Nat) : Int))) = true then (gi x17 u21).bind fun x27 => (P6 (p0_0, p0_1, p0_2) x16 x27).bind fun x28 => (grd (M0 x28)).bind fun _ => (chk (decide (x28 ≥ 0)) (gi u22 x28) (none : Option D0)).bind fun x30 => (if (bif (decide (x28 ≥ 0)) then x30.isNone else false) = true then (gi u22 x16).bind fun x32 => (z9 (x32.getD [])).bind fun x33 => (grd ((x33.length + [x27].length) * 8 ≤ 140737488355328)).bind fun _ => (gi u22 x28).bind fun x38 => (grd ((u23.length + [x28].length) * 8 ≤ 140737488355328)).bind fun _ => (F4 x17 p0_0 p0_1 p0_2 x16 fuel (IntKind.i64.wrap (u21 + 1)) (u22.set x28.toNat (some (x33 ++ [x27]))) (u23 ++ [x28])) else (F4 x17 p0_0 p0_1 p0_2 x16 fuel (IntKind.i64.wrap (u21 + 1)) u22 u23)) else some (u22, u23))
def K5 (p0_0 : Int) (p0_1 : Int) (p0_2 : J0) : Nat → Int → (List (Option D0)) → (List Int) → Option ((List (Option D0)) × (List Int))
 | 0, _, _, _ => none
 | fuel + 1, u8, u9, u10 => (some u10.length).bind fun m13 => (grd (m13 ≤ 9223372036854775807)).bind fun _ => (if (decide (u8 < ((m13 : Nat) : Int))) = true then (gi u10 u8).bind fun x16 => (y8 p0_0).bind fun x17 => (F4 x17 p0_0 p0_1 p0_2 x16 I0 0 u9 u10).bind (fun S43 => match S43 with | (y41, y42) => (K5 p0_0 p0_1 p0_2 fuel (IntKind.i64.wrap (u8 + 1)) y41 y42)) else some (u9, u10))
def Q9 (p0 : l0) (p1 : Int) : Option (D0 × Z2) := match p0 with | (p0_0, p0_1, p0_2) => (grd ((0 : Int) ≤ p0_1 ∧ p0_1 ≤ p0_1 ∧ p0_1 * 24 ≤ 140737488355328 ∧ p0_1 ≤ 9223372036854775807)).bind fun _ => (gi (List.replicate p0_1.toNat (none : Option D0)) p1).bind fun x2 => (K5 p0_0 p0_1 p0_2 I0 0 ((List.replicate p0_1.toNat (none : Option D0)).set p1.toNat (some ([] : D0))) [p1]).bind (fun S64 => match S64 with | (y54, y55) => some (y55, (List.map (fun o : Option D0 => o.getD ([] : D0)) y54)))
def j7 (p0 : l0) : Option (D0) := match p0 with | (p0_0, p0_1, p0_2) => (d6 (p0_0, p0_1, p0_2)).bind fun x1 => (if (!x1) = true then some ([] : D0) else (Q9 (p0_0, p0_1, p0_2) 0).bind fun x7 => match x7 with | (x7_0, x7_1) => some x7_0)
def W5 (p0 : l0) : Option (l0) := match p0 with | (p0_0, p0_1, p0_2) => (d6 (p0_0, p0_1, p0_2)).bind fun x1 => (if (!x1) = true then (W4 (p0_0, p0_1, p0_2)).bind fun x3 => match x3 with | (x3_0, x3_1, x3_2) => some (x3_0, x3_1, x3_2) else (j7 (p0_0, p0_1, p0_2)).bind fun x7 => (Z9 (p0_0, p0_1, p0_2) x7).bind fun x10 => match x10 with | (x10_0, x10_1, x10_2) => some (x10_0, x10_1, x10_2))
end Go.Proofs.YtknoadmdnjaocaaGreat
namespace Go.Proofs.YtknoadmdnjaocaaGreat
open Go.H
set_option linter.unusedVariables false
set_option linter.unusedSimpArgs false
set_option maxRecDepth 10000
def N4 (u25 : Int) (u33 : Int) : Nat → Int → (List Int) → Option ((List Int))
 | 0, _, _ => none
 | fuel + 1, u44, u45 => (if (decide (u44 < u25)) = true then (if (!decide (u44 = u33)) = true then (grd ((u45.length + [u44].length) * 8 ≤ 140737488355328)).bind fun _ => (N4 u25 u33 fuel (IntKind.i64.wrap (u44 + 1)) (u45 ++ [u44])) else (N4 u25 u33 fuel (IntKind.i64.wrap (u44 + 1)) u45)) else some (u45))
def E3 (u25 : Int) (u24 : Int) (u26 : J0) (x29 : (List Bool)) : Nat → Int → Int → Option (Int)
 | 0, _, _ => none
 | fuel + 1, u33, u34 => (if (bif (decide (u34 < u25)) then (decide (u33 = 0)) else false) = true then (y9 (u24, u25, u26) u34).bind fun x38 => (grd (M0 x38)).bind fun _ => (chk (!(decide (x38 < 2))) (gi x29 u34) false).bind fun x40 => (if (bif (decide (x38 < 2)) then true else (!x40)) = true then (E3 u25 u24 u26 x29 fuel u34 (IntKind.i64.wrap (u34 + 1))) else (E3 u25 u24 u26 x29 fuel u33 (IntKind.i64.wrap (u34 + 1)))) else some (u33))
def O4 : Nat → D0 → Int → Int → J0 → Option ((l0 × D0) ⊕ (Int × Int × J0))
 | 0, _, _, _, _ => none
 | fuel + 1, u23, u24, u25, u26 => (W7 (u24, u25, u26) 0).bind fun x29 => (E3 u25 u24 u26 x29 I0 0 1).bind (fun y86 => (if (decide (y86 = 0)) = true then some (.inl ((u24, u25, u26), u23)) else (N4 u25 y86 I0 0 ([] : D0)).bind (fun y112 => (Z9 (u24, u25, u26) y112).bind fun x117 => match x117 with | (x117_0, x117_1, x117_2) => (W04 u23 0 y86).bind fun x123 => (W04 u23 (IntKind.i64.wrap (y86 + 1)) (u23.length : Int)).bind fun x124 => (grd ((x123.length + x124.length) * 8 ≤ 140737488355328)).bind fun _ => (O4 fuel (x123 ++ x124) x117_0 x117_1 x117_2))))
def o5 (p0_1 : Int) : Nat → Int → (List Int) → Option ((List Int))
 | 0, _, _ => none
 | fuel + 1, u12, u13 => (if (decide (u12 < p0_1)) = true then (grd ((u13.length + [u12].length) * 8 ≤ 140737488355328)).bind fun _ => (o5 p0_1 fuel (IntKind.i64.wrap (u12 + 1)) (u13 ++ [u12])) else some (u13))
def w6 (p0 : l0) : Option (l0 × D0) := match p0 with | (p0_0, p0_1, p0_2) => (W4 (p0_0, p0_1, p0_2)).bind fun x1 => match x1 with | (x1_0, x1_1, x1_2) => (H7 (p0_0, p0_1, p0_2)).bind fun x5 => (if (!x5) = true then some ((x1_0, x1_1, x1_2), ([] : D0)) else (o5 p0_1 I0 0 ([] : D0)).bind (fun y134 => (O4 I0 y134 x1_0 x1_1 x1_2).bind fun X249 => Z7 X249 (fun _ => none)))
def L9 (p0 : l0) : Option (Bool) := match p0 with | (p0_0, p0_1, p0_2) => (d6 (p0_0, p0_1, p0_2)).bind fun x1 => (if (!x1) = true then some false else (w6 (p0_0, p0_1, p0_2)).bind fun x3 => match x3 with | (x3_0, x3_1) => match x3_0 with | (x3_0_0, x3_0_1, x3_0_2) => (chk (decide (x3_0_1 = p0_1)) (W5 (p0_0, p0_1, p0_2)) (0, 0, [])).bind fun x8 => match x8 with | (x8_0, x8_1, x8_2) => (chk (decide (x3_0_1 = p0_1)) (p7 (x8_0, x8_1, x8_2) (p0_0, p0_1, p0_2)) false).bind fun x11 => some (bif (decide (x3_0_1 = p0_1)) then x11 else false))
end Go.Proofs.YtknoadmdnjaocaaGreat
namespace Go.Proofs.YtknoadmdnjaocaaGreat
open Go.H
set_option linter.unusedVariables false
set_option linter.unusedSimpArgs false
set_option maxRecDepth 10000
def M3 (p0_2 : J0) (u2 : Int) : Nat → Int → (List A4) → Option ((List A4))
 | 0, _, _ => none
 | fuel + 1, u8, u9 => (if (decide (u8 < ((p0_2.length : Nat) : Int))) = true then (gi p0_2 u2).bind fun x13 => match x13 with | (x13_0, x13_1, x13_2) => (gi p0_2 u8).bind fun x14 => match x14 with | (x14_0, x14_1, x14_2) => (if (bif (decide (x13_1 = x14_1)) then (decide (x13_0 = x14_0)) else false) = true then (grd ((u9.length + ([((if x14_2 < x13_2 then x14_2 else x13_2), (if x14_2 > x13_2 then x14_2 else x13_2))]).length) * 16 ≤ 140737488355328)).bind fun _ => (if (bif (decide (x13_1 = x14_1)) then (decide (x13_2 = x14_2)) else false) = true then (grd (((u9 ++ [((if x14_2 < x13_2 then x14_2 else x13_2), (if x14_2 > x13_2 then x14_2 else x13_2))]).length + ([((if x14_0 < x13_0 then x14_0 else x13_0), (if x14_0 > x13_0 then x14_0 else x13_0))]).length) * 16 ≤ 140737488355328)).bind fun _ => (M3 p0_2 u2 fuel (IntKind.i64.wrap (u8 + 1)) ((u9 ++ [((if x14_2 < x13_2 then x14_2 else x13_2), (if x14_2 > x13_2 then x14_2 else x13_2))]) ++ [((if x14_0 < x13_0 then x14_0 else x13_0), (if x14_0 > x13_0 then x14_0 else x13_0))])) else (M3 p0_2 u2 fuel (IntKind.i64.wrap (u8 + 1)) (u9 ++ [((if x14_2 < x13_2 then x14_2 else x13_2), (if x14_2 > x13_2 then x14_2 else x13_2))]))) else (if (bif (decide (x13_1 = x14_1)) then (decide (x13_2 = x14_2)) else false) = true then (grd ((u9.length + ([((if x14_0 < x13_0 then x14_0 else x13_0), (if x14_0 > x13_0 then x14_0 else x13_0))]).length) * 16 ≤ 140737488355328)).bind fun _ => (M3 p0_2 u2 fuel (IntKind.i64.wrap (u8 + 1)) (u9 ++ [((if x14_0 < x13_0 then x14_0 else x13_0), (if x14_0 > x13_0 then x14_0 else x13_0))])) else (M3 p0_2 u2 fuel (IntKind.i64.wrap (u8 + 1)) u9))) else some (u9))
def A6 (p0_2 : J0) : Nat → Int → (List A4) → Option ((List A4))
 | 0, _, _ => none
 | fuel + 1, u2, u3 => (if (decide (u2 < ((p0_2.length : Nat) : Int))) = true then (M3 p0_2 u2 I0 (IntKind.i64.wrap (u2 + 1)) u3).bind (fun y22 => (A6 p0_2 fuel (IntKind.i64.wrap (u2 + 1)) y22)) else some (u3))
def b00 (p0 : l0) : Option (F7) := match p0 with | (p0_0, p0_1, p0_2) => (A6 p0_2 I0 0 ([] : F7)).bind (fun y30 => some y30)
def i8 (p0 : l0) : Option (A4 × Bool) := match p0 with | (p0_0, p0_1, p0_2) => (U4 (p0_0, p0_1, p0_2)).bind fun x1 => (if (!x1) = true then some ((0, 0), false) else (b00 (p0_0, p0_1, p0_2)).bind fun x3 => (if (decide (((x3.length : Nat) : Int) = 0)) = true then some ((0, 0), false) else (gi x3 0).bind fun x7 => match x7 with | (x7_0, x7_1) => some ((x7_0, x7_1), true)))
def o00 (p0 : Int) (p1 : A4) : Option (Int) := match p1 with | (p1_0, p1_1) => (if (decide (p0 = p1_1)) = true then (if (decide (p1_0 > p1_1)) = true then some (IntKind.i64.wrap (p1_0 - 1)) else some p1_0) else (if (decide (p0 > p1_1)) = true then some (IntKind.i64.wrap (p0 - 1)) else some p0))
def R3 (p0_2 : J0) (p1_0 : Int) (p1_1 : Int) : Nat → Int → Int → Int → J0 → Option (Int × Int × J0)
 | 0, _, _, _, _ => none
 | fuel + 1, u7, u8, u9, u10 => (if (decide (u7 < ((p0_2.length : Nat) : Int))) = true then (gi p0_2 u7).bind fun x14 => match x14 with | (x14_0, x14_1, x14_2) => (o00 x14_0 (p1_0, p1_1)).bind fun x15 => (grd (M0 x15)).bind fun q16 => (o00 x14_2 (p1_0, p1_1)).bind fun x19 => (grd (M0 x19)).bind fun q20 => (n00 u10 (x15, x14_1, x19)).bind fun x25 => (R3 p0_2 p1_0 p1_1 fuel (IntKind.i64.wrap (u7 + 1)) u8 u9 x25) else some (u8, u9, u10))
def B6 (p0 : l0) (p1 : A4) : Option (l0 × Bool) := match p0 with | (p0_0, p0_1, p0_2) => match p1 with | (p1_0, p1_1) => (U4 (p0_0, p0_1, p0_2)).bind fun x1 => (if (bif (bif (bif (!x1) then true else (decide (p1_0 < 0))) then true else (decide (p1_0 ≥ p1_1))) then true else (decide (p1_1 ≥ p0_1))) = true then (D5 (p0_0, p0_1, p0_2)).bind fun x3 => match x3 with | (x3_0, x3_1, x3_2) => some ((x3_0, x3_1, x3_2), false) else (R3 p0_2 p1_0 p1_1 I0 0 p0_0 (IntKind.i64.wrap (p0_1 - 1)) ([] : J0)).bind (fun S32 => match S32 with | (y29, y30, y31) => some ((y29, y30, y31), true)))
def A9 (p0 : l0) : Option (l0 × A4 × Bool) := match p0 with | (p0_0, p0_1, p0_2) => (i8 (p0_0, p0_1, p0_2)).bind fun x1 => match x1 with | (x1_0, x1_1) => match x1_0 with | (x1_0_0, x1_0_1) => (if (!x1_1) = true then (D5 (p0_0, p0_1, p0_2)).bind fun x5 => match x5 with | (x5_0, x5_1, x5_2) => some ((x5_0, x5_1, x5_2), (0, 0), false) else (B6 (p0_0, p0_1, p0_2) (x1_0_0, x1_0_1)).bind fun x8 => match x8 with | (x8_0, x8_1) => match x8_0 with | (x8_0_0, x8_0_1, x8_0_2) => some ((x8_0_0, x8_0_1, x8_0_2), (x1_0_0, x1_0_1), true))
def E5 : Nat → Int → Int → Int → J0 → (List A4) → Option ((l0 × F7) ⊕ (Int × Int × J0 × (List A4)))
 | 0, _, _, _, _, _ => none
 | fuel + 1, u5, u6, u7, u8, u9 => (if (decide (u5 < 40)) = true then (A9 (u6, u7, u8)).bind fun x13 => match x13 with | (x13_0, x13_1, x13_2) => match x13_0 with | (x13_0_0, x13_0_1, x13_0_2) => match x13_1 with | (x13_1_0, x13_1_1) => (if (!x13_2) = true then some (.inl ((u6, u7, u8), u9)) else (grd ((u9.length + ([(x13_1_0, x13_1_1)]).length) * 16 ≤ 140737488355328)).bind fun _ => (E5 fuel (IntKind.i64.wrap (u5 + 1)) x13_0_0 x13_0_1 x13_0_2 (u9 ++ [(x13_1_0, x13_1_1)]))) else some (.inr (u6, u7, u8, u9)))
def c00 (p0 : l0) : Option (l0 × F7) := match p0 with | (p0_0, p0_1, p0_2) => (D5 (p0_0, p0_1, p0_2)).bind fun x1 => match x1 with | (x1_0, x1_1, x1_2) => (E5 I0 0 x1_0 x1_1 x1_2 ([] : F7)).bind fun X36 => Z7 X36 (fun S35 => match S35 with | (y27, y28, y29, y30) => some ((y27, y28, y29), y30))
def O2 (x8 : D0) (p0_0 : Int) (p0_1 : Int) (p0_2 : J0) (u2 : Int) : Nat → Int → (List F0) → Option ((List F0))
 | 0, _, _ => none
 | fuel + 1, u12, u13 => (if (decide (u12 < ((x8.length : Nat) : Int))) = true then (gi x8 u12).bind fun x17 => (O6 (p0_0, p0_1, p0_2) u2 x17).bind fun x18 => (grd (M0 x18)).bind fun _ => (if (decide (x18 < 0)) = true then (gi x8 u12).bind fun x21 => (grd ((u13.length + ([(u2, x21, (-1))]).length) * 24 ≤ 140737488355328)).bind fun _ => (O2 x8 p0_0 p0_1 p0_2 u2 fuel (IntKind.i64.wrap (u12 + 1)) (u13 ++ [(u2, x21, (-1))])) else (O2 x8 p0_0 p0_1 p0_2 u2 fuel (IntKind.i64.wrap (u12 + 1)) u13)) else some (u13))
def C4 (p0_1 : Int) (p0_0 : Int) (p0_2 : J0) : Nat → Int → (List F0) → Option ((List F0))
 | 0, _, _ => none
 | fuel + 1, u2, u3 => (chk (decide (u2 < p0_1)) (Z6 (p0_0, p0_1, p0_2)) false).bind fun x6 => (if (bif (decide (u2 < p0_1)) then x6 else false) = true then (o7 p0_0).bind fun x8 => (O2 x8 p0_0 p0_1 p0_2 u2 I0 0 u3).bind (fun y24 => (C4 p0_1 p0_0 p0_2 fuel (IntKind.i64.wrap (u2 + 1)) y24)) else some (u3))
def U6 (p0 : l0) : Option (J0) := match p0 with | (p0_0, p0_1, p0_2) => (C4 p0_1 p0_0 p0_2 I0 0 ([] : J0)).bind (fun y32 => some y32)
end Go.Proofs.YtknoadmdnjaocaaGreat
namespace Go.Proofs.YtknoadmdnjaocaaGreat
open Go.H
set_option linter.unusedVariables false
set_option linter.unusedSimpArgs false
set_option maxRecDepth 10000
def F5 (p0 : Int) (p1 : A4) : Option (Int) := match p1 with | (p1_0, p1_1) => (if (decide (p0 = p1_1)) = true then some p1_0 else (if (decide (p0 > p1_1)) = true then some (IntKind.i64.wrap (p0 - 1)) else some p0))
def H4 (x8 : J0) (x7_1 : Int) (x7_0 : Int) (x7_2 : Int) : Nat → Int → (List A4) → Option ((List A4))
 | 0, _, _ => none
 | fuel + 1, u10, u11 => (if (decide (u10 < ((x8.length : Nat) : Int))) = true then (gi x8 u10).bind fun x15 => match x15 with | (x15_0, x15_1, x15_2) => (if (!decide (x7_1 = x15_1)) = true then (H4 x8 x7_1 x7_0 x7_2 fuel (IntKind.i64.wrap (u10 + 1)) u11) else (if (decide (x7_0 = x15_0)) = true then (grd ((u11.length + ([((if x15_2 < x7_2 then x15_2 else x7_2), (if x15_2 > x7_2 then x15_2 else x7_2))]).length) * 16 ≤ 140737488355328)).bind fun _ => (if (decide (x7_2 = x15_2)) = true then (grd (((u11 ++ [((if x15_2 < x7_2 then x15_2 else x7_2), (if x15_2 > x7_2 then x15_2 else x7_2))]).length + ([((if x15_0 < x7_0 then x15_0 else x7_0), (if x15_0 > x7_0 then x15_0 else x7_0))]).length) * 16 ≤ 140737488355328)).bind fun _ => (H4 x8 x7_1 x7_0 x7_2 fuel (IntKind.i64.wrap (u10 + 1)) ((u11 ++ [((if x15_2 < x7_2 then x15_2 else x7_2), (if x15_2 > x7_2 then x15_2 else x7_2))]) ++ [((if x15_0 < x7_0 then x15_0 else x7_0), (if x15_0 > x7_0 then x15_0 else x7_0))])) else (H4 x8 x7_1 x7_0 x7_2 fuel (IntKind.i64.wrap (u10 + 1)) (u11 ++ [((if x15_2 < x7_2 then x15_2 else x7_2), (if x15_2 > x7_2 then x15_2 else x7_2))]))) else (if (decide (x7_2 = x15_2)) = true then (grd ((u11.length + ([((if x15_0 < x7_0 then x15_0 else x7_0), (if x15_0 > x7_0 then x15_0 else x7_0))]).length) * 16 ≤ 140737488355328)).bind fun _ => (H4 x8 x7_1 x7_0 x7_2 fuel (IntKind.i64.wrap (u10 + 1)) (u11 ++ [((if x15_0 < x7_0 then x15_0 else x7_0), (if x15_0 > x7_0 then x15_0 else x7_0))])) else (H4 x8 x7_1 x7_0 x7_2 fuel (IntKind.i64.wrap (u10 + 1)) u11)))) else some (u11))
def K7 (p0_2 : J0) : Nat → Int → (List A4) → Option ((List A4))
 | 0, _, _ => none
 | fuel + 1, u2, u3 => (if (decide (u2 < ((p0_2.length : Nat) : Int))) = true then (gi p0_2 u2).bind fun x7 => match x7 with | (x7_0, x7_1, x7_2) => (W04 p0_2 (IntKind.i64.wrap (u2 + 1)) (p0_2.length : Int)).bind fun x8 => (H4 x8 x7_1 x7_0 x7_2 I0 0 u3).bind (fun y24 => (K7 p0_2 fuel (IntKind.i64.wrap (u2 + 1)) y24)) else some (u3))
def d01 (p0 : l0) : Option (F7) := match p0 with | (p0_0, p0_1, p0_2) => (K7 p0_2 I0 0 ([] : F7)).bind (fun y32 => some y32)
def j8 (p0 : l0) : Option (A4 × Bool) := match p0 with | (p0_0, p0_1, p0_2) => (H7 (p0_0, p0_1, p0_2)).bind fun x1 => (if (!x1) = true then some ((0, 0), false) else (d01 (p0_0, p0_1, p0_2)).bind fun x3 => (if (decide (((x3.length : Nat) : Int) = 0)) = true then some ((0, 0), false) else (gi x3 0).bind fun x7 => match x7 with | (x7_0, x7_1) => some ((x7_0, x7_1), true)))
def S3 (x1_2 : J0) (p1_0 : Int) (p1_1 : Int) : Nat → Int → J0 → Option (J0)
 | 0, _, _ => none
 | fuel + 1, u9, u10 => (if (decide (u9 < ((x1_2.length : Nat) : Int))) = true then (gi u10 u9).bind fun x15 => match x15 with | (x15_0, x15_1, x15_2) => (F5 x15_0 (p1_0, p1_1)).bind fun x16 => (grd (M0 x16)).bind fun q17 => (F5 x15_2 (p1_0, p1_1)).bind fun x20 => (grd (M0 x20)).bind fun q21 => (gi u10 u9).bind fun x26 => match x26 with | (x26_0, x26_1, x26_2) => (S3 x1_2 p1_0 p1_1 fuel (IntKind.i64.wrap (u9 + 1)) (u10.set u9.toNat (x16, x15_1, x20))) else some (u10))
def C6 (p0 : l0) (p1 : A4) : Option (l0 × Bool) := match p0 with | (p0_0, p0_1, p0_2) => match p1 with | (p1_0, p1_1) => (W4 (p0_0, p0_1, p0_2)).bind fun x1 => match x1 with | (x1_0, x1_1, x1_2) => (H7 (p0_0, p0_1, p0_2)).bind fun x5 => (if (bif (bif (bif (!x5) then true else (decide (p1_0 < 0))) then true else (decide (p1_0 ≥ p1_1))) then true else (decide (p1_1 ≥ p0_1))) = true then some ((x1_0, x1_1, x1_2), false) else (S3 x1_2 p1_0 p1_1 I0 0 x1_2).bind (fun y33 => (K9 y33).bind fun x34 => some ((x1_0, (IntKind.i64.wrap (x1_1 - 1)), x34), true)))
def B9 (p0 : l0) : Option (l0 × A4 × Bool) := match p0 with | (p0_0, p0_1, p0_2) => (j8 (p0_0, p0_1, p0_2)).bind fun x1 => match x1 with | (x1_0, x1_1) => match x1_0 with | (x1_0_0, x1_0_1) => (if (!x1_1) = true then (W4 (p0_0, p0_1, p0_2)).bind fun x5 => match x5 with | (x5_0, x5_1, x5_2) => some ((x5_0, x5_1, x5_2), (0, 0), false) else (C6 (p0_0, p0_1, p0_2) (x1_0_0, x1_0_1)).bind fun x9 => match x9 with | (x9_0, x9_1) => match x9_0 with | (x9_0_0, x9_0_1, x9_0_2) => some ((x9_0_0, x9_0_1, x9_0_2), (x1_0_0, x1_0_1), true))
def D6 : Nat → Int → Int → J0 → (List A4) → Option ((l0 × F7) ⊕ (Int × Int × J0 × (List A4)))
 | 0, _, _, _, _ => none
 | fuel + 1, u6, u7, u8, u9 => (B9 (u6, u7, u8)).bind fun x12 => match x12 with | (x12_0, x12_1, x12_2) => match x12_0 with | (x12_0_0, x12_0_1, x12_0_2) => match x12_1 with | (x12_1_0, x12_1_1) => (if (!x12_2) = true then some (.inl ((u6, u7, u8), u9)) else (grd ((u9.length + ([(x12_1_0, x12_1_1)]).length) * 16 ≤ 140737488355328)).bind fun _ => (D6 fuel x12_0_0 x12_0_1 x12_0_2 (u9 ++ [(x12_1_0, x12_1_1)])))
def d00 (p0 : l0) : Option (l0 × F7) := match p0 with | (p0_0, p0_1, p0_2) => (W4 (p0_0, p0_1, p0_2)).bind fun x1 => match x1 with | (x1_0, x1_1, x1_2) => (D6 I0 x1_0 x1_1 x1_2 ([] : F7)).bind fun X22 => Z7 X22 (fun _ => none)
def P2 (x13 : D0) (p0_0 : Int) (p0_1 : Int) (p0_2 : J0) (u8 : Int) : Nat → Int → (List F0) → Option ((List F0))
 | 0, _, _ => none
 | fuel + 1, u17, u18 => (if (decide (u17 < ((x13.length : Nat) : Int))) = true then (gi x13 u17).bind fun x22 => (P6 (p0_0, p0_1, p0_2) u8 x22).bind fun x23 => (grd (M0 x23)).bind fun _ => (if (decide (x23 < 0)) = true then (grd ((u18.length + ([(u8, x22, (-1))]).length) * 24 ≤ 140737488355328)).bind fun _ => (P2 x13 p0_0 p0_1 p0_2 u8 fuel (IntKind.i64.wrap (u17 + 1)) (u18 ++ [(u8, x22, (-1))])) else (P2 x13 p0_0 p0_1 p0_2 u8 fuel (IntKind.i64.wrap (u17 + 1)) u18)) else some (u18))
def D4 (p0_1 : Int) (p0_0 : Int) (p0_2 : J0) : Nat → Int → (List F0) → Option ((List F0))
 | 0, _, _ => none
 | fuel + 1, u8, u9 => (if (decide (u8 < p0_1)) = true then (y8 p0_0).bind fun x13 => (P2 x13 p0_0 p0_1 p0_2 u8 I0 0 u9).bind (fun y28 => (D4 p0_1 p0_0 p0_2 fuel (IntKind.i64.wrap (u8 + 1)) y28)) else some (u9))
def V6 (p0 : l0) : Option (J0) := match p0 with | (p0_0, p0_1, p0_2) => (d6 (p0_0, p0_1, p0_2)).bind fun x1 => (if (!x1) = true then some ([] : J0) else (D4 p0_1 p0_0 p0_2 I0 0 ([] : J0)).bind (fun y36 => some y36))
end Go.Proofs.YtknoadmdnjaocaaGreat
namespace Go.Proofs.YtknoadmdnjaocaaGreat
open Go.H
set_option linter.unusedVariables false
set_option linter.unusedSimpArgs false
set_option maxRecDepth 10000
def P4 (u20 : Int) (x26 : Int) (u17 : D0) : Nat → Int → (List Int) → (List Int) → Option ((List Int) × (List Int))
 | 0, _, _, _ => none
 | fuel + 1, u30, u31, u32 => (if (decide (u30 < u20)) = true then (if (!decide (u30 = x26)) = true then (grd ((u31.length + [u30].length) * 8 ≤ 140737488355328)).bind fun _ => (gi u17 u30).bind fun x38 => (grd ((u32.length + [x38].length) * 8 ≤ 140737488355328)).bind fun _ => (P4 u20 x26 u17 fuel (IntKind.i64.wrap (u30 + 1)) (u31 ++ [u30]) (u32 ++ [x38])) else (P4 u20 x26 u17 fuel (IntKind.i64.wrap (u30 + 1)) u31 u32)) else some (u31, u32))
def p5 (p0_0 : Int) (p0_1 : Int) (p0_2 : J0) : Nat → D0 → Int → Int → Int → J0 → Option ((l0 × D0) ⊕ (D0 × Int × Int × J0))
 | 0, _, _, _, _, _ => none
 | fuel + 1, u17, u18, u19, u20, u21 => (chk (decide (u18 < 40)) (U4 (p0_0, p0_1, p0_2)) false).bind fun x24 => (if (bif (decide (u18 < 40)) then x24 else false) = true then (I9 (u19, u20, u21)).bind fun x26 => (grd (M0 x26)).bind fun _ => (if (decide (x26 < 0)) = true then some (.inl ((u19, u20, u21), u17)) else (P4 u20 x26 u17 I0 0 ([] : D0) ([] : D0)).bind (fun S65 => match S65 with | (y52, y53) => (l5 (u19, u20, u21) y52).bind fun x58 => match x58 with | (x58_0, x58_1) => match x58_0 with | (x58_0_0, x58_0_1, x58_0_2) => (p5 p0_0 p0_1 p0_2 fuel y53 (IntKind.i64.wrap (u18 + 1)) x58_0_0 x58_0_1 x58_0_2))) else some (.inr (u17, u19, u20, u21)))
def s5 (p0_1 : Int) (p0_0 : Int) (p0_2 : J0) : Nat → Int → (List Int) → Option ((List Int))
 | 0, _, _ => none
 | fuel + 1, u5, u6 => (chk (decide (u5 < p0_1)) (U4 (p0_0, p0_1, p0_2)) false).bind fun x9 => (if (bif (decide (u5 < p0_1)) then x9 else false) = true then (grd ((u6.length + [u5].length) * 8 ≤ 140737488355328)).bind fun _ => (s5 p0_1 p0_0 p0_2 fuel (IntKind.i64.wrap (u5 + 1)) (u6 ++ [u5])) else some (u6))
def c9 (p0 : l0) : Option (l0 × D0) := match p0 with | (p0_0, p0_1, p0_2) => (D5 (p0_0, p0_1, p0_2)).bind fun x1 => match x1 with | (x1_0, x1_1, x1_2) => (s5 p0_1 p0_0 p0_2 I0 0 ([] : D0)).bind (fun y75 => (p5 p0_0 p0_1 p0_2 I0 y75 0 x1_0 x1_1 x1_2).bind fun X137 => Z7 X137 (fun S136 => match S136 with | (y132, y133, y134, y135) => some ((y133, y134, y135), y132)))
def d9 (p0 : l0) : Option (l0) := match p0 with | (p0_0, p0_1, p0_2) => (c00 (p0_0, p0_1, p0_2)).bind fun x1 => match x1 with | (x1_0, x1_1) => match x1_0 with | (x1_0_0, x1_0_1, x1_0_2) => (c9 (x1_0_0, x1_0_1, x1_0_2)).bind fun x4 => match x4 with | (x4_0, x4_1) => match x4_0 with | (x4_0_0, x4_0_1, x4_0_2) => (V5 (x4_0_0, x4_0_1, x4_0_2)).bind fun x7 => match x7 with | (x7_0, x7_1, x7_2) => some (x7_0, x7_1, x7_2)
end Go.Proofs.YtknoadmdnjaocaaGreat
namespace Go.Proofs.YtknoadmdnjaocaaGreat
open Go.H
set_option linter.unusedVariables false
set_option linter.unusedSimpArgs false
set_option maxRecDepth 10000
def g9 (p0 : l0) : Option (l0) := match p0 with | (p0_0, p0_1, p0_2) => (d00 (p0_0, p0_1, p0_2)).bind fun x1 => match x1 with | (x1_0, x1_1) => match x1_0 with | (x1_0_0, x1_0_1, x1_0_2) => (w6 (x1_0_0, x1_0_1, x1_0_2)).bind fun x5 => match x5 with | (x5_0, x5_1) => match x5_0 with | (x5_0_0, x5_0_1, x5_0_2) => (W5 (x5_0_0, x5_0_1, x5_0_2)).bind fun x9 => match x9 with | (x9_0, x9_1, x9_2) => some (x9_0, x9_1, x9_2)
end Go.Proofs.YtknoadmdnjaocaaGreat
namespace Go.Proofs.YtknoadmdnjaocaaGreat
open Go.H
set_option linter.unusedVariables false
set_option linter.unusedSimpArgs false
set_option maxRecDepth 10000
def E6 (p0 : l0) : Option (Bool) := match p0 with | (p0_0, p0_1, p0_2) => (P9 (p0_0, p0_1, p0_2)).bind fun x1 => (chk x1 (U6 (p0_0, p0_1, p0_2)) []).bind fun x4 => (grd (x4.length ≤ 9223372036854775807)).bind fun q7 => some (bif x1 then (decide (((x4.length : Nat) : Int) = 0)) else false)
def T3 (p0_1 : Int) (p1 : Int) : Nat → Int → (List Int) → Option ((List Int))
 | 0, _, _ => none
 | fuel + 1, u8, u9 => (if (decide (u8 < p0_1)) = true then (if (!decide (u8 = p1)) = true then (grd ((u9.length + [u8].length) * 8 ≤ 140737488355328)).bind fun _ => (T3 p0_1 p1 fuel (IntKind.i64.wrap (u8 + 1)) (u9 ++ [u8])) else (T3 p0_1 p1 fuel (IntKind.i64.wrap (u8 + 1)) u9)) else some (u9))
def C9 (p0 : l0) (p1 : Int) : Option (l0 × Bool) := match p0 with | (p0_0, p0_1, p0_2) => (Z6 (p0_0, p0_1, p0_2)).bind fun x1 => (chk (!(!x1)) (l6 p1 0 (IntKind.i64.wrap (p0_1 - 1))) false).bind fun x2 => (if (bif (!x1) then true else (!x2)) = true then (D5 (p0_0, p0_1, p0_2)).bind fun x4 => match x4 with | (x4_0, x4_1, x4_2) => some ((x4_0, x4_1, x4_2), false) else (T3 p0_1 p1 I0 0 [p1]).bind (fun y26 => (l5 (p0_0, p0_1, p0_2) y26).bind fun x31 => match x31 with | (x31_0, x31_1) => match x31_0 with | (x31_0_0, x31_0_1, x31_0_2) => (d9 (x31_0_0, x31_0_1, x31_0_2)).bind fun x34 => match x34 with | (x34_0, x34_1, x34_2) => some ((x34_0, x34_1, x34_2), true)))
end Go.Proofs.YtknoadmdnjaocaaGreat
namespace Go.Proofs.YtknoadmdnjaocaaGreat
open Go.H
set_option linter.unusedVariables false
set_option linter.unusedSimpArgs false
set_option maxRecDepth 10000
def M4 (p0 : l0) : Option (Bool) := match p0 with | (p0_0, p0_1, p0_2) => (L9 (p0_0, p0_1, p0_2)).bind fun x1 => (chk x1 (V6 (p0_0, p0_1, p0_2)) []).bind fun x4 => (grd (x4.length ≤ 9223372036854775807)).bind fun q7 => some (bif x1 then (decide (((x4.length : Nat) : Int) = 0)) else false)
def P5 (p0_1 : Int) (p1 : Int) : Nat → Int → (List Int) → Option ((List Int))
 | 0, _, _ => none
 | fuel + 1, u9, u10 => (if (decide (u9 < p0_1)) = true then (if (!decide (u9 = p1)) = true then (grd ((u10.length + [u9].length) * 8 ≤ 140737488355328)).bind fun _ => (P5 p0_1 p1 fuel (IntKind.i64.wrap (u9 + 1)) (u10 ++ [u9])) else (P5 p0_1 p1 fuel (IntKind.i64.wrap (u9 + 1)) u10)) else some (u10))
def D9 (p0 : l0) (p1 : Int) : Option (l0 × Bool) := match p0 with | (p0_0, p0_1, p0_2) => (d6 (p0_0, p0_1, p0_2)).bind fun x1 => (chk (!(!x1)) (p6 (p0_0, p0_1, p0_2) p1) false).bind fun x2 => (if (bif (!x1) then true else (!x2)) = true then (W4 (p0_0, p0_1, p0_2)).bind fun x4 => match x4 with | (x4_0, x4_1, x4_2) => some ((x4_0, x4_1, x4_2), false) else (P5 p0_1 p1 I0 0 [p1]).bind (fun y29 => (Z9 (p0_0, p0_1, p0_2) y29).bind fun x34 => match x34 with | (x34_0, x34_1, x34_2) => (g9 (x34_0, x34_1, x34_2)).bind fun x38 => match x38 with | (x38_0, x38_1, x38_2) => some ((x38_0, x38_1, x38_2), true)))
end Go.Proofs.YtknoadmdnjaocaaGreat
namespace Go.Proofs.YtknoadmdnjaocaaGreat
open Go.H
set_option linter.unusedVariables false
set_option linter.unusedSimpArgs false
set_option maxRecDepth 10000
def K3 (p0 : D0) (p1 : D0) : Nat → Int → Option ((Bool) ⊕ (Unit))
 | 0, _ => none
 | fuel + 1, u3 => (if (decide (u3 < ((p0.length : Nat) : Int))) = true then (gi p0 u3).bind fun x7 => (gi p1 u3).bind fun x8 => (if (!decide (x7 = x8)) = true then some (.inl false) else (K3 p0 p1 fuel (IntKind.i64.wrap (u3 + 1)))) else some (.inr ()))
def Q7 (p0 : D0) (p1 : D0) : Option (Bool) := (if (!decide (((p0.length : Nat) : Int) = ((p1.length : Nat) : Int))) = true then some false else (K3 p0 p1 I0 0).bind fun X12 => Z7 X12 (fun _ => some true))
def L5 (p0 : D0) (p1 : D0) : Nat → Int → Option ((Bool) ⊕ (Unit))
 | 0, _ => none
 | fuel + 1, u3 => (if (decide (u3 < ((p0.length : Nat) : Int))) = true then (gi p0 u3).bind fun x7 => (gi p1 u3).bind fun x8 => (if (!decide (x7 = x8)) = true then some (.inl false) else (L5 p0 p1 fuel (IntKind.i64.wrap (u3 + 1)))) else some (.inr ()))
def J8 (p0 : D0) (p1 : D0) : Option (Bool) := (if (!decide (((p0.length : Nat) : Int) = ((p1.length : Nat) : Int))) = true then some false else (L5 p0 p1 I0 0).bind fun X12 => Z7 X12 (fun _ => some true))
end Go.Proofs.YtknoadmdnjaocaaGreat
namespace Go.Proofs.YtknoadmdnjaocaaGreat
open Go.H
set_option linter.unusedVariables false
set_option linter.unusedSimpArgs false
set_option maxRecDepth 10000
def f4 : Nat → Int → ByteArray → Option (ByteArray)
 | 0, _, _ => none
 | fuel + 1, u3, u4 => (if (!decide (u3 = 0)) = true then (grd (10 ≠ 0)).bind fun _ => (if (decide ((Int.tmod u3 10) < 0)) = true then (grd ([(IntKind.u8.wrap (IntKind.i64.wrap (48 + (IntKind.i64.wrap (0 - (Int.tmod u3 10))))))].length ≤ 9223372036854775807)).bind fun _ => (grd ((strOfNums [(IntKind.u8.wrap (IntKind.i64.wrap (48 + (IntKind.i64.wrap (0 - (Int.tmod u3 10))))))]).size + u4.size ≤ 9223372036854775807)).bind fun _ => (grd (10 ≠ 0)).bind fun _ => (f4 fuel (IntKind.i64.wrap (Int.tdiv u3 10)) ((strOfNums [(IntKind.u8.wrap (IntKind.i64.wrap (48 + (IntKind.i64.wrap (0 - (Int.tmod u3 10))))))]) ++ u4)) else (grd ([(IntKind.u8.wrap (IntKind.i64.wrap (48 + (Int.tmod u3 10))))].length ≤ 9223372036854775807)).bind fun _ => (grd ((strOfNums [(IntKind.u8.wrap (IntKind.i64.wrap (48 + (Int.tmod u3 10))))]).size + u4.size ≤ 9223372036854775807)).bind fun _ => (grd (10 ≠ 0)).bind fun _ => (f4 fuel (IntKind.i64.wrap (Int.tdiv u3 10)) ((strOfNums [(IntKind.u8.wrap (IntKind.i64.wrap (48 + (Int.tmod u3 10))))]) ++ u4))) else some (u4))
def H5 (p0 : Int) : Option (ByteArray) := (if (decide (p0 = 0)) = true then some (⟨#[48]⟩ : ByteArray) else (f4 I0 p0 (⟨#[]⟩ : ByteArray)).bind (fun y19 => (if (decide (p0 < 0)) = true then (grd ((⟨#[45]⟩ : ByteArray).size + y19.size ≤ 9223372036854775807)).bind fun _ => some ((⟨#[45]⟩ : ByteArray) ++ y19) else some y19)))
def E01 (p0 : Int) : Option (ByteArray) := (if (decide (p0 < 0)) = true then (gi [(⟨#[65]⟩ : ByteArray), (⟨#[66]⟩ : ByteArray), (⟨#[67]⟩ : ByteArray)] (IntKind.i64.wrap ((IntKind.i64.wrap (0 - p0)) - 1))).bind fun x2 => some x2 else (gi [(⟨#[97]⟩ : ByteArray), (⟨#[98]⟩ : ByteArray), (⟨#[99]⟩ : ByteArray)] (IntKind.i64.wrap (p0 - 1))).bind fun x3 => some x3)
def U2 : Nat → Int → Int → (List Int) → Option ((List Int))
 | 0, _, _, _ => none
 | fuel + 1, u19, u20, u21 => (if (decide (u19 < u20)) = true then (gi u21 u20).bind fun x25 => (gi u21 u19).bind fun x30 => (gi u21 u19).bind fun x35 => (gi (u21.set u19.toNat x25) u20).bind fun x36 => (U2 fuel (IntKind.i64.wrap (u19 + 1)) (IntKind.i64.wrap (u20 - 1)) ((u21.set u19.toNat x25).set u20.toNat x30)) else some (u21))
def i4 : Nat → Int → (List Int) → Option ((List Int))
 | 0, _, _ => none
 | fuel + 1, u3, u4 => (if (!decide (u3 = 0)) = true then (grd (10 ≠ 0)).bind fun _ => (if (decide ((Int.tmod u3 10) < 0)) = true then (grd ((u4.length + ([(IntKind.u8.wrap (IntKind.i64.wrap (48 + (IntKind.i64.wrap (0 - (Int.tmod u3 10))))))]).length) * 1 ≤ 140737488355328)).bind fun _ => (grd (10 ≠ 0)).bind fun _ => (i4 fuel (IntKind.i64.wrap (Int.tdiv u3 10)) (u4 ++ [(IntKind.u8.wrap (IntKind.i64.wrap (48 + (IntKind.i64.wrap (0 - (Int.tmod u3 10))))))])) else (grd ((u4.length + ([(IntKind.u8.wrap (IntKind.i64.wrap (48 + (Int.tmod u3 10))))]).length) * 1 ≤ 140737488355328)).bind fun _ => (grd (10 ≠ 0)).bind fun _ => (i4 fuel (IntKind.i64.wrap (Int.tdiv u3 10)) (u4 ++ [(IntKind.u8.wrap (IntKind.i64.wrap (48 + (Int.tmod u3 10))))]))) else some (u4))
def F6 (p0 : Int) : Option (ByteArray) := (if (decide (p0 = 0)) = true then some (⟨#[48]⟩ : ByteArray) else (i4 I0 p0 ([] : (List Int))).bind (fun y71 => (if (decide (p0 < 0)) = true then (grd ((y71.length + [45].length) * 1 ≤ 140737488355328)).bind fun _ => (some (y71 ++ [45]).length).bind fun m74 => (grd (m74 ≤ 9223372036854775807)).bind fun _ => (U2 I0 0 (IntKind.i64.wrap (((m74 : Nat) : Int) - 1)) (y71 ++ [45])).bind (fun y97 => (grd (y97.length ≤ 9223372036854775807)).bind fun _ => some (strOfNums y97)) else (some y71.length).bind fun m101 => (grd (m101 ≤ 9223372036854775807)).bind fun _ => (U2 I0 0 (IntKind.i64.wrap (((m101 : Nat) : Int) - 1)) y71).bind (fun y124 => (grd (y124.length ≤ 9223372036854775807)).bind fun _ => some (strOfNums y124)))))
def K8 (p0 : Int) : Option (ByteArray) := (M6 p0 1 3).bind fun x1 => (if x1 = true then (grd ((0 : Int) ≤ (IntKind.i64.wrap (p0 - 1)) ∧ (IntKind.i64.wrap (p0 - 1)) ≤ p0 ∧ p0 ≤ ((⟨#[97, 98, 99]⟩ : ByteArray).size : Int))).bind fun _ => some ((⟨#[97, 98, 99]⟩ : ByteArray).extract ((IntKind.i64.wrap (p0 - 1)) : Int).toNat (p0 : Int).toNat) else (M6 p0 (-3) (-1)).bind fun x4 => (if x4 = true then (grd ((0 : Int) ≤ (IntKind.i64.wrap ((IntKind.i64.wrap (0 - p0)) - 1)) ∧ (IntKind.i64.wrap ((IntKind.i64.wrap (0 - p0)) - 1)) ≤ (IntKind.i64.wrap (0 - p0)) ∧ (IntKind.i64.wrap (0 - p0)) ≤ ((⟨#[65, 66, 67]⟩ : ByteArray).size : Int))).bind fun _ => some ((⟨#[65, 66, 67]⟩ : ByteArray).extract ((IntKind.i64.wrap ((IntKind.i64.wrap (0 - p0)) - 1)) : Int).toNat ((IntKind.i64.wrap (0 - p0)) : Int).toNat) else some (⟨#[]⟩ : ByteArray)))
def L7 (x3 : (List ByteArray)) (p1 : ByteArray) : Nat → ByteArray → Int → Option (ByteArray)
 | 0, _, _ => none
 | fuel + 1, u5, u6 => (if (decide (u6 < ((x3.length : Nat) : Int))) = true then (gi x3 u6).bind fun x10 => (grd (u5.size + p1.size ≤ 9223372036854775807)).bind fun _ => (grd ((u5 ++ p1).size + x10.size ≤ 9223372036854775807)).bind fun _ => (L7 x3 p1 fuel ((u5 ++ p1) ++ x10) (IntKind.i64.wrap (u6 + 1))) else some (u5))
def p00 (p0 : (List ByteArray)) (p1 : ByteArray) (p2 : ByteArray) : Option (ByteArray) := (if (decide (((p0.length : Nat) : Int) = 0)) = true then some p2 else (gi p0 0).bind fun x2 => (W04 p0 1 (p0.length : Int)).bind fun x3 => (L7 x3 p1 I0 x2 0).bind (fun y14 => some y14))
end Go.Proofs.YtknoadmdnjaocaaGreat
namespace Go.Proofs.YtknoadmdnjaocaaGreat
open Go.H
set_option linter.unusedVariables false
set_option linter.unusedSimpArgs false
set_option maxRecDepth 10000
def Z1 (p0 : D0) : Nat → ByteArray → Int → Option (ByteArray)
 | 0, _, _ => none
 | fuel + 1, u2, u3 => (if (decide (u3 < ((p0.length : Nat) : Int))) = true then (if (decide (u3 > 0)) = true then (grd (u2.size + (⟨#[32]⟩ : ByteArray).size ≤ 9223372036854775807)).bind fun _ => (gi p0 u3).bind fun x9 => (H5 x9).bind fun x10 => (grd (x10.size ≤ 9223372036854775807)).bind fun _ => (grd ((u2 ++ (⟨#[32]⟩ : ByteArray)).size + x10.size ≤ 9223372036854775807)).bind fun _ => (Z1 p0 fuel ((u2 ++ (⟨#[32]⟩ : ByteArray)) ++ x10) (IntKind.i64.wrap (u3 + 1))) else (gi p0 u3).bind fun x13 => (H5 x13).bind fun x14 => (grd (x14.size ≤ 9223372036854775807)).bind fun _ => (grd (u2.size + x14.size ≤ 9223372036854775807)).bind fun _ => (Z1 p0 fuel (u2 ++ x14) (IntKind.i64.wrap (u3 + 1)))) else some (u2))
def M7 (p0 : D0) : Option (ByteArray) := (Z1 p0 I0 (⟨#[]⟩ : ByteArray) 0).bind (fun y19 => (if (k0g y19 (⟨#[]⟩ : ByteArray)) = true then some (⟨#[110, 111, 110, 101]⟩ : ByteArray) else some y19))
def U3 (p0 : D0) : Nat → Int → (List ByteArray) → Option ((List ByteArray))
 | 0, _, _ => none
 | fuel + 1, u2, u3 => (if (decide (u2 < ((p0.length : Nat) : Int))) = true then (gi p0 u2).bind fun x7 => (F6 x7).bind fun x8 => (grd (x8.size ≤ 9223372036854775807)).bind fun _ => (grd ((u3.length + [x8].length) * 16 ≤ 140737488355328)).bind fun _ => (U3 p0 fuel (IntKind.i64.wrap (u2 + 1)) (u3 ++ [x8])) else some (u3))
def N7 (p0 : D0) : Option (ByteArray) := (U3 p0 I0 0 ([] : (List ByteArray))).bind (fun y18 => (p00 y18 (⟨#[32]⟩ : ByteArray) (⟨#[110, 111, 110, 101]⟩ : ByteArray)).bind fun x23 => (grd (x23.size ≤ 9223372036854775807)).bind fun _ => some x23)
end Go.Proofs.YtknoadmdnjaocaaGreat
namespace Go.Proofs.YtknoadmdnjaocaaGreat
open Go.H
set_option linter.unusedVariables false
set_option linter.unusedSimpArgs false
set_option maxRecDepth 10000
def Q5 (p0_1 : Int) (p0_0 : Int) (p0_2 : J0) (u2 : Int) : Nat → Int → (List Int) → Option ((List Int))
 | 0, _, _ => none
 | fuel + 1, u9, u10 => (if (decide (u9 < p0_1)) = true then (O6 (p0_0, p0_1, p0_2) u9 u2).bind fun x14 => (grd (M0 x14)).bind fun _ => (grd ((u10.length + [x14].length) * 8 ≤ 140737488355328)).bind fun _ => (Q5 p0_1 p0_0 p0_2 u2 fuel (IntKind.i64.wrap (u9 + 1)) (u10 ++ [x14])) else some (u10))
def i5 (p0_0 : Int) (p0_1 : Int) (p0_2 : J0) : Nat → Int → (List D0) → Option ((List D0))
 | 0, _, _ => none
 | fuel + 1, u2, u3 => (chk (decide (u2 ≤ p0_0)) (E6 (p0_0, p0_1, p0_2)) false).bind fun x6 => (if (bif (decide (u2 ≤ p0_0)) then x6 else false) = true then (Q5 p0_1 p0_0 p0_2 u2 I0 0 ([] : D0)).bind (fun y23 => (grd ((u3.length + [y23].length) * 24 ≤ 140737488355328)).bind fun _ => (i5 p0_0 p0_1 p0_2 fuel (IntKind.i64.wrap (u2 + 1)) (u3 ++ [y23]))) else some (u3))
def T7 (p0 : l0) : Option (Z2) := match p0 with | (p0_0, p0_1, p0_2) => (i5 p0_0 p0_1 p0_2 I0 1 ([] : Z2)).bind (fun y36 => some y36)
def N1 (p0 : Int) : Nat → Int → (List Int) → Option ((List Int))
 | 0, _, _ => none
 | fuel + 1, u2, u3 => (if (bif (decide (u2 < p0)) then (decide (u2 < 40)) else false) = true then (grd ((u3.length + [u2].length) * 8 ≤ 140737488355328)).bind fun _ => (N1 p0 fuel (IntKind.i64.wrap (u2 + 1)) (u3 ++ [u2])) else some (u3))
def I4 (p0 : Int) : Option (D0) := (N1 p0 I0 0 ([] : D0)).bind (fun y13 => some y13)
def V3 (u2 : Int) (p0 : D0) : Nat → Int → Option ((Bool) ⊕ (Unit))
 | 0, _ => none
 | fuel + 1, u10 => (if (decide (u10 < u2)) = true then (gi p0 u10).bind fun x14 => (gi p0 u2).bind fun x15 => (if (decide (x14 = x15)) = true then some (.inl false) else (V3 u2 p0 fuel (IntKind.i64.wrap (u10 + 1)))) else some (.inr ()))
def W3 (p0 : D0) : Nat → Int → Option ((Bool) ⊕ (Unit))
 | 0, _ => none
 | fuel + 1, u2 => (if (decide (u2 < ((p0.length : Nat) : Int))) = true then (gi p0 u2).bind fun x6 => (l6 x6 0 (IntKind.i64.wrap (((p0.length : Nat) : Int) - 1))).bind fun x7 => (if (!x7) = true then some (.inl false) else (V3 u2 p0 I0 0).bind fun X19 => q0d X19 (fun _ => (W3 p0 fuel (IntKind.i64.wrap (u2 + 1))))) else some (.inr ()))
def G6 (p0 : D0) : Option (Bool) := (W3 p0 I0 0).bind fun X22 => Z7 X22 (fun _ => some (decide (((p0.length : Nat) : Int) ≤ 40)))
def G1 (p0 : D0) (p1 : D0) : Nat → Int → (List Int) → Option ((List Int))
 | 0, _, _ => none
 | fuel + 1, u2, u3 => (chk (bif (decide (u2 < ((p0.length : Nat) : Int))) then (decide (((p0.length : Nat) : Int) = ((p1.length : Nat) : Int))) else false) (G6 p0) false).bind fun x6 => (chk (bif (bif (decide (u2 < ((p0.length : Nat) : Int))) then (decide (((p0.length : Nat) : Int) = ((p1.length : Nat) : Int))) else false) then x6 else false) (G6 p1) false).bind fun x7 => (if (bif (bif (bif (decide (u2 < ((p0.length : Nat) : Int))) then (decide (((p0.length : Nat) : Int) = ((p1.length : Nat) : Int))) else false) then x6 else false) then x7 else false) = true then (gi p0 u2).bind fun x9 => (gi p1 x9).bind fun x10 => (grd ((u3.length + [x10].length) * 8 ≤ 140737488355328)).bind fun _ => (G1 p0 p1 fuel (IntKind.i64.wrap (u2 + 1)) (u3 ++ [x10])) else some (u3))
def w5 (p0 : D0) (p1 : D0) : Option (D0) := (G1 p0 p1 I0 0 ([] : D0)).bind (fun y17 => some y17)
def Y3 (u22 : (List D0)) (x36 : D0) : Nat → Bool → Int → Option (Bool)
 | 0, _, _ => none
 | fuel + 1, u47, u48 => (some u22.length).bind fun m51 => (grd (m51 ≤ 9223372036854775807)).bind fun _ => (if (decide (u48 < ((m51 : Nat) : Int))) = true then (chk (!u47) (gi u22 u48) []).bind fun x54 => (chk (!u47) (Q7 x54 x36) false).bind fun x55 => (Y3 u22 x36 fuel (bif u47 then true else x55) (IntKind.i64.wrap (u48 + 1))) else some (u47))
def n3 (x1 : Z2) (u13 : Int) : Nat → Int → (List D0) → Option ((Z2) ⊕ ((List D0)))
 | 0, _, _ => none
 | fuel + 1, u21, u22 => (if (decide (u21 < ((x1.length : Nat) : Int))) = true then (gi u22 u13).bind fun x26 => (gi x1 u21).bind fun x31 => (w5 x26 x31).bind fun x36 => (Y3 u22 x36 I0 false 0).bind (fun y66 => (if (!y66) = true then (some u22.length).bind fun m68 => (grd (m68 ≤ 9223372036854775807)).bind fun _ => (if (decide (((m68 : Nat) : Int) ≥ 200)) = true then some (.inl ([] : Z2)) else (grd ((u22.length + [x36].length) * 24 ≤ 140737488355328)).bind fun _ => (n3 x1 u13 fuel (IntKind.i64.wrap (u21 + 1)) (u22 ++ [x36]))) else (n3 x1 u13 fuel (IntKind.i64.wrap (u21 + 1)) u22))) else some (.inr (u22)))
def Q4 (x1 : Z2) : Nat → Int → (List D0) → Option ((Z2) ⊕ ((List D0)))
 | 0, _, _ => none
 | fuel + 1, u13, u14 => (some u14.length).bind fun m17 => (grd (m17 ≤ 9223372036854775807)).bind fun _ => (if (decide (u13 < ((m17 : Nat) : Int))) = true then (n3 x1 u13 I0 0 u14).bind fun X81 => q0d X81 (fun y79 => (Q4 x1 fuel (IntKind.i64.wrap (u13 + 1)) y79)) else some (.inr (u14)))
def H6 (p0 : l0) : Option (Z2) := match p0 with | (p0_0, p0_1, p0_2) => (T7 (p0_0, p0_1, p0_2)).bind fun x1 => (if (decide (((x1.length : Nat) : Int) = 0)) = true then some ([] : Z2) else (I4 p0_1).bind fun x9 => (Q4 x1 I0 0 [x9]).bind fun X93 => Z7 X93 (fun y87 => some y87))
def h9 (p0 : l0) : Option (Int) := match p0 with | (p0_0, p0_1, p0_2) => (H6 (p0_0, p0_1, p0_2)).bind fun x1 => (if (decide (((x1.length : Nat) : Int) = 0)) = true then some (-1) else some ((x1.length : Nat) : Int))
def E4 (u3 : (List l0)) (x8_0_0 : Int) (x8_0_1 : Int) (x8_0_2 : J0) : Nat → Bool → Int → Option (Bool)
 | 0, _, _ => none
 | fuel + 1, u12, u13 => (some u3.length).bind fun m16 => (grd (m16 ≤ 9223372036854775807)).bind fun _ => (if (decide (u13 < ((m16 : Nat) : Int))) = true then (chk (!u12) (gi u3 u13) (0, 0, [])).bind fun x19 => match x19 with | (x19_0, x19_1, x19_2) => (chk (!u12) (n7 (x19_0, x19_1, x19_2) (x8_0_0, x8_0_1, x8_0_2)) false).bind fun x20 => (E4 u3 x8_0_0 x8_0_1 x8_0_2 fuel (bif u12 then true else x20) (IntKind.i64.wrap (u13 + 1))) else some (u12))
def Q2 (p0_1 : Int) (p0_0 : Int) (p0_2 : J0) : Nat → Int → (List l0) → Option ((List l0))
 | 0, _, _ => none
 | fuel + 1, u2, u3 => (chk (decide (u2 < p0_1)) (E6 (p0_0, p0_1, p0_2)) false).bind fun x6 => (if (bif (decide (u2 < p0_1)) then x6 else false) = true then (C9 (p0_0, p0_1, p0_2) u2).bind fun x8 => match x8 with | (x8_0, x8_1) => match x8_0 with | (x8_0_0, x8_0_1, x8_0_2) => (E4 u3 x8_0_0 x8_0_1 x8_0_2 I0 false 0).bind (fun y24 => (if (!y24) = true then (grd ((u3.length + ([(x8_0_0, x8_0_1, x8_0_2)]).length) * 40 ≤ 140737488355328)).bind fun _ => (Q2 p0_1 p0_0 p0_2 fuel (IntKind.i64.wrap (u2 + 1)) (u3 ++ [(x8_0_0, x8_0_1, x8_0_2)])) else (Q2 p0_1 p0_0 p0_2 fuel (IntKind.i64.wrap (u2 + 1)) u3))) else some (u3))
def W6 (p0 : l0) : Option (D8) := match p0 with | (p0_0, p0_1, p0_2) => (Q2 p0_1 p0_0 p0_2 I0 0 ([] : D8)).bind (fun y34 => some y34)
def Y4 (x1 : Z2) : Nat → ByteArray → Int → Option (ByteArray)
 | 0, _, _ => none
 | fuel + 1, u47, u48 => (if (decide (u48 < ((x1.length : Nat) : Int))) = true then (grd (u47.size + (⟨#[32]⟩ : ByteArray).size ≤ 9223372036854775807)).bind fun _ => (E01 (IntKind.i64.wrap (u48 + 1))).bind fun x53 => (grd (x53.size ≤ 9223372036854775807)).bind fun _ => (grd ((u47 ++ (⟨#[32]⟩ : ByteArray)).size + x53.size ≤ 9223372036854775807)).bind fun _ => (grd (((u47 ++ (⟨#[32]⟩ : ByteArray)) ++ x53).size + (⟨#[32]⟩ : ByteArray).size ≤ 9223372036854775807)).bind fun _ => (gi x1 u48).bind fun x57 => (M7 x57).bind fun x58 => (grd (x58.size ≤ 9223372036854775807)).bind fun _ => (grd ((((u47 ++ (⟨#[32]⟩ : ByteArray)) ++ x53) ++ (⟨#[32]⟩ : ByteArray)).size + x58.size ≤ 9223372036854775807)).bind fun _ => (Y4 x1 fuel ((((u47 ++ (⟨#[32]⟩ : ByteArray)) ++ x53) ++ (⟨#[32]⟩ : ByteArray)) ++ x58) (IntKind.i64.wrap (u48 + 1))) else some (u47))
def L8 (p0 : l0) : Option (ByteArray) := match p0 with | (p0_0, p0_1, p0_2) => (T7 (p0_0, p0_1, p0_2)).bind fun x1 => (if (decide (((x1.length : Nat) : Int) = 0)) = true then some (⟨#[]⟩ : ByteArray) else (H5 p0_1).bind fun x5 => (grd (x5.size ≤ 9223372036854775807)).bind fun q6 => (grd ((⟨#[112, 111, 105, 110, 116, 115, 32]⟩ : ByteArray).size + x5.size ≤ 9223372036854775807)).bind fun q9 => (grd (((⟨#[112, 111, 105, 110, 116, 115, 32]⟩ : ByteArray) ++ x5).size + (⟨#[32, 103, 114, 111, 117, 112, 32]⟩ : ByteArray).size ≤ 9223372036854775807)).bind fun q12 => (h9 (p0_0, p0_1, p0_2)).bind fun x15 => (grd (M0 x15)).bind fun q16 => (H5 x15).bind fun x19 => (grd (x19.size ≤ 9223372036854775807)).bind fun q20 => (grd ((((⟨#[112, 111, 105, 110, 116, 115, 32]⟩ : ByteArray) ++ x5) ++ (⟨#[32, 103, 114, 111, 117, 112, 32]⟩ : ByteArray)).size + x19.size ≤ 9223372036854775807)).bind fun q23 => (grd (((((⟨#[112, 111, 105, 110, 116, 115, 32]⟩ : ByteArray) ++ x5) ++ (⟨#[32, 103, 114, 111, 117, 112, 32]⟩ : ByteArray)) ++ x19).size + (⟨#[32, 99, 111, 110, 106, 117, 103, 97, 116, 101, 115, 32]⟩ : ByteArray).size ≤ 9223372036854775807)).bind fun q26 => (W6 (p0_0, p0_1, p0_2)).bind fun x29 => (grd (x29.length ≤ 9223372036854775807)).bind fun q32 => (H5 ((x29.length : Nat) : Int)).bind fun x36 => (grd (x36.size ≤ 9223372036854775807)).bind fun q37 => (grd ((((((⟨#[112, 111, 105, 110, 116, 115, 32]⟩ : ByteArray) ++ x5) ++ (⟨#[32, 103, 114, 111, 117, 112, 32]⟩ : ByteArray)) ++ x19) ++ (⟨#[32, 99, 111, 110, 106, 117, 103, 97, 116, 101, 115, 32]⟩ : ByteArray)).size + x36.size ≤ 9223372036854775807)).bind fun q40 => (Y4 x1 I0 ((((((⟨#[112, 111, 105, 110, 116, 115, 32]⟩ : ByteArray) ++ x5) ++ (⟨#[32, 103, 114, 111, 117, 112, 32]⟩ : ByteArray)) ++ x19) ++ (⟨#[32, 99, 111, 110, 106, 117, 103, 97, 116, 101, 115, 32]⟩ : ByteArray)) ++ x36) 0).bind (fun y62 => some y62))
end Go.Proofs.YtknoadmdnjaocaaGreat
namespace Go.Proofs.YtknoadmdnjaocaaGreat
open Go.H
set_option linter.unusedVariables false
set_option linter.unusedSimpArgs false
set_option maxRecDepth 10000
def R5 (p0_1 : Int) (p0_0 : Int) (p0_2 : J0) (u8 : Int) : Nat → Int → (List Int) → Option ((List Int))
 | 0, _, _ => none
 | fuel + 1, u14, u15 => (if (decide (u14 < p0_1)) = true then (P6 (p0_0, p0_1, p0_2) u14 u8).bind fun x19 => (grd (M0 x19)).bind fun _ => (grd ((u15.length + [x19].length) * 8 ≤ 140737488355328)).bind fun _ => (R5 p0_1 p0_0 p0_2 u8 fuel (IntKind.i64.wrap (u14 + 1)) (u15 ++ [x19])) else some (u15))
def S5 (p0_0 : Int) (p0_1 : Int) (p0_2 : J0) : Nat → Int → (List D0) → Option ((List D0))
 | 0, _, _ => none
 | fuel + 1, u8, u9 => (if (decide (u8 ≤ p0_0)) = true then (R5 p0_1 p0_0 p0_2 u8 I0 0 ([] : D0)).bind (fun y29 => (grd ((u9.length + [y29].length) * 24 ≤ 140737488355328)).bind fun _ => (S5 p0_0 p0_1 p0_2 fuel (IntKind.i64.wrap (u8 + 1)) (u9 ++ [y29]))) else some (u9))
def U7 (p0 : l0) : Option (Z2) := match p0 with | (p0_0, p0_1, p0_2) => (M4 (p0_0, p0_1, p0_2)).bind fun x1 => (if (!x1) = true then some ([] : Z2) else (S5 p0_0 p0_1 p0_2 I0 1 ([] : Z2)).bind (fun y43 => some y43))
def V2 (p0 : Int) : Nat → Int → (List Int) → Option ((List Int))
 | 0, _, _ => none
 | fuel + 1, u2, u3 => (if (bif (decide (u2 < p0)) then (decide (u2 < 40)) else false) = true then (grd ((u3.length + [u2].length) * 8 ≤ 140737488355328)).bind fun _ => (V2 p0 fuel (IntKind.i64.wrap (u2 + 1)) (u3 ++ [u2])) else some (u3))
def A5 (p0 : Int) : Option (D0) := (V2 p0 I0 0 ([] : D0)).bind (fun y13 => some y13)
def Z3 (p0 : D0) : Nat → Int → (List Bool) → Option ((Bool) ⊕ ((List Bool)))
 | 0, _, _ => none
 | fuel + 1, u4, u5 => (if (decide (u4 < ((p0.length : Nat) : Int))) = true then (gi p0 u4).bind fun x9 => (M6 x9 0 (IntKind.i64.wrap (((p0.length : Nat) : Int) - 1))).bind fun x10 => (chk (!(!x10)) (gi u5 x9) false).bind fun x11 => (if (bif (!x10) then true else x11) = true then some (.inl false) else (gi u5 x9).bind fun x13 => (Z3 p0 fuel (IntKind.i64.wrap (u4 + 1)) (u5.set x9.toNat true))) else some (.inr (u5)))
def I6 (p0 : D0) : Option (Bool) := (if (decide (((p0.length : Nat) : Int) > 40)) = true then some false else (grd ((0 : Int) ≤ ((p0.length : Nat) : Int) ∧ ((p0.length : Nat) : Int) ≤ ((p0.length : Nat) : Int) ∧ ((p0.length : Nat) : Int) * 1 ≤ 140737488355328 ∧ ((p0.length : Nat) : Int) ≤ 9223372036854775807)).bind fun _ => (Z3 p0 I0 0 (List.replicate ((p0.length : Nat) : Int).toNat (false : Bool))).bind fun X17 => Z7 X17 (fun y15 => some true))
def A2 (p0 : D0) (p1 : D0) : Nat → Int → (List Int) → Option ((List Int))
 | 0, _, _ => none
 | fuel + 1, u9, u10 => (if (decide (u9 < ((p0.length : Nat) : Int))) = true then (gi p0 u9).bind fun x14 => (gi p1 x14).bind fun x15 => (grd ((u10.length + [x15].length) * 8 ≤ 140737488355328)).bind fun _ => (A2 p0 p1 fuel (IntKind.i64.wrap (u9 + 1)) (u10 ++ [x15])) else some (u10))
def B5 (p0 : D0) (p1 : D0) : Option (D0) := (I6 p0).bind fun x1 => (chk (!(!x1)) (I6 p1) false).bind fun x2 => (if (bif (bif (!x1) then true else (!x2)) then true else (!decide (((p0.length : Nat) : Int) = ((p1.length : Nat) : Int)))) = true then some ([] : D0) else (A2 p0 p1 I0 0 ([] : D0)).bind (fun y22 => some y22))
def c4 (m33 : Nat) (u24 : (List D0)) (x30 : D0) : Nat → Bool → Int → Option (Bool)
 | 0, _, _ => none
 | fuel + 1, u36, u37 => (if (decide (u37 < ((m33 : Nat) : Int))) = true then (gi u24 u37).bind fun x41 => (chk (!u36) (J8 x30 x41) false).bind fun x42 => (c4 m33 u24 x30 fuel (bif u36 then true else x42) (IntKind.i64.wrap (u37 + 1))) else some (u36))
def A3 (x7 : Z2) (u15 : Int) : Nat → Int → (List D0) → Option ((Z2) ⊕ ((List D0)))
 | 0, _, _ => none
 | fuel + 1, u23, u24 => (if (decide (u23 < ((x7.length : Nat) : Int))) = true then (gi x7 u23).bind fun x28 => (gi u24 u15).bind fun x29 => (B5 x29 x28).bind fun x30 => (some u24.length).bind fun m33 => (grd (m33 ≤ 9223372036854775807)).bind fun _ => (c4 m33 u24 x30 I0 false 0).bind (fun y53 => (if y53 = true then (A3 x7 u15 fuel (IntKind.i64.wrap (u23 + 1)) u24) else (some u24.length).bind fun m55 => (grd (m55 ≤ 9223372036854775807)).bind fun _ => (if (decide (((m55 : Nat) : Int) = 200)) = true then some (.inl ([] : Z2)) else (grd ((u24.length + [x30].length) * 24 ≤ 140737488355328)).bind fun _ => (A3 x7 u15 fuel (IntKind.i64.wrap (u23 + 1)) (u24 ++ [x30]))))) else some (.inr (u24)))
def R4 (x7 : Z2) : Nat → Int → (List D0) → Option ((Z2) ⊕ ((List D0)))
 | 0, _, _ => none
 | fuel + 1, u15, u16 => (some u16.length).bind fun m19 => (grd (m19 ≤ 9223372036854775807)).bind fun _ => (if (decide (u15 < ((m19 : Nat) : Int))) = true then (A3 x7 u15 I0 0 u16).bind fun X68 => q0d X68 (fun y66 => (R4 x7 fuel (IntKind.i64.wrap (u15 + 1)) y66)) else some (.inr (u16)))
def J6 (p0 : l0) : Option (Z2) := match p0 with | (p0_0, p0_1, p0_2) => (M4 (p0_0, p0_1, p0_2)).bind fun x1 => (if (!x1) = true then some ([] : Z2) else (U7 (p0_0, p0_1, p0_2)).bind fun x7 => (A5 p0_1).bind fun x10 => (grd ((([] : Z2).length + [x10].length) * 24 ≤ 140737488355328)).bind fun _ => (R4 x7 I0 0 (([] : Z2) ++ [x10])).bind fun X80 => Z7 X80 (fun y74 => some y74))
def i9 (p0 : l0) : Option (Int) := match p0 with | (p0_0, p0_1, p0_2) => (J6 (p0_0, p0_1, p0_2)).bind fun x1 => (if (decide (((x1.length : Nat) : Int) > 0)) = true then some ((x1.length : Nat) : Int) else some (-1))
def T5 (p0 : D8) (p1_0 : Int) (p1_1 : Int) (p1_2 : J0) : Nat → Int → Option ((Bool) ⊕ (Unit))
 | 0, _ => none
 | fuel + 1, u2 => (if (decide (u2 < ((p0.length : Nat) : Int))) = true then (gi p0 u2).bind fun x6 => match x6 with | (x6_0, x6_1, x6_2) => (p7 (x6_0, x6_1, x6_2) (p1_0, p1_1, p1_2)).bind fun x7 => (if x7 = true then some (.inl true) else (T5 p0 p1_0 p1_1 p1_2 fuel (IntKind.i64.wrap (u2 + 1)))) else some (.inr ()))
def E9 (p0 : D8) (p1 : l0) : Option (Bool) := match p1 with | (p1_0, p1_1, p1_2) => (T5 p0 p1_0 p1_1 p1_2 I0 0).bind fun X11 => Z7 X11 (fun _ => some false)
def I3 (p0_1 : Int) (p0_0 : Int) (p0_2 : J0) : Nat → Int → (List l0) → Option ((List l0))
 | 0, _, _ => none
 | fuel + 1, u8, u9 => (if (decide (u8 < p0_1)) = true then (D9 (p0_0, p0_1, p0_2) u8).bind fun x13 => match x13 with | (x13_0, x13_1) => match x13_0 with | (x13_0_0, x13_0_1, x13_0_2) => (E9 u9 (x13_0_0, x13_0_1, x13_0_2)).bind fun x20 => (if (!x20) = true then (grd ((u9.length + ([(x13_0_0, x13_0_1, x13_0_2)]).length) * 40 ≤ 140737488355328)).bind fun _ => (I3 p0_1 p0_0 p0_2 fuel (IntKind.i64.wrap (u8 + 1)) (u9 ++ [(x13_0_0, x13_0_1, x13_0_2)])) else (I3 p0_1 p0_0 p0_2 fuel (IntKind.i64.wrap (u8 + 1)) u9)) else some (u9))
def Y6 (p0 : l0) : Option (D8) := match p0 with | (p0_0, p0_1, p0_2) => (M4 (p0_0, p0_1, p0_2)).bind fun x1 => (if (!x1) = true then some ([] : D8) else (I3 p0_1 p0_0 p0_2 I0 0 ([] : D8)).bind (fun y28 => some y28))
def Q00 (p0 : (List ByteArray)) : Option (ByteArray) := (p00 p0 (⟨#[32]⟩ : ByteArray) (⟨#[]⟩ : ByteArray)).bind fun x1 => (grd (x1.size ≤ 9223372036854775807)).bind fun _ => some x1
def Z4 (x38 : Z2) : Nat → ByteArray → Int → Option (ByteArray)
 | 0, _, _ => none
 | fuel + 1, u42, u43 => (if (decide (u43 < ((x38.length : Nat) : Int))) = true then (gi x38 u43).bind fun x47 => (K8 (IntKind.i64.wrap (u43 + 1))).bind fun x48 => (grd (x48.size ≤ 9223372036854775807)).bind fun _ => (N7 x47).bind fun x50 => (grd (x50.size ≤ 9223372036854775807)).bind fun _ => (Q00 ([u42, x48, x50])).bind fun x56 => (grd (x56.size ≤ 9223372036854775807)).bind fun _ => (Z4 x38 fuel x56 (IntKind.i64.wrap (u43 + 1))) else some (u42))
def M8 (p0 : l0) : Option (ByteArray) := match p0 with | (p0_0, p0_1, p0_2) => (M4 (p0_0, p0_1, p0_2)).bind fun x1 => (if (!x1) = true then some (⟨#[]⟩ : ByteArray) else (F6 p0_1).bind fun x3 => (grd (x3.size ≤ 9223372036854775807)).bind fun q4 => (i9 (p0_0, p0_1, p0_2)).bind fun x7 => (grd (M0 x7)).bind fun q8 => (F6 x7).bind fun x11 => (grd (x11.size ≤ 9223372036854775807)).bind fun q12 => (Y6 (p0_0, p0_1, p0_2)).bind fun x15 => (grd (x15.length ≤ 9223372036854775807)).bind fun q18 => (F6 ((x15.length : Nat) : Int)).bind fun x22 => (grd (x22.size ≤ 9223372036854775807)).bind fun q23 => (some [(⟨#[112, 111, 105, 110, 116, 115]⟩ : ByteArray), x3, (⟨#[103, 114, 111, 117, 112]⟩ : ByteArray), x11, (⟨#[99, 111, 110, 106, 117, 103, 97, 116, 101, 115]⟩ : ByteArray), x22]).bind fun x26 => (Q00 x26).bind fun x29 => (grd (x29.size ≤ 9223372036854775807)).bind fun q30 => (U7 (p0_0, p0_1, p0_2)).bind fun x38 => (Z4 x38 I0 x29 0).bind (fun y59 => some y59))
end Go.Proofs.YtknoadmdnjaocaaGreat
