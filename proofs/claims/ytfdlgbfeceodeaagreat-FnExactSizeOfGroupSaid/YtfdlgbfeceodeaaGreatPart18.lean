/- Texts of the claim, joined: What functions of the program compute, in plain words: batch 1; What functions of the program compute, in plain words: batch 4g; What functions of the program compute, in plain words: batch 9; What functions of the program compute, in plain words: batch g1; What functions of the program compute, in plain words: batch g2; What functions of the program compute, in plain words: batch g3; What functions of the program compute, in plain words: batch g4; What functions of the program compute, in plain words: batch h1; What functions of the program compute, in plain words: batch h3; What functions of the program compute, in plain words: batch 9f; What functions of the program compute, in plain words: batch h2; What functions of the program compute, in plain words: batch h4; What functions of the program compute, in plain words: batch i1; What functions of the program compute, in plain words: batch i2; What functions of the program compute, in plain words: batch i3; What functions of the program compute, in plain words: batch i4. -/
import Derived.Test.YtfdlgbfeceodeaaGreatPart17
import Derived.Test.YtfdlgbfeceodeaaGreatH36
namespace Go.Proofs.YtfdlgbfeceodeaaGreat
open Go.H
set_option linter.unusedVariables false
set_option linter.unusedSimpArgs false
set_option maxRecDepth 10000
def i4 (p0 : Int) (p1 : Int) (p2 : Int) : Option (Bool) := some (bif (decide (p0 ≥ p1)) then (decide (p0 ≤ p2)) else false)
def N6 (p1 : O0) (p0 : Int) : Nat → Int → Option ((Bool) ⊕ (Unit))
 | 0, _ => none
 | fuel + 1, u2 => (if (decide (u2 < ((p1.length : Nat) : Int))) = true then (gi p1 u2).bind fun x6 => (chk (!(decide (x6 = 0))) (gi p1 u2) 0).bind fun x7 => (chk (!(decide (x6 = 0))) (i4 x7 (IntKind.i64.wrap (0 - p0)) p0) false).bind fun x8 => (chk ((decide (u2 > 0)) && (!(bif (decide (x6 = 0)) then true else (!x8)))) (gi p1 u2) 0).bind fun x9 => (chk ((decide (u2 > 0)) && (!(bif (decide (x6 = 0)) then true else (!x8)))) (gi p1 (IntKind.i64.wrap (u2 - 1))) 0).bind fun x10 => (if (bif (bif (decide (x6 = 0)) then true else (!x8)) then true else (bif (decide (u2 > 0)) then (decide (x9 = (IntKind.i64.wrap (0 - x10)))) else false)) = true then some (.inl false) else (N6 p1 p0 fuel (IntKind.i64.wrap (u2 + 1)))) else some (.inr ()))
def B9 (p0 : Int) (p1 : O0) : Option (Bool) := (N6 p1 p0 S0 0).bind fun X16 => l7 X16 (fun _ => (i4 p0 1 3).bind fun x14 => some (bif x14 then (decide (((p1.length : Nat) : Int) ≤ 24)) else false))
def C3 (p0 : j3) : Nat → Int → Int → Option (Int)
 | 0, _, _ => none
 | fuel + 1, u2, u3 => (if (decide (u3 < ((p0.length : Nat) : Int))) = true then (gi p0 u3).bind fun x7 => (C3 p0 fuel (IntKind.i64.wrap (u2 + ((x7.length : Nat) : Int))) (IntKind.i64.wrap (u3 + 1))) else some (u2))
def Y6 (p0 : j3) : Option (Int) := (C3 p0 S0 0 0).bind (fun y9 => some y9)
def D5 (p1 : j3) (p0 : Int) : Nat → Int → Option ((Bool) ⊕ (Unit))
 | 0, _ => none
 | fuel + 1, u2 => (if (decide (u2 < ((p1.length : Nat) : Int))) = true then (gi p1 u2).bind fun x6 => (B9 p0 x6).bind fun x7 => (if (!x7) = true then some (.inl false) else (D5 p1 p0 fuel (IntKind.i64.wrap (u2 + 1)))) else some (.inr ()))
def t8 (p0 : Int) (p1 : j3) : Option (Bool) := (D5 p1 p0 S0 0).bind fun X17 => l7 X17 (fun _ => (i4 p0 1 3).bind fun x13 => (chk (bif x13 then (decide (((p1.length : Nat) : Int) ≤ 6)) else false) (Y6 p1) 0).bind fun x14 => (grd (F0 x14)).bind fun _ => some (bif (bif x13 then (decide (((p1.length : Nat) : Int) ≤ 6)) else false) then (decide (x14 < 40)) else false))
def M3 (p0_1 : j3) : Nat → Int → Option ((Bool) ⊕ (Unit))
 | 0, _ => none
 | fuel + 1, u2 => (if (decide (u2 < ((p0_1.length : Nat) : Int))) = true then (gi p0_1 u2).bind fun x6 => (chk (!(decide (((x6.length : Nat) : Int) = 0))) (gi x6 0) 0).bind fun x7 => (chk (!(decide (((x6.length : Nat) : Int) = 0))) (gi x6 (IntKind.i64.wrap (((x6.length : Nat) : Int) - 1))) 0).bind fun x8 => (if (bif (decide (((x6.length : Nat) : Int) = 0)) then true else (decide (x7 = (IntKind.i64.wrap (0 - x8))))) = true then some (.inl false) else (M3 p0_1 fuel (IntKind.i64.wrap (u2 + 1)))) else some (.inr ()))
def T4 (p0 : C0) : Option (Bool) := match p0 with | (p0_0, p0_1) => (M3 p0_1 S0 0).bind fun X14 => l7 X14 (fun _ => (t8 p0_0 p0_1).bind fun x12 => some x12)
def P5 (p0 : Int) (p1 : Int) (p2 : Int) : Option (Bool) := some (bif (decide (p0 ≥ p1)) then (decide (p0 ≤ p2)) else false)
def c9 (p0 : Int) (p1 : Int) : Option (Bool) := (chk (!decide (p1 = 0)) (P5 p1 (IntKind.i64.wrap (0 - p0)) p0) false).bind fun x1 => some (bif (!decide (p1 = 0)) then x1 else false)
def E7 (p0 : Int) (p1 : Int) : Option (Bool) := some (bif (bif (!decide (p0 = 0)) then (!decide (p0 = (-9223372036854775808))) else false) then (decide (p1 = (IntKind.i64.wrap (0 - p0)))) else false)
def O6 (p1 : O0) (p0 : Int) : Nat → Int → Option ((Bool) ⊕ (Unit))
 | 0, _ => none
 | fuel + 1, u4 => (if (decide (u4 < ((p1.length : Nat) : Int))) = true then (gi p1 u4).bind fun x8 => (c9 p0 x8).bind fun x9 => (chk ((decide (u4 > 0)) && (!(!x9))) (gi p1 (IntKind.i64.wrap (u4 - 1))) 0).bind fun x10 => (chk ((decide (u4 > 0)) && (!(!x9))) (E7 x10 x8) false).bind fun x11 => (if (bif (!x9) then true else (bif (decide (u4 > 0)) then x11 else false)) = true then some (.inl false) else (O6 p1 p0 fuel (IntKind.i64.wrap (u4 + 1)))) else some (.inr ()))
def C9 (p0 : Int) (p1 : O0) : Option (Bool) := (P5 p0 1 3).bind fun x1 => (if (bif (!x1) then true else (decide (((p1.length : Nat) : Int) > 24))) = true then some false else (O6 p1 p0 S0 0).bind fun X15 => l7 X15 (fun _ => some true))
def Y4 (p0 : j3) : Nat → Int → Int → Option (Int)
 | 0, _, _ => none
 | fuel + 1, u2, u3 => (if (decide (u3 < ((p0.length : Nat) : Int))) = true then (gi p0 u3).bind fun x7 => (Y4 p0 fuel (IntKind.i64.wrap (u2 + ((x7.length : Nat) : Int))) (IntKind.i64.wrap (u3 + 1))) else some (u2))
def Z7 (p0 : j3) : Option (Int) := (Y4 p0 S0 0 0).bind (fun y9 => some y9)
def E5 (p1 : j3) (p0 : Int) : Nat → Int → Option ((Bool) ⊕ (Unit))
 | 0, _ => none
 | fuel + 1, u4 => (if (decide (u4 < ((p1.length : Nat) : Int))) = true then (gi p1 u4).bind fun x8 => (C9 p0 x8).bind fun x9 => (if (!x9) = true then some (.inl false) else (E5 p1 p0 fuel (IntKind.i64.wrap (u4 + 1)))) else some (.inr ()))
def w8 (p0 : Int) (p1 : j3) : Option (Bool) := (P5 p0 1 3).bind fun x1 => (if (bif (!x1) then true else (decide (((p1.length : Nat) : Int) > 6))) = true then some false else (E5 p1 p0 S0 0).bind fun X17 => l7 X17 (fun _ => (Z7 p1).bind fun x14 => (grd (F0 x14)).bind fun _ => some (decide (x14 < 40))))
def N3 (p0_1 : j3) : Nat → Int → Option ((Bool) ⊕ (Unit))
 | 0, _ => none
 | fuel + 1, u4 => (if (decide (u4 < ((p0_1.length : Nat) : Int))) = true then (gi p0_1 u4).bind fun x8 => (chk (!(decide (((x8.length : Nat) : Int) = 0))) (gi x8 0) 0).bind fun x9 => (chk (!(decide (((x8.length : Nat) : Int) = 0))) (gi x8 (IntKind.i64.wrap (((x8.length : Nat) : Int) - 1))) 0).bind fun x10 => (chk (!(decide (((x8.length : Nat) : Int) = 0))) (E7 x9 x10) false).bind fun x11 => (if (bif (decide (((x8.length : Nat) : Int) = 0)) then true else x11) = true then some (.inl false) else (N3 p0_1 fuel (IntKind.i64.wrap (u4 + 1)))) else some (.inr ()))
def U4 (p0 : C0) : Option (Bool) := match p0 with | (p0_0, p0_1) => (w8 p0_0 p0_1).bind fun x1 => (if (!x1) = true then some false else (N3 p0_1 S0 0).bind fun X15 => l7 X15 (fun _ => some true))
def U5 (p0 : Int) (p1 : Int) : Option (Int) := (if (decide (p0 < p1)) = true then some (-1) else (if (decide (p0 > p1)) = true then some 1 else some 0))
end Go.Proofs.YtfdlgbfeceodeaaGreat
namespace Go.Proofs.YtfdlgbfeceodeaaGreat
open Go.H
set_option linter.unusedVariables false
set_option linter.unusedSimpArgs false
set_option maxRecDepth 10000
def D9 (p0 : l0) (p1 : D0) : Option (Bool) := match p0 with | (p0_0, p0_1, p0_2) => match p1 with | (p1_0, p1_1, p1_2) => (i4 p1_0 0 (IntKind.i64.wrap (p0_1 - 1))).bind fun x1 => (chk x1 (i4 p1_2 0 (IntKind.i64.wrap (p0_1 - 1))) false).bind fun x2 => (chk (bif x1 then x2 else false) (i4 p1_1 1 p0_0) false).bind fun x3 => some (bif (bif x1 then x2 else false) then x3 else false)
def L5 (p0_0 : Int) (p0_1 : Int) (p0_2 : Int) (p1_0 : Int) (p1_1 : Int) (p1_2 : Int) : Nat → Int → Option ((Int) ⊕ (Unit))
 | 0, _ => none
 | fuel + 1, u2 => (if (decide (u2 < 3)) = true then (gi [p0_0, p0_1, p0_2] u2).bind fun x6 => (gi [p1_0, p1_1, p1_2] u2).bind fun x7 => (if (decide (x6 < x7)) = true then some (.inl (-1)) else (gi [p0_0, p0_1, p0_2] u2).bind fun x9 => (gi [p1_0, p1_1, p1_2] u2).bind fun x10 => (if (decide (x9 > x10)) = true then some (.inl 1) else (L5 p0_0 p0_1 p0_2 p1_0 p1_1 p1_2 fuel (IntKind.i64.wrap (u2 + 1))))) else some (.inr ()))
def K6 (p0 : D0) (p1 : D0) : Option (Int) := match p0 with | (p0_0, p0_1, p0_2) => match p1 with | (p1_0, p1_1, p1_2) => (L5 p0_0 p0_1 p0_2 p1_0 p1_1 p1_2 S0 0).bind fun X14 => l7 X14 (fun _ => some 0)
def Z5 (p0_2 : J0) (p0_0 : Int) (p0_1 : Int) : Nat → Int → Option ((Bool) ⊕ (Unit))
 | 0, _ => none
 | fuel + 1, u2 => (if (decide (u2 < ((p0_2.length : Nat) : Int))) = true then (gi p0_2 u2).bind fun x6 => match x6 with | (x6_0, x6_1, x6_2) => (D9 (p0_0, p0_1, p0_2) (x6_0, x6_1, x6_2)).bind fun x7 => (chk ((decide (u2 > 0)) && (!(!x7))) (gi p0_2 (IntKind.i64.wrap (u2 - 1))) (0, 0, 0)).bind fun x8 => match x8 with | (x8_0, x8_1, x8_2) => (chk ((decide (u2 > 0)) && (!(!x7))) (gi p0_2 u2) (0, 0, 0)).bind fun x9 => match x9 with | (x9_0, x9_1, x9_2) => (chk ((decide (u2 > 0)) && (!(!x7))) (K6 (x8_0, x8_1, x8_2) (x9_0, x9_1, x9_2)) 0).bind fun x10 => (grd (F0 x10)).bind fun _ => (if (bif (!x7) then true else (bif (decide (u2 > 0)) then (decide (x10 ≥ 0)) else false)) = true then some (.inl false) else (Z5 p0_2 p0_0 p0_1 fuel (IntKind.i64.wrap (u2 + 1)))) else some (.inr ()))
def G3 (p0 : l0) : Option (Bool) := match p0 with | (p0_0, p0_1, p0_2) => (Z5 p0_2 p0_0 p0_1 S0 0).bind fun X19 => l7 X19 (fun _ => (i4 p0_0 1 3).bind fun x16 => (chk x16 (i4 p0_1 1 40) false).bind fun x17 => some (bif (bif x16 then x17 else false) then (decide (((p0_2.length : Nat) : Int) ≤ 120)) else false))
def n5 (p0 : l0) (p1 : Int) : Option (Bool) := match p0 with | (p0_0, p0_1, p0_2) => (P5 p1 0 (IntKind.i64.wrap (p0_1 - 1))).bind fun x1 => some x1
def c6 (p0 : l0) (p1 : D0) : Option (Bool) := match p0 with | (p0_0, p0_1, p0_2) => match p1 with | (p1_0, p1_1, p1_2) => (n5 (p0_0, p0_1, p0_2) p1_0).bind fun x1 => (chk x1 (n5 (p0_0, p0_1, p0_2) p1_2) false).bind fun x2 => (chk (bif x1 then x2 else false) (P5 p1_1 1 p0_0) false).bind fun x3 => some (bif (bif x1 then x2 else false) then x3 else false)
def I7 (p0 : D0) (p1 : D0) : Option (Int) := match p0 with | (p0_0, p0_1, p0_2) => match p1 with | (p1_0, p1_1, p1_2) => (U5 p0_0 p1_0).bind fun x1 => (grd (F0 x1)).bind fun _ => (if (!decide (x1 = 0)) = true then some x1 else (U5 p0_1 p1_1).bind fun x4 => (grd (F0 x4)).bind fun _ => (if (!decide (x4 = 0)) = true then some x4 else (U5 p0_2 p1_2).bind fun x7 => (grd (F0 x7)).bind fun _ => some x7))
def d6 (p0_2 : J0) (p0_0 : Int) (p0_1 : Int) : Nat → Int → Option ((Bool) ⊕ (Unit))
 | 0, _ => none
 | fuel + 1, u5 => (if (decide (u5 < ((p0_2.length : Nat) : Int))) = true then (gi p0_2 u5).bind fun x9 => match x9 with | (x9_0, x9_1, x9_2) => (c6 (p0_0, p0_1, p0_2) (x9_0, x9_1, x9_2)).bind fun x10 => (chk ((decide (u5 > 0)) && (!(!x10))) (gi p0_2 (IntKind.i64.wrap (u5 - 1))) (0, 0, 0)).bind fun x11 => match x11 with | (x11_0, x11_1, x11_2) => (chk ((decide (u5 > 0)) && (!(!x10))) (I7 (x11_0, x11_1, x11_2) (x9_0, x9_1, x9_2)) 0).bind fun x12 => (grd (F0 x12)).bind fun _ => (if (bif (!x10) then true else (bif (decide (u5 > 0)) then (decide (x12 ≥ 0)) else false)) = true then some (.inl false) else (d6 p0_2 p0_0 p0_1 fuel (IntKind.i64.wrap (u5 + 1)))) else some (.inr ()))
def Z4 (p0 : l0) : Option (Bool) := match p0 with | (p0_0, p0_1, p0_2) => (P5 p0_0 1 3).bind fun x1 => (chk (!(!x1)) (P5 p0_1 1 40) false).bind fun x2 => (if (bif (bif (!x1) then true else (!x2)) then true else (decide (((p0_2.length : Nat) : Int) > 120))) = true then some false else (d6 p0_2 p0_0 p0_1 S0 0).bind fun X17 => l7 X17 (fun _ => some true))
end Go.Proofs.YtfdlgbfeceodeaaGreat
namespace Go.Proofs.YtfdlgbfeceodeaaGreat
open Go.H
set_option linter.unusedVariables false
set_option linter.unusedSimpArgs false
set_option maxRecDepth 10000
def R3 (p0 : O0) (p1 : Int) : Nat → Bool → Int → (List Int) → Option (Bool × (List Int))
 | 0, _, _, _ => none
 | fuel + 1, u2, u3, u4 => (if (decide (u3 < ((p0.length : Nat) : Int))) = true then (gi p0 u3).bind fun x8 => (if (decide (x8 = p1)) = true then (gi p0 u3).bind fun x10 => (if (bif (decide (x10 > p1)) then (!true) else false) = true then (grd ((u4.length + [p1].length) * 8 ≤ 140737488355328)).bind fun _ => (gi p0 u3).bind fun x13 => (grd (((u4 ++ [p1]).length + [x13].length) * 8 ≤ 140737488355328)).bind fun _ => (R3 p0 p1 fuel true (IntKind.i64.wrap (u3 + 1)) ((u4 ++ [p1]) ++ [x13])) else (gi p0 u3).bind fun x15 => (grd ((u4.length + [x15].length) * 8 ≤ 140737488355328)).bind fun _ => (R3 p0 p1 fuel true (IntKind.i64.wrap (u3 + 1)) (u4 ++ [x15]))) else (gi p0 u3).bind fun x17 => (if (bif (decide (x17 > p1)) then (!u2) else false) = true then (grd ((u4.length + [p1].length) * 8 ≤ 140737488355328)).bind fun _ => (gi p0 u3).bind fun x20 => (grd (((u4 ++ [p1]).length + [x20].length) * 8 ≤ 140737488355328)).bind fun _ => (R3 p0 p1 fuel true (IntKind.i64.wrap (u3 + 1)) ((u4 ++ [p1]) ++ [x20])) else (gi p0 u3).bind fun x22 => (grd ((u4.length + [x22].length) * 8 ≤ 140737488355328)).bind fun _ => (R3 p0 p1 fuel u2 (IntKind.i64.wrap (u3 + 1)) (u4 ++ [x22])))) else some (u2, u4))
def n7 (p0 : O0) (p1 : Int) : Option (O0) := (R3 p0 p1 S0 false 0 ([] : O0)).bind (fun S47 => match S47 with | (y35, y36) => (if (!y35) = true then (grd ((y36.length + [p1].length) * 8 ≤ 140737488355328)).bind fun _ => some (y36 ++ [p1]) else some y36))
def A7 (p0 : O0) (p1 : Int) : Nat → Int → Option ((Bool) ⊕ (Unit))
 | 0, _ => none
 | fuel + 1, u2 => (if (decide (u2 < ((p0.length : Nat) : Int))) = true then (gi p0 u2).bind fun x6 => (if (decide (x6 = p1)) = true then some (.inl true) else (A7 p0 p1 fuel (IntKind.i64.wrap (u2 + 1)))) else some (.inr ()))
def K7 (p0 : O0) (p1 : Int) : Option (Bool) := (A7 p0 p1 S0 0).bind fun X10 => l7 X10 (fun _ => some false)
def I3 (p0_2 : J0) (p2 : Int) (p1 : Int) : Nat → O0 → Int → Option (O0)
 | 0, _, _ => none
 | fuel + 1, u6, u7 => (if (decide (u7 < ((p0_2.length : Nat) : Int))) = true then (gi p0_2 u7).bind fun x11 => match x11 with | (x11_0, x11_1, x11_2) => (if (bif (bif (decide (p2 > 0)) then (decide (x11_1 = p2)) else false) then (decide (x11_0 = p1)) else false) = true then (n7 u6 x11_2).bind fun x13 => (if (bif (bif (decide (p2 < 0)) then (decide (x11_1 = (IntKind.i64.wrap (0 - p2)))) else false) then (decide (x11_2 = p1)) else false) = true then (n7 x13 x11_0).bind fun x17 => (I3 p0_2 p2 p1 fuel x17 (IntKind.i64.wrap (u7 + 1))) else (I3 p0_2 p2 p1 fuel x13 (IntKind.i64.wrap (u7 + 1)))) else (if (bif (bif (decide (p2 < 0)) then (decide (x11_1 = (IntKind.i64.wrap (0 - p2)))) else false) then (decide (x11_2 = p1)) else false) = true then (n7 u6 x11_0).bind fun x21 => (I3 p0_2 p2 p1 fuel x21 (IntKind.i64.wrap (u7 + 1))) else (I3 p0_2 p2 p1 fuel u6 (IntKind.i64.wrap (u7 + 1))))) else some (u6))
def L8 (p0 : l0) (p1 : Int) (p2 : Int) : Option (O0) := match p0 with | (p0_0, p0_1, p0_2) => (I3 p0_2 p2 p1 S0 ([] : O0) 0).bind (fun y25 => some y25)
def B6 (p0 : l0) (p1 : Int) (p2 : Int) : Option (Int) := match p0 with | (p0_0, p0_1, p0_2) => (L8 (p0_0, p0_1, p0_2) p1 p2).bind fun x1 => (if (decide (((x1.length : Nat) : Int) = 0)) = true then some (-1) else (gi x1 0).bind fun x5 => some x5)
def F5 (u2 : Int) (p0_2 : J0) : Nat → Int → Option ((Bool) ⊕ (Unit))
 | 0, _ => none
 | fuel + 1, u8 => (if (decide (u8 < u2)) = true then (gi p0_2 u2).bind fun x12 => match x12 with | (x12_0, x12_1, x12_2) => (gi p0_2 u8).bind fun x13 => match x13 with | (x13_0, x13_1, x13_2) => (if (bif (decide (x12_1 = x13_1)) then (bif (decide (x12_0 = x13_0)) then true else (decide (x12_2 = x13_2))) else false) = true then some (.inl false) else (F5 u2 p0_2 fuel (IntKind.i64.wrap (u8 + 1)))) else some (.inr ()))
def F4 (p0_2 : J0) (p0_0 : Int) (p0_1 : Int) : Nat → Int → Option ((Bool) ⊕ (Unit))
 | 0, _ => none
 | fuel + 1, u2 => (chk (decide (u2 < ((p0_2.length : Nat) : Int))) (G3 (p0_0, p0_1, p0_2)) false).bind fun x5 => (if (bif (decide (u2 < ((p0_2.length : Nat) : Int))) then x5 else false) = true then (F5 u2 p0_2 S0 0).bind fun X17 => t0b X17 (fun _ => (F4 p0_2 p0_0 p0_1 fuel (IntKind.i64.wrap (u2 + 1)))) else some (.inr ()))
def R5 (p0 : l0) : Option (Bool) := match p0 with | (p0_0, p0_1, p0_2) => (F4 p0_2 p0_0 p0_1 S0 0).bind fun X22 => l7 X22 (fun _ => (G3 (p0_0, p0_1, p0_2)).bind fun x20 => some x20)
def G5 (p2 : O0) (p0_0 : Int) (p0_1 : Int) (p0_2 : J0) : Nat → Int → Int → Option ((Int × Bool) ⊕ (Int))
 | 0, _, _ => none
 | fuel + 1, u5, u6 => (if (decide (u6 < ((p2.length : Nat) : Int))) = true then (gi p2 u6).bind fun x10 => (B6 (p0_0, p0_1, p0_2) u5 x10).bind fun x11 => (grd (F0 x11)).bind fun _ => (if (decide (x11 < 0)) = true then some (.inl ((-1), false)) else (G5 p2 p0_0 p0_1 p0_2 fuel x11 (IntKind.i64.wrap (u6 + 1)))) else some (.inr (u5)))
def d9 (p0 : l0) (p1 : Int) (p2 : O0) : Option (Int × Bool) := match p0 with | (p0_0, p0_1, p0_2) => (R5 (p0_0, p0_1, p0_2)).bind fun x1 => (chk (!(!x1)) (i4 p1 0 (IntKind.i64.wrap (p0_1 - 1))) false).bind fun x2 => (if (bif (!x1) then true else (!x2)) = true then some ((-1), false) else (G5 p2 p0_0 p0_1 p0_2 S0 p1 0).bind fun X17 => l7 X17 (fun y15 => some (y15, true)))
def W3 (p0_2 : J0) (p2 : Int) (p1 : Int) : Nat → Int → (List Int) → Option ((List Int))
 | 0, _, _ => none
 | fuel + 1, u2, u3 => (if (decide (u2 < ((p0_2.length : Nat) : Int))) = true then (gi p0_2 u2).bind fun x7 => match x7 with | (x7_0, x7_1, x7_2) => (if (bif (bif (decide (p2 > 0)) then (decide (x7_1 = p2)) else false) then (decide (x7_0 = p1)) else false) = true then (grd ((u3.length + [x7_2].length) * 8 ≤ 140737488355328)).bind fun _ => (W3 p0_2 p2 p1 fuel (IntKind.i64.wrap (u2 + 1)) (u3 ++ [x7_2])) else (if (bif (bif (bif (decide (p2 < 0)) then (!decide (p2 = (-9223372036854775808))) else false) then (decide (x7_1 = (IntKind.i64.wrap (0 - p2)))) else false) then (decide (x7_2 = p1)) else false) = true then (grd ((u3.length + [x7_0].length) * 8 ≤ 140737488355328)).bind fun _ => (W3 p0_2 p2 p1 fuel (IntKind.i64.wrap (u2 + 1)) (u3 ++ [x7_0])) else (W3 p0_2 p2 p1 fuel (IntKind.i64.wrap (u2 + 1)) u3))) else some (u3))
def M8 (p0 : l0) (p1 : Int) (p2 : Int) : Option (O0) := match p0 with | (p0_0, p0_1, p0_2) => (W3 p0_2 p2 p1 S0 0 ([] : O0)).bind (fun y19 => (grd (y19.length < 4611686018427387904)).bind fun _ => some (Z00 eqI (q03 D7 y19)))
def C6 (p0 : l0) (p1 : Int) (p2 : Int) : Option (Int) := match p0 with | (p0_0, p0_1, p0_2) => (M8 (p0_0, p0_1, p0_2) p1 p2).bind fun x1 => (if (decide (((x1.length : Nat) : Int) = 0)) = true then some (-1) else (gi x1 0).bind fun x5 => some x5)
def H5 (x9 : J0) (x8_1 : Int) (x8_0 : Int) (x8_2 : Int) : Nat → Int → Option ((Bool) ⊕ (Unit))
 | 0, _ => none
 | fuel + 1, u11 => (if (decide (u11 < ((x9.length : Nat) : Int))) = true then (gi x9 u11).bind fun x15 => match x15 with | (x15_0, x15_1, x15_2) => (if (bif (decide (x8_1 = x15_1)) then (bif (decide (x8_0 = x15_0)) then true else (decide (x8_2 = x15_2))) else false) = true then some (.inl false) else (H5 x9 x8_1 x8_0 x8_2 fuel (IntKind.i64.wrap (u11 + 1)))) else some (.inr ()))
def I5 (p0_2 : J0) : Nat → Int → Option ((Bool) ⊕ (Unit))
 | 0, _ => none
 | fuel + 1, u4 => (if (decide (u4 < ((p0_2.length : Nat) : Int))) = true then (gi p0_2 u4).bind fun x8 => match x8 with | (x8_0, x8_1, x8_2) => (n06 p0_2 (IntKind.i64.wrap (u4 + 1)) (p0_2.length : Int)).bind fun x9 => (H5 x9 x8_1 x8_0 x8_2 S0 0).bind fun X19 => t0b X19 (fun _ => (I5 p0_2 fuel (IntKind.i64.wrap (u4 + 1)))) else some (.inr ()))
def S5 (p0 : l0) : Option (Bool) := match p0 with | (p0_0, p0_1, p0_2) => (Z4 (p0_0, p0_1, p0_2)).bind fun x1 => (if (!x1) = true then some false else (I5 p0_2 S0 0).bind fun X22 => l7 X22 (fun _ => some true))
def S4 (p2 : O0) (p0_0 : Int) (p0_1 : Int) (p0_2 : J0) : Nat → Int → Int → Option ((Int × Int) ⊕ (Int))
 | 0, _, _ => none
 | fuel + 1, u2, u3 => (if (decide (u3 < ((p2.length : Nat) : Int))) = true then (gi p2 u3).bind fun x7 => (C6 (p0_0, p0_1, p0_2) u2 x7).bind fun x8 => (grd (F0 x8)).bind fun _ => (if (decide (x8 < 0)) = true then some (.inl (u2, u3)) else (S4 p2 p0_0 p0_1 p0_2 fuel x8 (IntKind.i64.wrap (u3 + 1)))) else some (.inr (u2)))
def B8 (p0 : l0) (p1 : Int) (p2 : O0) : Option (Int × Int) := match p0 with | (p0_0, p0_1, p0_2) => (S4 p2 p0_0 p0_1 p0_2 S0 p1 0).bind fun X14 => l7 X14 (fun y12 => some (y12, ((p2.length : Nat) : Int)))
end Go.Proofs.YtfdlgbfeceodeaaGreat
namespace Go.Proofs.YtfdlgbfeceodeaaGreat
open Go.H
set_option linter.unusedVariables false
set_option linter.unusedSimpArgs false
set_option maxRecDepth 10000
def L2 (p0 : l0) : Option (l0) := match p0 with | (p0_0, p0_1, p0_2) => (grd ((([] : J0).length + p0_2.length) * 24 ≤ 140737488355328)).bind fun _ => some (p0_0, p0_1, (([] : J0) ++ p0_2))
def S3 (p0 : J0) (p1_0 : Int) (p1_1 : Int) (p1_2 : Int) : Nat → Bool → Int → (List D0) → Option (Bool × (List D0))
 | 0, _, _, _ => none
 | fuel + 1, u2, u3, u4 => (if (decide (u3 < ((p0.length : Nat) : Int))) = true then (gi p0 u3).bind fun x8 => match x8 with | (x8_0, x8_1, x8_2) => (K6 (p1_0, p1_1, p1_2) (x8_0, x8_1, x8_2)).bind fun x9 => (grd (F0 x9)).bind fun _ => (if (decide (x9 = 0)) = true then (if (bif (decide (x9 < 0)) then (!true) else false) = true then (grd ((u4.length + ([(p1_0, p1_1, p1_2)]).length) * 24 ≤ 140737488355328)).bind fun _ => (gi p0 u3).bind fun x14 => match x14 with | (x14_0, x14_1, x14_2) => (grd (((u4 ++ [(p1_0, p1_1, p1_2)]).length + ([(x14_0, x14_1, x14_2)]).length) * 24 ≤ 140737488355328)).bind fun _ => (S3 p0 p1_0 p1_1 p1_2 fuel true (IntKind.i64.wrap (u3 + 1)) ((u4 ++ [(p1_0, p1_1, p1_2)]) ++ [(x14_0, x14_1, x14_2)])) else (gi p0 u3).bind fun x16 => match x16 with | (x16_0, x16_1, x16_2) => (grd ((u4.length + ([(x16_0, x16_1, x16_2)]).length) * 24 ≤ 140737488355328)).bind fun _ => (S3 p0 p1_0 p1_1 p1_2 fuel true (IntKind.i64.wrap (u3 + 1)) (u4 ++ [(x16_0, x16_1, x16_2)]))) else (if (bif (decide (x9 < 0)) then (!u2) else false) = true then (grd ((u4.length + ([(p1_0, p1_1, p1_2)]).length) * 24 ≤ 140737488355328)).bind fun _ => (gi p0 u3).bind fun x20 => match x20 with | (x20_0, x20_1, x20_2) => (grd (((u4 ++ [(p1_0, p1_1, p1_2)]).length + ([(x20_0, x20_1, x20_2)]).length) * 24 ≤ 140737488355328)).bind fun _ => (S3 p0 p1_0 p1_1 p1_2 fuel true (IntKind.i64.wrap (u3 + 1)) ((u4 ++ [(p1_0, p1_1, p1_2)]) ++ [(x20_0, x20_1, x20_2)])) else (gi p0 u3).bind fun x22 => match x22 with | (x22_0, x22_1, x22_2) => (grd ((u4.length + ([(x22_0, x22_1, x22_2)]).length) * 24 ≤ 140737488355328)).bind fun _ => (S3 p0 p1_0 p1_1 p1_2 fuel u2 (IntKind.i64.wrap (u3 + 1)) (u4 ++ [(x22_0, x22_1, x22_2)])))) else some (u2, u4))
def D6 (p0 : J0) (p1 : D0) : Option (J0) := match p1 with | (p1_0, p1_1, p1_2) => (S3 p0 p1_0 p1_1 p1_2 S0 false 0 ([] : J0)).bind (fun S47 => match S47 with | (y35, y36) => (if (!y35) = true then (grd ((y36.length + ([(p1_0, p1_1, p1_2)]).length) * 24 ≤ 140737488355328)).bind fun _ => some (y36 ++ [(p1_0, p1_1, p1_2)]) else some y36))
def V2 (p0_2 : J0) (p1 : Int) : Nat → Int → Int → Option (Int)
 | 0, _, _ => none
 | fuel + 1, u2, u3 => (if (decide (u3 < ((p0_2.length : Nat) : Int))) = true then (gi p0_2 u3).bind fun x7 => match x7 with | (x7_0, x7_1, x7_2) => (if (decide (x7_0 = p1)) = true then (gi p0_2 u3).bind fun x9 => match x9 with | (x9_0, x9_1, x9_2) => (if (decide (x9_2 = p1)) = true then (V2 p0_2 p1 fuel (IntKind.i64.wrap ((IntKind.i64.wrap (u2 + 1)) + 1)) (IntKind.i64.wrap (u3 + 1))) else (V2 p0_2 p1 fuel (IntKind.i64.wrap (u2 + 1)) (IntKind.i64.wrap (u3 + 1)))) else (gi p0_2 u3).bind fun x11 => match x11 with | (x11_0, x11_1, x11_2) => (if (decide (x11_2 = p1)) = true then (V2 p0_2 p1 fuel (IntKind.i64.wrap (u2 + 1)) (IntKind.i64.wrap (u3 + 1))) else (V2 p0_2 p1 fuel u2 (IntKind.i64.wrap (u3 + 1))))) else some (u2))
def y8 (p0 : l0) (p1 : Int) : Option (Int) := match p0 with | (p0_0, p0_1, p0_2) => (V2 p0_2 p1 S0 0 0).bind (fun y14 => some y14)
def T2 (p0_2 : J0) : Nat → O0 → Int → Option (O0)
 | 0, _, _ => none
 | fuel + 1, u19, u20 => (if (decide (u20 < ((p0_2.length : Nat) : Int))) = true then (gi p0_2 u20).bind fun x24 => match x24 with | (x24_0, x24_1, x24_2) => (K7 u19 x24_0).bind fun x25 => (if x25 = true then (n7 u19 x24_2).bind fun x27 => (K7 x27 x24_2).bind fun x30 => (if x30 = true then (n7 x27 x24_0).bind fun x32 => (T2 p0_2 fuel x32 (IntKind.i64.wrap (u20 + 1))) else (T2 p0_2 fuel x27 (IntKind.i64.wrap (u20 + 1)))) else (K7 u19 x24_2).bind fun x35 => (if x35 = true then (n7 u19 x24_0).bind fun x37 => (T2 p0_2 fuel x37 (IntKind.i64.wrap (u20 + 1))) else (T2 p0_2 fuel u19 (IntKind.i64.wrap (u20 + 1))))) else some (u19))
def H4 (p0_2 : J0) : Nat → O0 → Int → Option (O0)
 | 0, _, _ => none
 | fuel + 1, u13, u14 => (if (decide (u14 < (IntKind.i64.wrap (((p0_2.length : Nat) : Int) + 1)))) = true then (T2 p0_2 S0 u13 0).bind (fun y41 => (H4 p0_2 fuel y41 (IntKind.i64.wrap (u14 + 1)))) else some (u13))
def a8 (p0 : l0) (p1 : Int) : Option (O0) := match p0 with | (p0_0, p0_1, p0_2) => (G3 (p0_0, p0_1, p0_2)).bind fun x1 => (chk (!(!x1)) (i4 p1 0 (IntKind.i64.wrap (p0_1 - 1))) false).bind fun x2 => (if (bif (!x1) then true else (!x2)) = true then some ([] : O0) else (H4 p0_2 S0 [p1] 0).bind (fun y45 => some y45))
def P6 (p0_1 : Int) (p0_0 : Int) (p0_2 : J0) (x1 : O0) : Nat → Int → Option ((Int) ⊕ (Unit))
 | 0, _ => none
 | fuel + 1, u5 => (if (decide (u5 < p0_1)) = true then (y8 (p0_0, p0_1, p0_2) u5).bind fun x9 => (grd (F0 x9)).bind fun _ => (chk (!(decide (x9 < 2))) (K7 x1 u5) false).bind fun x11 => (if (bif (decide (x9 < 2)) then true else (!x11)) = true then some (.inl u5) else (P6 p0_1 p0_0 p0_2 x1 fuel (IntKind.i64.wrap (u5 + 1)))) else some (.inr ()))
def t00 (p0 : l0) : Option (Int) := match p0 with | (p0_0, p0_1, p0_2) => (a8 (p0_0, p0_1, p0_2) 0).bind fun x1 => (P6 p0_1 p0_0 p0_2 x1 S0 1).bind fun X15 => l7 X15 (fun _ => some (-1))
def A3 (p0_2 : J0) (u9 : (List Int)) : Nat → Int → Int → Int → J0 → Option (Int × Int × J0)
 | 0, _, _, _, _ => none
 | fuel + 1, u24, u25, u26, u27 => (if (decide (u24 < ((p0_2.length : Nat) : Int))) = true then (gi p0_2 u24).bind fun x31 => match x31 with | (x31_0, x31_1, x31_2) => (gi u9 x31_0).bind fun x32 => (chk (decide (x32 > 0)) (gi u9 x31_2) 0).bind fun x33 => (if (bif (decide (x32 > 0)) then (decide (x33 > 0)) else false) = true then (gi u9 x31_0).bind fun x35 => (gi u9 x31_2).bind fun x42 => (D6 u27 ((IntKind.i64.wrap (x35 - 1)), x31_1, (IntKind.i64.wrap (x42 - 1)))).bind fun x51 => (A3 p0_2 u9 fuel (IntKind.i64.wrap (u24 + 1)) u25 u26 x51) else (A3 p0_2 u9 fuel (IntKind.i64.wrap (u24 + 1)) u25 u26 u27)) else some (u25, u26, u27))
def T3 (p1 : O0) (p0_1 : Int) (p0_0 : Int) (p0_2 : J0) : Nat → Int → (List Int) → Option ((l0 × Bool) ⊕ ((List Int)))
 | 0, _, _ => none
 | fuel + 1, u8, u9 => (if (decide (u8 < ((p1.length : Nat) : Int))) = true then (gi p1 u8).bind fun x13 => (i4 x13 0 (IntKind.i64.wrap (p0_1 - 1))).bind fun x14 => (chk (!(!x14)) (gi p1 u8) 0).bind fun x15 => (chk (!(!x14)) (gi u9 x15) 0).bind fun x16 => (if (bif (!x14) then true else (!decide (x16 = 0))) = true then (L2 (p0_0, p0_1, p0_2)).bind fun x18 => match x18 with | (x18_0, x18_1, x18_2) => some (.inl ((x18_0, x18_1, x18_2), false)) else (gi p1 u8).bind fun x21 => (gi u9 x21).bind fun x22 => (T3 p1 p0_1 p0_0 p0_2 fuel (IntKind.i64.wrap (u8 + 1)) (u9.set x21.toNat (IntKind.i64.wrap (u8 + 1))))) else some (.inr (u9)))
def g6 (p0 : l0) (p1 : O0) : Option (l0 × Bool) := match p0 with | (p0_0, p0_1, p0_2) => (G3 (p0_0, p0_1, p0_2)).bind fun x1 => (if (bif (bif (!x1) then true else (decide (((p1.length : Nat) : Int) = 0))) then true else (decide (((p1.length : Nat) : Int) > p0_1))) = true then (L2 (p0_0, p0_1, p0_2)).bind fun x3 => match x3 with | (x3_0, x3_1, x3_2) => some ((x3_0, x3_1, x3_2), false) else (grd ((0 : Int) ≤ p0_1 ∧ p0_1 ≤ p0_1 ∧ p0_1 * 8 ≤ 140737488355328 ∧ p0_1 ≤ 9223372036854775807)).bind fun _ => (T3 p1 p0_1 p0_0 p0_2 S0 0 (List.replicate p0_1.toNat (0 : Int))).bind fun X100 => l7 X100 (fun y61 => (A3 p0_2 y61 S0 0 p0_0 ((p1.length : Nat) : Int) ([] : J0)).bind (fun S97 => match S97 with | (y94, y95, y96) => some ((y94, y95, y96), true))))
def c5 (p0 : Int) : Nat → Int → (List Int) → Option ((List Int))
 | 0, _, _ => none
 | fuel + 1, u2, u3 => (if (decide (u2 ≤ p0)) = true then (grd ((u3.length + [u2].length) * 8 ≤ 140737488355328)).bind fun _ => (grd (((u3 ++ [u2]).length + ([(IntKind.i64.wrap (0 - u2))]).length) * 8 ≤ 140737488355328)).bind fun _ => (c5 p0 fuel (IntKind.i64.wrap (u2 + 1)) ((u3 ++ [u2]) ++ [(IntKind.i64.wrap (0 - u2))])) else some (u3))
def Z6 (p0 : Int) : Option (O0) := (c5 p0 S0 1 ([] : O0)).bind (fun y14 => some y14)
def X2 (x7 : O0) (u11 : Int) (p0_0 : Int) (p0_1 : Int) (p0_2 : J0) : Nat → Int → (List Int) → Option ((List Int))
 | 0, _, _ => none
 | fuel + 1, u19, u20 => (if (decide (u19 < ((x7.length : Nat) : Int))) = true then (gi u20 u11).bind fun x24 => (gi x7 u19).bind fun x25 => (B6 (p0_0, p0_1, p0_2) x24 x25).bind fun x26 => (grd (F0 x26)).bind fun _ => (chk (decide (x26 ≥ 0)) (K7 u20 x26) false).bind fun x28 => (if (bif (decide (x26 ≥ 0)) then (!x28) else false) = true then (grd ((u20.length + [x26].length) * 8 ≤ 140737488355328)).bind fun _ => (X2 x7 u11 p0_0 p0_1 p0_2 fuel (IntKind.i64.wrap (u19 + 1)) (u20 ++ [x26])) else (X2 x7 u11 p0_0 p0_1 p0_2 fuel (IntKind.i64.wrap (u19 + 1)) u20)) else some (u20))
def B4 (x7 : O0) (p0_0 : Int) (p0_1 : Int) (p0_2 : J0) : Nat → Int → (List Int) → Option ((List Int))
 | 0, _, _ => none
 | fuel + 1, u11, u12 => (some u12.length).bind fun m15 => (grd (m15 ≤ 9223372036854775807)).bind fun _ => (if (decide (u11 < ((m15 : Nat) : Int))) = true then (X2 x7 u11 p0_0 p0_1 p0_2 S0 0 u12).bind (fun y36 => (B4 x7 p0_0 p0_1 p0_2 fuel (IntKind.i64.wrap (u11 + 1)) y36)) else some (u12))
def R6 (p0 : l0) : Option (O0) := match p0 with | (p0_0, p0_1, p0_2) => (R5 (p0_0, p0_1, p0_2)).bind fun x1 => (if (!x1) = true then some ([] : O0) else (Z6 p0_0).bind fun x7 => (B4 x7 p0_0 p0_1 p0_2 S0 0 [0]).bind (fun y44 => some y44))
def S6 (p0 : l0) : Option (l0) := match p0 with | (p0_0, p0_1, p0_2) => (R6 (p0_0, p0_1, p0_2)).bind fun x1 => (if (decide (((x1.length : Nat) : Int) = 0)) = true then (L2 (p0_0, p0_1, p0_2)).bind fun x5 => match x5 with | (x5_0, x5_1, x5_2) => some (x5_0, x5_1, x5_2) else (g6 (p0_0, p0_1, p0_2) x1).bind fun x8 => match x8 with | (x8_0, x8_1) => match x8_0 with | (x8_0_0, x8_0_1, x8_0_2) => some (x8_0_0, x8_0_1, x8_0_2))
end Go.Proofs.YtfdlgbfeceodeaaGreat
namespace Go.Proofs.YtfdlgbfeceodeaaGreat
open Go.H
set_option linter.unusedVariables false
set_option linter.unusedSimpArgs false
set_option maxRecDepth 10000
def V1 (p0 : l0) : Option (l0) := match p0 with | (p0_0, p0_1, p0_2) => (grd ((([] : J0).length + p0_2.length) * 24 ≤ 140737488355328)).bind fun _ => some (p0_0, p0_1, (([] : J0) ++ p0_2))
def G4 (p0_2 : J0) (p1 : Int) : Nat → Int → Int → Option (Int)
 | 0, _, _ => none
 | fuel + 1, u2, u3 => (if (decide (u3 < ((p0_2.length : Nat) : Int))) = true then (gi p0_2 u3).bind fun x7 => match x7 with | (x7_0, x7_1, x7_2) => (if (decide (x7_0 = p1)) = true then (if (decide (x7_2 = p1)) = true then (G4 p0_2 p1 fuel (IntKind.i64.wrap ((IntKind.i64.wrap (u2 + 1)) + 1)) (IntKind.i64.wrap (u3 + 1))) else (G4 p0_2 p1 fuel (IntKind.i64.wrap (u2 + 1)) (IntKind.i64.wrap (u3 + 1)))) else (if (decide (x7_2 = p1)) = true then (G4 p0_2 p1 fuel (IntKind.i64.wrap (u2 + 1)) (IntKind.i64.wrap (u3 + 1))) else (G4 p0_2 p1 fuel u2 (IntKind.i64.wrap (u3 + 1))))) else some (u2))
def g9 (p0 : l0) (p1 : Int) : Option (Int) := match p0 with | (p0_0, p0_1, p0_2) => (G4 p0_2 p1 S0 0 0).bind (fun y12 => some y12)
def L3 (p0_2 : J0) : Nat → Bool → Int → (List Bool) → Option (Bool × (List Bool))
 | 0, _, _, _ => none
 | fuel + 1, u10, u11, u12 => (if (decide (u11 < ((p0_2.length : Nat) : Int))) = true then (gi p0_2 u11).bind fun x16 => match x16 with | (x16_0, x16_1, x16_2) => (gi u12 x16_0).bind fun x17 => (gi u12 x16_2).bind fun x18 => (if (!(x17 == x18)) = true then (gi u12 x16_0).bind fun x20 => (gi (u12.set x16_0.toNat true) x16_2).bind fun x21 => (L3 p0_2 fuel true (IntKind.i64.wrap (u11 + 1)) ((u12.set x16_0.toNat true).set x16_2.toNat true)) else (L3 p0_2 fuel u10 (IntKind.i64.wrap (u11 + 1)) u12)) else some (u10, u12))
def j4 (p0_2 : J0) : Nat → Bool → (List Bool) → Option ((List Bool))
 | 0, _, _ => none
 | fuel + 1, u4, u5 => (if u4 = true then (L3 p0_2 S0 false 0 u5).bind (fun S25 => match S25 with | (y23, y24) => (j4 p0_2 fuel y23 y24)) else some (u5))
def J7 (p0 : l0) (p1 : Int) : Option ((List Bool)) := match p0 with | (p0_0, p0_1, p0_2) => (grd ((0 : Int) ≤ p0_1 ∧ p0_1 ≤ p0_1 ∧ p0_1 * 1 ≤ 140737488355328 ∧ p0_1 ≤ 9223372036854775807)).bind fun _ => (gi (List.replicate p0_1.toNat (false : Bool)) p1).bind fun x2 => (j4 p0_2 S0 true ((List.replicate p0_1.toNat (false : Bool)).set p1.toNat true)).bind (fun y32 => some y32)
def i6 (p0 : Int) : Nat → Int → (List Int) → Option ((List Int))
 | 0, _, _ => none
 | fuel + 1, u2, u3 => (if (decide (u2 ≤ p0)) = true then (grd ((u3.length + ([u2, (IntKind.i64.wrap (0 - u2))]).length) * 8 ≤ 140737488355328)).bind fun _ => (i6 p0 fuel (IntKind.i64.wrap (u2 + 1)) (u3 ++ [u2, (IntKind.i64.wrap (0 - u2))])) else some (u3))
def c8 (p0 : Int) : Option (O0) := (i6 p0 S0 1 ([] : O0)).bind (fun y13 => some y13)
def L7 (p0 : J0) : Option (J0) := (grd ((([] : J0).length + p0.length) * 24 ≤ 140737488355328)).bind fun _ => (grd ((([] : J0) ++ p0).length < 4611686018427387904)).bind fun _ => some (Z00 eqE (q03 K0 (([] : J0) ++ p0)))
def o7 (p0_2 : J0) (u13 : (List Int)) : Nat → Int → Int → Int → (List D0) → Option (Int × Int × (List D0))
 | 0, _, _, _, _ => none
 | fuel + 1, u20, u21, u22, u23 => (if (decide (u20 < ((p0_2.length : Nat) : Int))) = true then (gi p0_2 u20).bind fun x27 => match x27 with | (x27_0, x27_1, x27_2) => (gi u13 x27_0).bind fun x28 => (chk (decide (x28 ≥ 0)) (gi u13 x27_2) 0).bind fun x29 => (if (bif (decide (x28 ≥ 0)) then (decide (x29 ≥ 0)) else false) = true then (gi u13 x27_0).bind fun x31 => (gi u13 x27_2).bind fun x36 => (grd ((u23.length + ([(x31, x27_1, x36)]).length) * 24 ≤ 140737488355328)).bind fun _ => (o7 p0_2 u13 fuel (IntKind.i64.wrap (u20 + 1)) u21 u22 (u23 ++ [(x31, x27_1, x36)])) else (o7 p0_2 u13 fuel (IntKind.i64.wrap (u20 + 1)) u21 u22 u23)) else some (u21, u22, u23))
def M7 (p1 : O0) : Nat → Int → (List Int) → Option ((List Int))
 | 0, _, _ => none
 | fuel + 1, u12, u13 => (if (decide (u12 < ((p1.length : Nat) : Int))) = true then (gi p1 u12).bind fun x17 => (gi u13 x17).bind fun x18 => (M7 p1 fuel (IntKind.i64.wrap (u12 + 1)) (u13.set x17.toNat u12)) else some (u13))
def N7 (m2 : Nat) : Nat → Int → (List Int) → Option ((List Int))
 | 0, _, _ => none
 | fuel + 1, u5, u6 => (if (decide (u5 < ((m2 : Nat) : Int))) = true then (gi u6 u5).bind fun x10 => (N7 m2 fuel (IntKind.i64.wrap (u5 + 1)) (u6.set u5.toNat (-1))) else some (u6))
def G00 (p0 : l0) (p1 : O0) : Option (l0) := match p0 with | (p0_0, p0_1, p0_2) => (grd ((0 : Int) ≤ p0_1 ∧ p0_1 ≤ p0_1 ∧ p0_1 * 8 ≤ 140737488355328 ∧ p0_1 ≤ 9223372036854775807)).bind fun _ => (some (List.replicate p0_1.toNat (0 : Int)).length).bind fun m2 => (grd (m2 ≤ 9223372036854775807)).bind fun _ => (N7 m2 S0 0 (List.replicate p0_1.toNat (0 : Int))).bind (fun y114 => (M7 p1 S0 0 y114).bind (fun y169 => (o7 p0_2 y169 S0 0 p0_0 ((p1.length : Nat) : Int) ([] : J0)).bind (fun S213 => match S213 with | (y203, y204, y205) => (L7 y205).bind fun x210 => some (y203, y204, x210))))
end Go.Proofs.YtfdlgbfeceodeaaGreat
namespace Go.Proofs.YtfdlgbfeceodeaaGreat
open Go.H
set_option linter.unusedVariables false
set_option linter.unusedSimpArgs false
set_option maxRecDepth 10000
def i9 (p0 : O0) : Option (O0) := (grd ((([] : O0).length + p0.length) * 8 ≤ 140737488355328)).bind fun _ => some (([] : O0) ++ p0)
def A4 (x17 : O0) (p0_0 : Int) (p0_1 : Int) (p0_2 : J0) (x16 : Int) : Nat → Int → (List (Option O0)) → (List Int) → Option ((List (Option O0)) × (List Int))
 | 0, _, _, _ => none
 | fuel + 1, u21, u22, u23 => (if (decide (u21 < ((x17.length : Nat) : Int))) = true then (gi x17 u21).bind fun x27 => (C6 (p0_0, p0_1, p0_2) x16 x27).bind fun x28 => (grd (F0 x28)).bind fun _ => (chk (decide (x28 ≥ 0)) (gi u22 x28) (none : Option O0)).bind fun x30 => (if (bif (decide (x28 ≥ 0)) then x30.isNone else false) = true then (gi u22 x16).bind fun x32 => (i9 (x32.getD [])).bind fun x33 => (grd ((x33.length + [x27].length) * 8 ≤ 140737488355328)).bind fun _ => (gi u22 x28).bind fun x38 => (grd ((u23.length + [x28].length) * 8 ≤ 140737488355328)).bind fun _ => (A4 x17 p0_0 p0_1 p0_2 x16 fuel (IntKind.i64.wrap (u21 + 1)) (u22.set x28.toNat (some (x33 ++ [x27]))) (u23 ++ [x28])) else (A4 x17 p0_0 p0_1 p0_2 x16 fuel (IntKind.i64.wrap (u21 + 1)) u22 u23)) else some (u22, u23))
def C5 (p0_0 : Int) (p0_1 : Int) (p0_2 : J0) : Nat → Int → (List (Option O0)) → (List Int) → Option ((List (Option O0)) × (List Int))
 | 0, _, _, _ => none
 | fuel + 1, u8, u9, u10 => (some u10.length).bind fun m13 => (grd (m13 ≤ 9223372036854775807)).bind fun _ => (if (decide (u8 < ((m13 : Nat) : Int))) = true then (gi u10 u8).bind fun x16 => (c8 p0_0).bind fun x17 => (A4 x17 p0_0 p0_1 p0_2 x16 S0 0 u9 u10).bind (fun S43 => match S43 with | (y41, y42) => (C5 p0_0 p0_1 p0_2 fuel (IntKind.i64.wrap (u8 + 1)) y41 y42)) else some (u9, u10))
def O9 (p0 : l0) (p1 : Int) : Option (O0 × j3) := match p0 with | (p0_0, p0_1, p0_2) => (grd ((0 : Int) ≤ p0_1 ∧ p0_1 ≤ p0_1 ∧ p0_1 * 24 ≤ 140737488355328 ∧ p0_1 ≤ 9223372036854775807)).bind fun _ => (gi (List.replicate p0_1.toNat (none : Option O0)) p1).bind fun x2 => (C5 p0_0 p0_1 p0_2 S0 0 ((List.replicate p0_1.toNat (none : Option O0)).set p1.toNat (some ([] : O0))) [p1]).bind (fun S64 => match S64 with | (y54, y55) => some (y55, (List.map (fun o : Option O0 => o.getD ([] : O0)) y54)))
def T6 (p0 : l0) : Option (O0) := match p0 with | (p0_0, p0_1, p0_2) => (S5 (p0_0, p0_1, p0_2)).bind fun x1 => (if (!x1) = true then some ([] : O0) else (O9 (p0_0, p0_1, p0_2) 0).bind fun x7 => match x7 with | (x7_0, x7_1) => some x7_0)
def U6 (p0 : l0) : Option (l0) := match p0 with | (p0_0, p0_1, p0_2) => (S5 (p0_0, p0_1, p0_2)).bind fun x1 => (if (!x1) = true then (V1 (p0_0, p0_1, p0_2)).bind fun x3 => match x3 with | (x3_0, x3_1, x3_2) => some (x3_0, x3_1, x3_2) else (T6 (p0_0, p0_1, p0_2)).bind fun x6 => (G00 (p0_0, p0_1, p0_2) x6).bind fun x9 => match x9 with | (x9_0, x9_1, x9_2) => some (x9_0, x9_1, x9_2))
end Go.Proofs.YtfdlgbfeceodeaaGreat
namespace Go.Proofs.YtfdlgbfeceodeaaGreat
open Go.H
set_option linter.unusedVariables false
set_option linter.unusedSimpArgs false
set_option maxRecDepth 10000
def L4 (u25 : Int) (u33 : Int) : Nat → Int → (List Int) → Option ((List Int))
 | 0, _, _ => none
 | fuel + 1, u44, u45 => (if (decide (u44 < u25)) = true then (if (!decide (u44 = u33)) = true then (grd ((u45.length + [u44].length) * 8 ≤ 140737488355328)).bind fun _ => (L4 u25 u33 fuel (IntKind.i64.wrap (u44 + 1)) (u45 ++ [u44])) else (L4 u25 u33 fuel (IntKind.i64.wrap (u44 + 1)) u45)) else some (u45))
def K3 (u25 : Int) (u24 : Int) (u26 : J0) (x29 : (List Bool)) : Nat → Int → Int → Option (Int)
 | 0, _, _ => none
 | fuel + 1, u33, u34 => (if (bif (decide (u34 < u25)) then (decide (u33 = 0)) else false) = true then (g9 (u24, u25, u26) u34).bind fun x38 => (grd (F0 x38)).bind fun _ => (chk (!(decide (x38 < 2))) (gi x29 u34) false).bind fun x40 => (if (bif (decide (x38 < 2)) then true else (!x40)) = true then (K3 u25 u24 u26 x29 fuel u34 (IntKind.i64.wrap (u34 + 1))) else (K3 u25 u24 u26 x29 fuel u33 (IntKind.i64.wrap (u34 + 1)))) else some (u33))
def W5 : Nat → O0 → Int → Int → J0 → Option ((l0 × O0) ⊕ (Int × Int × J0))
 | 0, _, _, _, _ => none
 | fuel + 1, u23, u24, u25, u26 => (J7 (u24, u25, u26) 0).bind fun x29 => (K3 u25 u24 u26 x29 S0 0 1).bind (fun y86 => (if (decide (y86 = 0)) = true then some (.inl ((u24, u25, u26), u23)) else (L4 u25 y86 S0 0 ([] : O0)).bind (fun y112 => (G00 (u24, u25, u26) y112).bind fun x117 => match x117 with | (x117_0, x117_1, x117_2) => (n06 u23 0 y86).bind fun x123 => (n06 u23 (IntKind.i64.wrap (y86 + 1)) (u23.length : Int)).bind fun x124 => (grd ((x123.length + x124.length) * 8 ≤ 140737488355328)).bind fun _ => (W5 fuel (x123 ++ x124) x117_0 x117_1 x117_2))))
def d5 (p0_1 : Int) : Nat → Int → (List Int) → Option ((List Int))
 | 0, _, _ => none
 | fuel + 1, u12, u13 => (if (decide (u12 < p0_1)) = true then (grd ((u13.length + [u12].length) * 8 ≤ 140737488355328)).bind fun _ => (d5 p0_1 fuel (IntKind.i64.wrap (u12 + 1)) (u13 ++ [u12])) else some (u13))
def O8 (p0 : l0) : Option (l0 × O0) := match p0 with | (p0_0, p0_1, p0_2) => (V1 (p0_0, p0_1, p0_2)).bind fun x1 => match x1 with | (x1_0, x1_1, x1_2) => (Z4 (p0_0, p0_1, p0_2)).bind fun x5 => (if (!x5) = true then some ((x1_0, x1_1, x1_2), ([] : O0)) else (d5 p0_1 S0 0 ([] : O0)).bind (fun y134 => (W5 S0 y134 x1_0 x1_1 x1_2).bind fun X249 => l7 X249 (fun _ => none)))
end Go.Proofs.YtfdlgbfeceodeaaGreat
namespace Go.Proofs.YtfdlgbfeceodeaaGreat
open Go.H
set_option linter.unusedVariables false
set_option linter.unusedSimpArgs false
set_option maxRecDepth 10000
def j9 (p0 : Int) : Option (l0 × Bool) := (i4 p0 1 3).bind fun x1 => (if (!x1) = true then some ((0, 0, []), false) else some ((p0, 1, []), true))
def D4 (p2 : O0) (p3 : Int) : Nat → Int → Int → Int → Int → J0 → Option (Int × Int × J0)
 | 0, _, _, _, _, _ => none
 | fuel + 1, u10, u11, u12, u13, u14 => (if (decide (u11 < ((p2.length : Nat) : Int))) = true then (if (decide ((IntKind.i64.wrap (u11 + 1)) < ((p2.length : Nat) : Int))) = true then (gi p2 u11).bind fun x19 => (if (decide (x19 > 0)) = true then (gi p2 u11).bind fun x21 => (D6 u14 (u10, x21, u13)).bind fun x28 => (D4 p2 p3 fuel u13 (IntKind.i64.wrap (u11 + 1)) u12 (IntKind.i64.wrap (u13 + 1)) x28) else (gi p2 u11).bind fun x31 => (D6 u14 (u13, (IntKind.i64.wrap (0 - x31)), u10)).bind fun x40 => (D4 p2 p3 fuel u13 (IntKind.i64.wrap (u11 + 1)) u12 (IntKind.i64.wrap (u13 + 1)) x40)) else (gi p2 u11).bind fun x43 => (if (decide (x43 > 0)) = true then (gi p2 u11).bind fun x45 => (D6 u14 (u10, x45, p3)).bind fun x52 => (D4 p2 p3 fuel p3 (IntKind.i64.wrap (u11 + 1)) u12 u13 x52) else (gi p2 u11).bind fun x55 => (D6 u14 (p3, (IntKind.i64.wrap (0 - x55)), u10)).bind fun x64 => (D4 p2 p3 fuel p3 (IntKind.i64.wrap (u11 + 1)) u12 u13 x64))) else some (u12, u13, u14))
def d8 (p0 : l0) (p1 : Int) (p2 : O0) (p3 : Int) : Option (l0 × Bool) := match p0 with | (p0_0, p0_1, p0_2) => (L2 (p0_0, p0_1, p0_2)).bind fun x1 => match x1 with | (x1_0, x1_1, x1_2) => (G3 (p0_0, p0_1, p0_2)).bind fun x4 => (chk (!(!x4)) (i4 p1 0 (IntKind.i64.wrap (p0_1 - 1))) false).bind fun x5 => (chk (!(bif (!x4) then true else (!x5))) (i4 p3 0 (IntKind.i64.wrap (p0_1 - 1))) false).bind fun x6 => (chk (!(bif (bif (!x4) then true else (!x5)) then true else (!x6))) (B9 p0_0 p2) false).bind fun x7 => (if (bif (bif (bif (bif (bif (bif (!x4) then true else (!x5)) then true else (!x6)) then true else (!x7)) then true else (decide (((p2.length : Nat) : Int) = 0))) then true else (decide ((IntKind.i64.wrap ((IntKind.i64.wrap (p0_1 + ((p2.length : Nat) : Int))) - 1)) > 40))) then true else (decide ((IntKind.i64.wrap (((p0_2.length : Nat) : Int) + ((p2.length : Nat) : Int))) > 120))) = true then some ((x1_0, x1_1, x1_2), false) else (D4 p2 p3 S0 p1 0 x1_0 x1_1 x1_2).bind (fun S71 => match S71 with | (y68, y69, y70) => some ((y68, y69, y70), true)))
def l9 (p0 : l0) (p1 : O0) : Option (l0 × Bool) := match p0 with | (p0_0, p0_1, p0_2) => (d8 (p0_0, p0_1, p0_2) 0 p1 0).bind fun x1 => match x1 with | (x1_0, x1_1) => match x1_0 with | (x1_0_0, x1_0_1, x1_0_2) => some ((x1_0_0, x1_0_1, x1_0_2), x1_1)
def J5 (p1 : j3) : Nat → Int → Int → Int → J0 → Option (Int × Int × J0)
 | 0, _, _, _, _ => none
 | fuel + 1, u7, u8, u9, u10 => (if (decide (u7 < ((p1.length : Nat) : Int))) = true then (gi p1 u7).bind fun x14 => (l9 (u8, u9, u10) x14).bind fun x19 => match x19 with | (x19_0, x19_1) => match x19_0 with | (x19_0_0, x19_0_1, x19_0_2) => (J5 p1 fuel (IntKind.i64.wrap (u7 + 1)) x19_0_0 x19_0_1 x19_0_2) else some (u8, u9, u10))
def n9 (p0 : Int) (p1 : j3) : Option (l0 × Bool) := (t8 p0 p1).bind fun x1 => (if (!x1) = true then some ((0, 0, []), false) else (j9 p0).bind fun x3 => match x3 with | (x3_0, x3_1) => match x3_0 with | (x3_0_0, x3_0_1, x3_0_2) => (J5 p1 S0 0 x3_0_0 x3_0_1 x3_0_2).bind (fun S40 => match S40 with | (y37, y38, y39) => some ((y37, y38, y39), true)))
def Q3 (p0_2 : J0) (u2 : Int) : Nat → Int → (List f4) → Option ((List f4))
 | 0, _, _ => none
 | fuel + 1, u8, u9 => (if (decide (u8 < ((p0_2.length : Nat) : Int))) = true then (gi p0_2 u2).bind fun x13 => match x13 with | (x13_0, x13_1, x13_2) => (gi p0_2 u8).bind fun x14 => match x14 with | (x14_0, x14_1, x14_2) => (if (bif (decide (x13_1 = x14_1)) then (decide (x13_0 = x14_0)) else false) = true then (grd ((u9.length + ([((if x14_2 < x13_2 then x14_2 else x13_2), (if x14_2 > x13_2 then x14_2 else x13_2))]).length) * 16 ≤ 140737488355328)).bind fun _ => (if (bif (decide (x13_1 = x14_1)) then (decide (x13_2 = x14_2)) else false) = true then (grd (((u9 ++ [((if x14_2 < x13_2 then x14_2 else x13_2), (if x14_2 > x13_2 then x14_2 else x13_2))]).length + ([((if x14_0 < x13_0 then x14_0 else x13_0), (if x14_0 > x13_0 then x14_0 else x13_0))]).length) * 16 ≤ 140737488355328)).bind fun _ => (Q3 p0_2 u2 fuel (IntKind.i64.wrap (u8 + 1)) ((u9 ++ [((if x14_2 < x13_2 then x14_2 else x13_2), (if x14_2 > x13_2 then x14_2 else x13_2))]) ++ [((if x14_0 < x13_0 then x14_0 else x13_0), (if x14_0 > x13_0 then x14_0 else x13_0))])) else (Q3 p0_2 u2 fuel (IntKind.i64.wrap (u8 + 1)) (u9 ++ [((if x14_2 < x13_2 then x14_2 else x13_2), (if x14_2 > x13_2 then x14_2 else x13_2))]))) else (if (bif (decide (x13_1 = x14_1)) then (decide (x13_2 = x14_2)) else false) = true then (grd ((u9.length + ([((if x14_0 < x13_0 then x14_0 else x13_0), (if x14_0 > x13_0 then x14_0 else x13_0))]).length) * 16 ≤ 140737488355328)).bind fun _ => (Q3 p0_2 u2 fuel (IntKind.i64.wrap (u8 + 1)) (u9 ++ [((if x14_0 < x13_0 then x14_0 else x13_0), (if x14_0 > x13_0 then x14_0 else x13_0))])) else (Q3 p0_2 u2 fuel (IntKind.i64.wrap (u8 + 1)) u9))) else some (u9))
def j6 (p0_2 : J0) : Nat → Int → (List f4) → Option ((List f4))
 | 0, _, _ => none
 | fuel + 1, u2, u3 => (if (decide (u2 < ((p0_2.length : Nat) : Int))) = true then (Q3 p0_2 u2 S0 (IntKind.i64.wrap (u2 + 1)) u3).bind (fun y22 => (j6 p0_2 fuel (IntKind.i64.wrap (u2 + 1)) y22)) else some (u3))
def c00 (p0 : l0) : Option (z7) := match p0 with | (p0_0, p0_1, p0_2) => (j6 p0_2 S0 0 ([] : z7)).bind (fun y30 => some y30)
def P7 (p0 : l0) : Option (f4 × Bool) := match p0 with | (p0_0, p0_1, p0_2) => (G3 (p0_0, p0_1, p0_2)).bind fun x1 => (if (!x1) = true then some ((0, 0), false) else (c00 (p0_0, p0_1, p0_2)).bind fun x3 => (if (decide (((x3.length : Nat) : Int) = 0)) = true then some ((0, 0), false) else (gi x3 0).bind fun x7 => match x7 with | (x7_0, x7_1) => some ((x7_0, x7_1), true)))
def m00 (p0 : Int) (p1 : f4) : Option (Int) := match p1 with | (p1_0, p1_1) => (if (decide (p0 = p1_1)) = true then (if (decide (p1_0 > p1_1)) = true then some (IntKind.i64.wrap (p1_0 - 1)) else some p1_0) else (if (decide (p0 > p1_1)) = true then some (IntKind.i64.wrap (p0 - 1)) else some p0))
def U3 (p0_2 : J0) (p1_0 : Int) (p1_1 : Int) : Nat → Int → Int → Int → J0 → Option (Int × Int × J0)
 | 0, _, _, _, _ => none
 | fuel + 1, u7, u8, u9, u10 => (if (decide (u7 < ((p0_2.length : Nat) : Int))) = true then (gi p0_2 u7).bind fun x14 => match x14 with | (x14_0, x14_1, x14_2) => (m00 x14_0 (p1_0, p1_1)).bind fun x15 => (grd (F0 x15)).bind fun q16 => (m00 x14_2 (p1_0, p1_1)).bind fun x19 => (grd (F0 x19)).bind fun q20 => (D6 u10 (x15, x14_1, x19)).bind fun x25 => (U3 p0_2 p1_0 p1_1 fuel (IntKind.i64.wrap (u7 + 1)) u8 u9 x25) else some (u8, u9, u10))
def l6 (p0 : l0) (p1 : f4) : Option (l0 × Bool) := match p0 with | (p0_0, p0_1, p0_2) => match p1 with | (p1_0, p1_1) => (G3 (p0_0, p0_1, p0_2)).bind fun x1 => (if (bif (bif (bif (!x1) then true else (decide (p1_0 < 0))) then true else (decide (p1_0 ≥ p1_1))) then true else (decide (p1_1 ≥ p0_1))) = true then (L2 (p0_0, p0_1, p0_2)).bind fun x3 => match x3 with | (x3_0, x3_1, x3_2) => some ((x3_0, x3_1, x3_2), false) else (U3 p0_2 p1_0 p1_1 S0 0 p0_0 (IntKind.i64.wrap (p0_1 - 1)) ([] : J0)).bind (fun S32 => match S32 with | (y29, y30, y31) => some ((y29, y30, y31), true)))
def o9 (p0 : l0) : Option (l0 × f4 × Bool) := match p0 with | (p0_0, p0_1, p0_2) => (P7 (p0_0, p0_1, p0_2)).bind fun x1 => match x1 with | (x1_0, x1_1) => match x1_0 with | (x1_0_0, x1_0_1) => (if (!x1_1) = true then (L2 (p0_0, p0_1, p0_2)).bind fun x5 => match x5 with | (x5_0, x5_1, x5_2) => some ((x5_0, x5_1, x5_2), (0, 0), false) else (l6 (p0_0, p0_1, p0_2) (x1_0_0, x1_0_1)).bind fun x8 => match x8 with | (x8_0, x8_1) => match x8_0 with | (x8_0_0, x8_0_1, x8_0_2) => some ((x8_0_0, x8_0_1, x8_0_2), (x1_0_0, x1_0_1), true))
def o5 : Nat → Int → Int → Int → J0 → (List f4) → Option ((l0 × z7) ⊕ (Int × Int × J0 × (List f4)))
 | 0, _, _, _, _, _ => none
 | fuel + 1, u5, u6, u7, u8, u9 => (if (decide (u5 < 40)) = true then (o9 (u6, u7, u8)).bind fun x13 => match x13 with | (x13_0, x13_1, x13_2) => match x13_0 with | (x13_0_0, x13_0_1, x13_0_2) => match x13_1 with | (x13_1_0, x13_1_1) => (if (!x13_2) = true then some (.inl ((u6, u7, u8), u9)) else (grd ((u9.length + ([(x13_1_0, x13_1_1)]).length) * 16 ≤ 140737488355328)).bind fun _ => (o5 fuel (IntKind.i64.wrap (u5 + 1)) x13_0_0 x13_0_1 x13_0_2 (u9 ++ [(x13_1_0, x13_1_1)]))) else some (.inr (u6, u7, u8, u9)))
def E6 (p0 : l0) : Option (l0 × z7) := match p0 with | (p0_0, p0_1, p0_2) => (L2 (p0_0, p0_1, p0_2)).bind fun x1 => match x1 with | (x1_0, x1_1, x1_2) => (o5 S0 0 x1_0 x1_1 x1_2 ([] : z7)).bind fun X36 => l7 X36 (fun S35 => match S35 with | (y27, y28, y29, y30) => some ((y27, y28, y29), y30))
def Q7 (p0 : l0) : Option (l0 × Bool) := match p0 with | (p0_0, p0_1, p0_2) => (L2 (p0_0, p0_1, p0_2)).bind fun x1 => match x1 with | (x1_0, x1_1, x1_2) => (G3 (p0_0, p0_1, p0_2)).bind fun x4 => (if (bif (!x4) then true else (decide (p0_1 ≥ 40))) = true then some ((x1_0, x1_1, x1_2), false) else some ((x1_0, (IntKind.i64.wrap (p0_1 + 1)), x1_2), true))
def f8 (p0 : l0) (p1 : D0) : Option (l0 × Bool) := match p0 with | (p0_0, p0_1, p0_2) => match p1 with | (p1_0, p1_1, p1_2) => (L2 (p0_0, p0_1, p0_2)).bind fun x1 => match x1 with | (x1_0, x1_1, x1_2) => (G3 (p0_0, p0_1, p0_2)).bind fun x4 => (chk (!(!x4)) (D9 (p0_0, p0_1, p0_2) (p1_0, p1_1, p1_2)) false).bind fun x5 => (if (bif (bif (!x4) then true else (!x5)) then true else (decide (((p0_2.length : Nat) : Int) ≥ 120))) = true then some ((x1_0, x1_1, x1_2), false) else (D6 p0_2 (p1_0, p1_1, p1_2)).bind fun x7 => some ((x1_0, x1_1, x7), (decide (((x7.length : Nat) : Int) > ((p0_2.length : Nat) : Int)))))
def Y2 (x8 : O0) (p0_0 : Int) (p0_1 : Int) (p0_2 : J0) (u2 : Int) : Nat → Int → (List D0) → Option ((List D0))
 | 0, _, _ => none
 | fuel + 1, u12, u13 => (if (decide (u12 < ((x8.length : Nat) : Int))) = true then (gi x8 u12).bind fun x17 => (B6 (p0_0, p0_1, p0_2) u2 x17).bind fun x18 => (grd (F0 x18)).bind fun _ => (if (decide (x18 < 0)) = true then (gi x8 u12).bind fun x21 => (grd ((u13.length + ([(u2, x21, (-1))]).length) * 24 ≤ 140737488355328)).bind fun _ => (Y2 x8 p0_0 p0_1 p0_2 u2 fuel (IntKind.i64.wrap (u12 + 1)) (u13 ++ [(u2, x21, (-1))])) else (Y2 x8 p0_0 p0_1 p0_2 u2 fuel (IntKind.i64.wrap (u12 + 1)) u13)) else some (u13))
def l4 (p0_1 : Int) (p0_0 : Int) (p0_2 : J0) : Nat → Int → (List D0) → Option ((List D0))
 | 0, _, _ => none
 | fuel + 1, u2, u3 => (chk (decide (u2 < p0_1)) (R5 (p0_0, p0_1, p0_2)) false).bind fun x6 => (if (bif (decide (u2 < p0_1)) then x6 else false) = true then (Z6 p0_0).bind fun x8 => (Y2 x8 p0_0 p0_1 p0_2 u2 S0 0 u3).bind (fun y24 => (l4 p0_1 p0_0 p0_2 fuel (IntKind.i64.wrap (u2 + 1)) y24)) else some (u3))
def L6 (p0 : l0) : Option (J0) := match p0 with | (p0_0, p0_1, p0_2) => (l4 p0_1 p0_0 p0_2 S0 0 ([] : J0)).bind (fun y32 => some y32)
end Go.Proofs.YtfdlgbfeceodeaaGreat
namespace Go.Proofs.YtfdlgbfeceodeaaGreat
open Go.H
set_option linter.unusedVariables false
set_option linter.unusedSimpArgs false
set_option maxRecDepth 10000
def d00 (p0 : Int) (p1 : Int) (p2 : Int) : Option (D0) := (if (decide (p1 < 0)) = true then some (p2, (IntKind.i64.wrap (0 - p1)), p0) else some (p0, p1, p2))
def C1 (p0 : J0) (p1_0 : Int) (p1_1 : Int) (p1_2 : Int) : Nat → Int → Option ((Int) ⊕ (Unit))
 | 0, _ => none
 | fuel + 1, u2 => (if (decide (u2 < ((p0.length : Nat) : Int))) = true then (gi p0 u2).bind fun x6 => match x6 with | (x6_0, x6_1, x6_2) => (if (eqE (p1_0, p1_1, p1_2) (x6_0, x6_1, x6_2)) = true then some (.inl u2) else (C1 p0 p1_0 p1_1 p1_2 fuel (IntKind.i64.wrap (u2 + 1)))) else some (.inr ()))
def Z3 (p0 : J0) (p1 : D0) : Option (Int) := match p1 with | (p1_0, p1_1, p1_2) => (C1 p0 p1_0 p1_1 p1_2 S0 0).bind fun X10 => l7 X10 (fun _ => some (-1))
def M2 (p0 : J0) (p1 : D0) : Option (Bool) := match p1 with | (p1_0, p1_1, p1_2) => (Z3 p0 (p1_0, p1_1, p1_2)).bind fun x1 => (grd (F0 x1)).bind fun _ => some (decide (x1 ≥ 0))
def p5 (p0 : Int) (p1 : f4) : Option (Int) := match p1 with | (p1_0, p1_1) => (if (decide (p0 = p1_1)) = true then some p1_0 else (if (decide (p0 > p1_1)) = true then some (IntKind.i64.wrap (p0 - 1)) else some p0))
def s5 (p2 : O0) (p3 : Int) : Nat → Int → Int → Int → Int → J0 → Option (Int × Int × J0)
 | 0, _, _, _, _, _ => none
 | fuel + 1, u11, u12, u13, u14, u15 => (if (decide (u12 < ((p2.length : Nat) : Int))) = true then (gi p2 u12).bind fun x19 => (if (decide (u12 < (IntKind.i64.wrap (((p2.length : Nat) : Int) - 1)))) = true then (d00 u11 x19 u14).bind fun x21 => match x21 with | (x21_0, x21_1, x21_2) => (grd ((u15.length + ([(x21_0, x21_1, x21_2)]).length) * 24 ≤ 140737488355328)).bind fun _ => (s5 p2 p3 fuel u14 (IntKind.i64.wrap (u12 + 1)) u13 (IntKind.i64.wrap (u14 + 1)) (u15 ++ [(x21_0, x21_1, x21_2)])) else (d00 u11 x19 p3).bind fun x26 => match x26 with | (x26_0, x26_1, x26_2) => (grd ((u15.length + ([(x26_0, x26_1, x26_2)]).length) * 24 ≤ 140737488355328)).bind fun _ => (s5 p2 p3 fuel p3 (IntKind.i64.wrap (u12 + 1)) u13 u14 (u15 ++ [(x26_0, x26_1, x26_2)]))) else some (u13, u14, u15))
def g8 (p0 : l0) (p1 : Int) (p2 : O0) (p3 : Int) : Option (l0 × Bool) := match p0 with | (p0_0, p0_1, p0_2) => (V1 (p0_0, p0_1, p0_2)).bind fun x1 => match x1 with | (x1_0, x1_1, x1_2) => (Z4 (p0_0, p0_1, p0_2)).bind fun x5 => (chk (!(!x5)) (n5 (p0_0, p0_1, p0_2) p1) false).bind fun x6 => (chk (!(bif (!x5) then true else (!x6))) (n5 (p0_0, p0_1, p0_2) p3) false).bind fun x7 => (chk (!(bif (bif (bif (!x5) then true else (!x6)) then true else (!x7)) then true else (decide (((p2.length : Nat) : Int) = 0)))) (C9 p0_0 p2) false).bind fun x8 => (if (bif (bif (bif (bif (bif (bif (!x5) then true else (!x6)) then true else (!x7)) then true else (decide (((p2.length : Nat) : Int) = 0))) then true else (!x8)) then true else (decide ((IntKind.i64.wrap ((IntKind.i64.wrap (p0_1 + ((p2.length : Nat) : Int))) - 1)) > 40))) then true else (decide ((IntKind.i64.wrap (((p0_2.length : Nat) : Int) + ((p2.length : Nat) : Int))) > 120))) = true then some ((x1_0, x1_1, x1_2), false) else (s5 p2 p3 S0 p1 0 x1_0 x1_1 x1_2).bind (fun S41 => match S41 with | (y35, y36, y37) => (L7 y37).bind fun x38 => some ((y35, y36, x38), true)))
def p9 (p0 : Int) : Option (l0 × Bool) := (P5 p0 1 3).bind fun x1 => (if (!x1) = true then some ((0, 0, []), false) else some ((p0, 1, []), true))
def r9 (p0 : l0) (p1 : O0) : Option (l0 × Bool) := match p0 with | (p0_0, p0_1, p0_2) => (g8 (p0_0, p0_1, p0_2) 0 p1 0).bind fun x1 => match x1 with | (x1_0, x1_1) => match x1_0 with | (x1_0_0, x1_0_1, x1_0_2) => some ((x1_0_0, x1_0_1, x1_0_2), x1_1)
def W4 (p1 : j3) : Nat → Int → Int → Int → J0 → Option (Int × Int × J0)
 | 0, _, _, _, _ => none
 | fuel + 1, u8, u9, u10, u11 => (if (decide (u8 < ((p1.length : Nat) : Int))) = true then (gi p1 u8).bind fun x15 => (if (decide (((x15.length : Nat) : Int) > 0)) = true then (r9 (u9, u10, u11) x15).bind fun x17 => match x17 with | (x17_0, x17_1) => match x17_0 with | (x17_0_0, x17_0_1, x17_0_2) => (W4 p1 fuel (IntKind.i64.wrap (u8 + 1)) x17_0_0 x17_0_1 x17_0_2) else (W4 p1 fuel (IntKind.i64.wrap (u8 + 1)) u9 u10 u11)) else some (u9, u10, u11))
def s9 (p0 : Int) (p1 : j3) : Option (l0 × Bool) := (w8 p0 p1).bind fun x1 => (if (!x1) = true then some ((0, 0, []), false) else (p9 p0).bind fun x3 => match x3 with | (x3_0, x3_1) => match x3_0 with | (x3_0_0, x3_0_1, x3_0_2) => (W4 p1 S0 0 x3_0_0 x3_0_1 x3_0_2).bind (fun S25 => match S25 with | (y22, y23, y24) => some ((y22, y23, y24), true)))
def E4 (x8 : J0) (x7_1 : Int) (x7_0 : Int) (x7_2 : Int) : Nat → Int → (List f4) → Option ((List f4))
 | 0, _, _ => none
 | fuel + 1, u10, u11 => (if (decide (u10 < ((x8.length : Nat) : Int))) = true then (gi x8 u10).bind fun x15 => match x15 with | (x15_0, x15_1, x15_2) => (if (!decide (x7_1 = x15_1)) = true then (E4 x8 x7_1 x7_0 x7_2 fuel (IntKind.i64.wrap (u10 + 1)) u11) else (if (decide (x7_0 = x15_0)) = true then (grd ((u11.length + ([((if x15_2 < x7_2 then x15_2 else x7_2), (if x15_2 > x7_2 then x15_2 else x7_2))]).length) * 16 ≤ 140737488355328)).bind fun _ => (if (decide (x7_2 = x15_2)) = true then (grd (((u11 ++ [((if x15_2 < x7_2 then x15_2 else x7_2), (if x15_2 > x7_2 then x15_2 else x7_2))]).length + ([((if x15_0 < x7_0 then x15_0 else x7_0), (if x15_0 > x7_0 then x15_0 else x7_0))]).length) * 16 ≤ 140737488355328)).bind fun _ => (E4 x8 x7_1 x7_0 x7_2 fuel (IntKind.i64.wrap (u10 + 1)) ((u11 ++ [((if x15_2 < x7_2 then x15_2 else x7_2), (if x15_2 > x7_2 then x15_2 else x7_2))]) ++ [((if x15_0 < x7_0 then x15_0 else x7_0), (if x15_0 > x7_0 then x15_0 else x7_0))])) else (E4 x8 x7_1 x7_0 x7_2 fuel (IntKind.i64.wrap (u10 + 1)) (u11 ++ [((if x15_2 < x7_2 then x15_2 else x7_2), (if x15_2 > x7_2 then x15_2 else x7_2))]))) else (if (decide (x7_2 = x15_2)) = true then (grd ((u11.length + ([((if x15_0 < x7_0 then x15_0 else x7_0), (if x15_0 > x7_0 then x15_0 else x7_0))]).length) * 16 ≤ 140737488355328)).bind fun _ => (E4 x8 x7_1 x7_0 x7_2 fuel (IntKind.i64.wrap (u10 + 1)) (u11 ++ [((if x15_0 < x7_0 then x15_0 else x7_0), (if x15_0 > x7_0 then x15_0 else x7_0))])) else (E4 x8 x7_1 x7_0 x7_2 fuel (IntKind.i64.wrap (u10 + 1)) u11)))) else some (u11))
def C7 (p0_2 : J0) : Nat → Int → (List f4) → Option ((List f4))
 | 0, _, _ => none
 | fuel + 1, u2, u3 => (if (decide (u2 < ((p0_2.length : Nat) : Int))) = true then (gi p0_2 u2).bind fun x7 => match x7 with | (x7_0, x7_1, x7_2) => (n06 p0_2 (IntKind.i64.wrap (u2 + 1)) (p0_2.length : Int)).bind fun x8 => (E4 x8 x7_1 x7_0 x7_2 S0 0 u3).bind (fun y24 => (C7 p0_2 fuel (IntKind.i64.wrap (u2 + 1)) y24)) else some (u3))
def S00 (p0 : l0) : Option (z7) := match p0 with | (p0_0, p0_1, p0_2) => (C7 p0_2 S0 0 ([] : z7)).bind (fun y32 => some y32)
def R7 (p0 : l0) : Option (f4 × Bool) := match p0 with | (p0_0, p0_1, p0_2) => (Z4 (p0_0, p0_1, p0_2)).bind fun x1 => (if (!x1) = true then some ((0, 0), false) else (S00 (p0_0, p0_1, p0_2)).bind fun x3 => (if (decide (((x3.length : Nat) : Int) = 0)) = true then some ((0, 0), false) else (gi x3 0).bind fun x7 => match x7 with | (x7_0, x7_1) => some ((x7_0, x7_1), true)))
def V3 (x1_2 : J0) (p1_0 : Int) (p1_1 : Int) : Nat → Int → J0 → Option (J0)
 | 0, _, _ => none
 | fuel + 1, u9, u10 => (if (decide (u9 < ((x1_2.length : Nat) : Int))) = true then (gi u10 u9).bind fun x15 => match x15 with | (x15_0, x15_1, x15_2) => (p5 x15_0 (p1_0, p1_1)).bind fun x16 => (grd (F0 x16)).bind fun q17 => (p5 x15_2 (p1_0, p1_1)).bind fun x20 => (grd (F0 x20)).bind fun q21 => (gi u10 u9).bind fun x26 => match x26 with | (x26_0, x26_1, x26_2) => (V3 x1_2 p1_0 p1_1 fuel (IntKind.i64.wrap (u9 + 1)) (u10.set u9.toNat (x16, x15_1, x20))) else some (u10))
def o6 (p0 : l0) (p1 : f4) : Option (l0 × Bool) := match p0 with | (p0_0, p0_1, p0_2) => match p1 with | (p1_0, p1_1) => (V1 (p0_0, p0_1, p0_2)).bind fun x1 => match x1 with | (x1_0, x1_1, x1_2) => (Z4 (p0_0, p0_1, p0_2)).bind fun x5 => (if (bif (bif (bif (!x5) then true else (decide (p1_0 < 0))) then true else (decide (p1_0 ≥ p1_1))) then true else (decide (p1_1 ≥ p0_1))) = true then some ((x1_0, x1_1, x1_2), false) else (V3 x1_2 p1_0 p1_1 S0 0 x1_2).bind (fun y33 => (L7 y33).bind fun x34 => some ((x1_0, (IntKind.i64.wrap (x1_1 - 1)), x34), true)))
def t9 (p0 : l0) : Option (l0 × f4 × Bool) := match p0 with | (p0_0, p0_1, p0_2) => (R7 (p0_0, p0_1, p0_2)).bind fun x1 => match x1 with | (x1_0, x1_1) => match x1_0 with | (x1_0_0, x1_0_1) => (if (!x1_1) = true then (V1 (p0_0, p0_1, p0_2)).bind fun x5 => match x5 with | (x5_0, x5_1, x5_2) => some ((x5_0, x5_1, x5_2), (0, 0), false) else (o6 (p0_0, p0_1, p0_2) (x1_0_0, x1_0_1)).bind fun x9 => match x9 with | (x9_0, x9_1) => match x9_0 with | (x9_0_0, x9_0_1, x9_0_2) => some ((x9_0_0, x9_0_1, x9_0_2), (x1_0_0, x1_0_1), true))
def p6 : Nat → Int → Int → J0 → (List f4) → Option ((l0 × z7) ⊕ (Int × Int × J0 × (List f4)))
 | 0, _, _, _, _ => none
 | fuel + 1, u6, u7, u8, u9 => (t9 (u6, u7, u8)).bind fun x12 => match x12 with | (x12_0, x12_1, x12_2) => match x12_0 with | (x12_0_0, x12_0_1, x12_0_2) => match x12_1 with | (x12_1_0, x12_1_1) => (if (!x12_2) = true then some (.inl ((u6, u7, u8), u9)) else (grd ((u9.length + ([(x12_1_0, x12_1_1)]).length) * 16 ≤ 140737488355328)).bind fun _ => (p6 fuel x12_0_0 x12_0_1 x12_0_2 (u9 ++ [(x12_1_0, x12_1_1)])))
def F6 (p0 : l0) : Option (l0 × z7) := match p0 with | (p0_0, p0_1, p0_2) => (V1 (p0_0, p0_1, p0_2)).bind fun x1 => match x1 with | (x1_0, x1_1, x1_2) => (p6 S0 x1_0 x1_1 x1_2 ([] : z7)).bind fun X22 => l7 X22 (fun _ => none)
def S7 (p0 : l0) : Option (l0 × Bool) := match p0 with | (p0_0, p0_1, p0_2) => (V1 (p0_0, p0_1, p0_2)).bind fun x1 => match x1 with | (x1_0, x1_1, x1_2) => (Z4 (p0_0, p0_1, p0_2)).bind fun x5 => (if (bif (!x5) then true else (decide (p0_1 = 40))) = true then some ((x1_0, x1_1, x1_2), false) else some ((x1_0, (IntKind.i64.wrap (x1_1 + 1)), x1_2), true))
def P8 (p0 : l0) (p1 : D0) : Option (l0 × Bool) := match p0 with | (p0_0, p0_1, p0_2) => match p1 with | (p1_0, p1_1, p1_2) => (V1 (p0_0, p0_1, p0_2)).bind fun x1 => match x1 with | (x1_0, x1_1, x1_2) => (Z4 (p0_0, p0_1, p0_2)).bind fun x5 => (chk (!(!x5)) (c6 (p0_0, p0_1, p0_2) (p1_0, p1_1, p1_2)) false).bind fun x6 => (chk (!(bif (!x5) then true else (!x6))) (M2 p0_2 (p1_0, p1_1, p1_2)) false).bind fun x7 => (if (bif (bif (bif (!x5) then true else (!x6)) then true else x7) then true else (decide (((p0_2.length : Nat) : Int) = 120))) = true then some ((x1_0, x1_1, x1_2), false) else (grd ((x1_2.length + ([(p1_0, p1_1, p1_2)]).length) * 24 ≤ 140737488355328)).bind fun _ => (L7 (x1_2 ++ [(p1_0, p1_1, p1_2)])).bind fun x11 => some ((x1_0, x1_1, x11), true))
def Z2 (x13 : O0) (p0_0 : Int) (p0_1 : Int) (p0_2 : J0) (u8 : Int) : Nat → Int → (List D0) → Option ((List D0))
 | 0, _, _ => none
 | fuel + 1, u17, u18 => (if (decide (u17 < ((x13.length : Nat) : Int))) = true then (gi x13 u17).bind fun x22 => (C6 (p0_0, p0_1, p0_2) u8 x22).bind fun x23 => (grd (F0 x23)).bind fun _ => (if (decide (x23 < 0)) = true then (grd ((u18.length + ([(u8, x22, (-1))]).length) * 24 ≤ 140737488355328)).bind fun _ => (Z2 x13 p0_0 p0_1 p0_2 u8 fuel (IntKind.i64.wrap (u17 + 1)) (u18 ++ [(u8, x22, (-1))])) else (Z2 x13 p0_0 p0_1 p0_2 u8 fuel (IntKind.i64.wrap (u17 + 1)) u18)) else some (u18))
def w4 (p0_1 : Int) (p0_0 : Int) (p0_2 : J0) : Nat → Int → (List D0) → Option ((List D0))
 | 0, _, _ => none
 | fuel + 1, u8, u9 => (if (decide (u8 < p0_1)) = true then (c8 p0_0).bind fun x13 => (Z2 x13 p0_0 p0_1 p0_2 u8 S0 0 u9).bind (fun y28 => (w4 p0_1 p0_0 p0_2 fuel (IntKind.i64.wrap (u8 + 1)) y28)) else some (u9))
def M6 (p0 : l0) : Option (J0) := match p0 with | (p0_0, p0_1, p0_2) => (S5 (p0_0, p0_1, p0_2)).bind fun x1 => (if (!x1) = true then some ([] : J0) else (w4 p0_1 p0_0 p0_2 S0 0 ([] : J0)).bind (fun y36 => some y36))
end Go.Proofs.YtfdlgbfeceodeaaGreat
namespace Go.Proofs.YtfdlgbfeceodeaaGreat
open Go.H
set_option linter.unusedVariables false
set_option linter.unusedSimpArgs false
set_option maxRecDepth 10000
def I4 (p0_1 : j3) (p1_0 : Int) (p1_1 : Int) (p1_2 : J0) (u2 : Int) : Nat → Int → Option ((Int × Int) ⊕ (Unit))
 | 0, _ => none
 | fuel + 1, u9 => (if (decide (u9 < ((p0_1.length : Nat) : Int))) = true then (gi p0_1 u9).bind fun x13 => (d9 (p1_0, p1_1, p1_2) u2 x13).bind fun x18 => match x18 with | (x18_0, x18_1) => (grd (F0 x18_0)).bind fun q19 => (if (bif (!x18_1) then true else (!decide (x18_0 = u2))) = true then some (.inl (u2, u9)) else (I4 p0_1 p1_0 p1_1 p1_2 u2 fuel (IntKind.i64.wrap (u9 + 1)))) else some (.inr ()))
def D3 (p1_1 : Int) (p0_0 : Int) (p0_1 : j3) (p1_0 : Int) (p1_2 : J0) : Nat → Int → Option ((Int × Int) ⊕ (Unit))
 | 0, _ => none
 | fuel + 1, u2 => (chk (decide (u2 < p1_1)) (T4 (p0_0, p0_1)) false).bind fun x5 => (chk (bif (decide (u2 < p1_1)) then x5 else false) (R5 (p1_0, p1_1, p1_2)) false).bind fun x6 => (if (bif (bif (bif (decide (u2 < p1_1)) then x5 else false) then x6 else false) then (decide (p0_0 = p1_0)) else false) = true then (I4 p0_1 p1_0 p1_1 p1_2 u2 S0 0).bind fun X31 => t0b X31 (fun _ => (D3 p1_1 p0_0 p0_1 p1_0 p1_2 fuel (IntKind.i64.wrap (u2 + 1)))) else some (.inr ()))
def c7 (p0 : C0) (p1 : l0) : Option (Int × Int) := match p0 with | (p0_0, p0_1) => match p1 with | (p1_0, p1_1, p1_2) => (D3 p1_1 p0_0 p0_1 p1_0 p1_2 S0 0).bind fun X34 => l7 X34 (fun _ => some ((-1), (-1)))
def J4 (p0_1 : j3) (p1_0 : Int) (p1_1 : Int) (p1_2 : J0) (u5 : Int) : Nat → Int → Option ((Int × Int) ⊕ (Unit))
 | 0, _ => none
 | fuel + 1, u10 => (if (decide (u10 < ((p0_1.length : Nat) : Int))) = true then (gi p0_1 u10).bind fun x14 => (B8 (p1_0, p1_1, p1_2) u5 x14).bind fun x15 => match x15 with | (x15_0, x15_1) => (grd (F0 x15_0)).bind fun _ => (grd (F0 x15_1)).bind fun _ => (if (bif (decide (x15_1 < ((x14.length : Nat) : Int))) then true else (!decide (x15_0 = u5))) = true then some (.inl (u5, u10)) else (J4 p0_1 p1_0 p1_1 p1_2 u5 fuel (IntKind.i64.wrap (u10 + 1)))) else some (.inr ()))
def K4 (p1_1 : Int) (p0_1 : j3) (p1_0 : Int) (p1_2 : J0) : Nat → Int → Option ((Int × Int) ⊕ (Unit))
 | 0, _ => none
 | fuel + 1, u5 => (if (decide (u5 < p1_1)) = true then (J4 p0_1 p1_0 p1_1 p1_2 u5 S0 0).bind fun X21 => t0b X21 (fun _ => (K4 p1_1 p0_1 p1_0 p1_2 fuel (IntKind.i64.wrap (u5 + 1)))) else some (.inr ()))
def d7 (p0 : C0) (p1 : l0) : Option (Int × Int) := match p0 with | (p0_0, p0_1) => match p1 with | (p1_0, p1_1, p1_2) => (U4 (p0_0, p0_1)).bind fun x1 => (chk (!(!x1)) (S5 (p1_0, p1_1, p1_2)) false).bind fun x2 => (if (bif (bif (!x1) then true else (!x2)) then true else (!decide (p0_0 = p1_0))) = true then some ((-1), (-1)) else (K4 p1_1 p0_1 p1_0 p1_2 S0 0).bind fun X24 => l7 X24 (fun _ => some ((-1), (-1))))
end Go.Proofs.YtfdlgbfeceodeaaGreat
namespace Go.Proofs.YtfdlgbfeceodeaaGreat
open Go.H
set_option linter.unusedVariables false
set_option linter.unusedSimpArgs false
set_option maxRecDepth 10000
def i8 (p0 : C0) (p1 : l0) : Option (l0 × Bool × Bool) := match p0 with | (p0_0, p0_1) => match p1 with | (p1_0, p1_1, p1_2) => (T4 (p0_0, p0_1)).bind fun x1 => (chk (!(!x1)) (R5 (p1_0, p1_1, p1_2)) false).bind fun x2 => (if (bif (bif (!x1) then true else (!x2)) then true else (!decide (p0_0 = p1_0))) = true then (L2 (p1_0, p1_1, p1_2)).bind fun x4 => match x4 with | (x4_0, x4_1, x4_2) => some ((x4_0, x4_1, x4_2), false, false) else (c7 (p0_0, p0_1) (p1_0, p1_1, p1_2)).bind fun x7 => match x7 with | (x7_0, x7_1) => (grd (F0 x7_0)).bind fun _ => (grd (F0 x7_1)).bind fun _ => (if (decide (x7_0 ≥ 0)) = true then (gi p0_1 x7_1).bind fun x11 => (d8 (p1_0, p1_1, p1_2) x7_0 x11 x7_0).bind fun x16 => match x16 with | (x16_0, x16_1) => match x16_0 with | (x16_0_0, x16_0_1, x16_0_2) => (if (!x16_1) = true then (L2 (p1_0, p1_1, p1_2)).bind fun x34 => match x34 with | (x34_0, x34_1, x34_2) => some ((x34_0, x34_1, x34_2), false, false) else (E6 (x16_0_0, x16_0_1, x16_0_2)).bind fun x37 => match x37 with | (x37_0, x37_1) => match x37_0 with | (x37_0_0, x37_0_1, x37_0_2) => some ((x37_0_0, x37_0_1, x37_0_2), true, true)) else (L6 (p1_0, p1_1, p1_2)).bind fun x40 => (if (decide (((x40.length : Nat) : Int) = 0)) = true then (L2 (p1_0, p1_1, p1_2)).bind fun x44 => match x44 with | (x44_0, x44_1, x44_2) => some ((x44_0, x44_1, x44_2), false, true) else (Q7 (p1_0, p1_1, p1_2)).bind fun x47 => match x47 with | (x47_0, x47_1) => match x47_0 with | (x47_0_0, x47_0_1, x47_0_2) => (if (!x47_1) = true then (L2 (p1_0, p1_1, p1_2)).bind fun x51 => match x51 with | (x51_0, x51_1, x51_2) => some ((x51_0, x51_1, x51_2), false, false) else (gi x40 0).bind fun x54 => match x54 with | (x54_0, x54_1, x54_2) => (gi x40 0).bind fun x59 => match x59 with | (x59_0, x59_1, x59_2) => (gi x40 0).bind fun x68 => match x68 with | (x68_0, x68_1, x68_2) => (if (decide (x68_1 < 0)) = true then (gi x40 0).bind fun x70 => match x70 with | (x70_0, x70_1, x70_2) => (gi x40 0).bind fun x77 => match x77 with | (x77_0, x77_1, x77_2) => (f8 (x47_0_0, x47_0_1, x47_0_2) (p1_1, (IntKind.i64.wrap (0 - x70_1)), x77_0)).bind fun x84 => match x84 with | (x84_0, x84_1) => match x84_0 with | (x84_0_0, x84_0_1, x84_0_2) => (if (!x84_1) = true then (L2 (p1_0, p1_1, p1_2)).bind fun x88 => match x88 with | (x88_0, x88_1, x88_2) => some ((x88_0, x88_1, x88_2), false, false) else some ((x84_0_0, x84_0_1, x84_0_2), true, true)) else (f8 (x47_0_0, x47_0_1, x47_0_2) (x54_0, x59_1, p1_1)).bind fun x91 => match x91 with | (x91_0, x91_1) => match x91_0 with | (x91_0_0, x91_0_1, x91_0_2) => (if (!x91_1) = true then (L2 (p1_0, p1_1, p1_2)).bind fun x95 => match x95 with | (x95_0, x95_1, x95_2) => some ((x95_0, x95_1, x95_2), false, false) else some ((x91_0_0, x91_0_1, x91_0_2), true, true)))))))
end Go.Proofs.YtfdlgbfeceodeaaGreat
namespace Go.Proofs.YtfdlgbfeceodeaaGreat
open Go.H
set_option linter.unusedVariables false
set_option linter.unusedSimpArgs false
set_option maxRecDepth 10000
def j8 (p0 : C0) (p1 : l0) : Option (l0 × Bool × Bool) := match p0 with | (p0_0, p0_1) => match p1 with | (p1_0, p1_1, p1_2) => (U4 (p0_0, p0_1)).bind fun x1 => (chk (!(!x1)) (S5 (p1_0, p1_1, p1_2)) false).bind fun x2 => (if (bif (bif (!x1) then true else (!x2)) then true else (!decide (p0_0 = p1_0))) = true then (V1 (p1_0, p1_1, p1_2)).bind fun x4 => match x4 with | (x4_0, x4_1, x4_2) => some ((x4_0, x4_1, x4_2), false, false) else (d7 (p0_0, p0_1) (p1_0, p1_1, p1_2)).bind fun x8 => match x8 with | (x8_0, x8_1) => (grd (F0 x8_0)).bind fun _ => (grd (F0 x8_1)).bind fun _ => (if (decide (x8_0 ≥ 0)) = true then (gi p0_1 x8_1).bind fun x12 => (g8 (p1_0, p1_1, p1_2) x8_0 x12 x8_0).bind fun x17 => match x17 with | (x17_0, x17_1) => match x17_0 with | (x17_0_0, x17_0_1, x17_0_2) => (if (!x17_1) = true then (V1 (p1_0, p1_1, p1_2)).bind fun x35 => match x35 with | (x35_0, x35_1, x35_2) => some ((x35_0, x35_1, x35_2), false, false) else (F6 (x17_0_0, x17_0_1, x17_0_2)).bind fun x39 => match x39 with | (x39_0, x39_1) => match x39_0 with | (x39_0_0, x39_0_1, x39_0_2) => some ((x39_0_0, x39_0_1, x39_0_2), true, true)) else (M6 (p1_0, p1_1, p1_2)).bind fun x43 => (if (decide (((x43.length : Nat) : Int) = 0)) = true then (V1 (p1_0, p1_1, p1_2)).bind fun x47 => match x47 with | (x47_0, x47_1, x47_2) => some ((x47_0, x47_1, x47_2), false, true) else (S7 (p1_0, p1_1, p1_2)).bind fun x51 => match x51 with | (x51_0, x51_1) => match x51_0 with | (x51_0_0, x51_0_1, x51_0_2) => (if x51_1 = true then (gi x43 0).bind fun x56 => match x56 with | (x56_0, x56_1, x56_2) => (gi x43 0).bind fun x61 => match x61 with | (x61_0, x61_1, x61_2) => (d00 x56_0 x61_1 p1_1).bind fun x66 => match x66 with | (x66_0, x66_1, x66_2) => (P8 (x51_0_0, x51_0_1, x51_0_2) (x66_0, x66_1, x66_2)).bind fun x69 => match x69 with | (x69_0, x69_1) => match x69_0 with | (x69_0_0, x69_0_1, x69_0_2) => (if (!x69_1) = true then (V1 (p1_0, p1_1, p1_2)).bind fun x89 => match x89 with | (x89_0, x89_1, x89_2) => some ((x89_0, x89_1, x89_2), false, false) else some ((x69_0_0, x69_0_1, x69_0_2), true, true)) else (if (!x51_1) = true then (V1 (p1_0, p1_1, p1_2)).bind fun x94 => match x94 with | (x94_0, x94_1, x94_2) => some ((x94_0, x94_1, x94_2), false, false) else some ((x51_0_0, x51_0_1, x51_0_2), true, true))))))
end Go.Proofs.YtfdlgbfeceodeaaGreat
namespace Go.Proofs.YtfdlgbfeceodeaaGreat
open Go.H
set_option linter.unusedVariables false
set_option linter.unusedSimpArgs false
set_option maxRecDepth 10000
def M4 (u20 : Int) (x26 : Int) (u17 : O0) : Nat → Int → (List Int) → (List Int) → Option ((List Int) × (List Int))
 | 0, _, _, _ => none
 | fuel + 1, u30, u31, u32 => (if (decide (u30 < u20)) = true then (if (!decide (u30 = x26)) = true then (grd ((u31.length + [u30].length) * 8 ≤ 140737488355328)).bind fun _ => (gi u17 u30).bind fun x38 => (grd ((u32.length + [x38].length) * 8 ≤ 140737488355328)).bind fun _ => (M4 u20 x26 u17 fuel (IntKind.i64.wrap (u30 + 1)) (u31 ++ [u30]) (u32 ++ [x38])) else (M4 u20 x26 u17 fuel (IntKind.i64.wrap (u30 + 1)) u31 u32)) else some (u31, u32))
def i5 (p0_0 : Int) (p0_1 : Int) (p0_2 : J0) : Nat → O0 → Int → Int → Int → J0 → Option ((l0 × O0) ⊕ (O0 × Int × Int × J0))
 | 0, _, _, _, _, _ => none
 | fuel + 1, u17, u18, u19, u20, u21 => (chk (decide (u18 < 40)) (G3 (p0_0, p0_1, p0_2)) false).bind fun x24 => (if (bif (decide (u18 < 40)) then x24 else false) = true then (t00 (u19, u20, u21)).bind fun x26 => (grd (F0 x26)).bind fun _ => (if (decide (x26 < 0)) = true then some (.inl ((u19, u20, u21), u17)) else (M4 u20 x26 u17 S0 0 ([] : O0) ([] : O0)).bind (fun S65 => match S65 with | (y52, y53) => (g6 (u19, u20, u21) y52).bind fun x58 => match x58 with | (x58_0, x58_1) => match x58_0 with | (x58_0_0, x58_0_1, x58_0_2) => (i5 p0_0 p0_1 p0_2 fuel y53 (IntKind.i64.wrap (u18 + 1)) x58_0_0 x58_0_1 x58_0_2))) else some (.inr (u17, u19, u20, u21)))
def j5 (p0_1 : Int) (p0_0 : Int) (p0_2 : J0) : Nat → Int → (List Int) → Option ((List Int))
 | 0, _, _ => none
 | fuel + 1, u5, u6 => (chk (decide (u5 < p0_1)) (G3 (p0_0, p0_1, p0_2)) false).bind fun x9 => (if (bif (decide (u5 < p0_1)) then x9 else false) = true then (grd ((u6.length + [u5].length) * 8 ≤ 140737488355328)).bind fun _ => (j5 p0_1 p0_0 p0_2 fuel (IntKind.i64.wrap (u5 + 1)) (u6 ++ [u5])) else some (u6))
def Q8 (p0 : l0) : Option (l0 × O0) := match p0 with | (p0_0, p0_1, p0_2) => (L2 (p0_0, p0_1, p0_2)).bind fun x1 => match x1 with | (x1_0, x1_1, x1_2) => (j5 p0_1 p0_0 p0_2 S0 0 ([] : O0)).bind (fun y75 => (i5 p0_0 p0_1 p0_2 S0 y75 0 x1_0 x1_1 x1_2).bind fun X137 => l7 X137 (fun S136 => match S136 with | (y132, y133, y134, y135) => some ((y133, y134, y135), y132)))
def T7 (p0 : l0) : Option (l0) := match p0 with | (p0_0, p0_1, p0_2) => (E6 (p0_0, p0_1, p0_2)).bind fun x1 => match x1 with | (x1_0, x1_1) => match x1_0 with | (x1_0_0, x1_0_1, x1_0_2) => (Q8 (x1_0_0, x1_0_1, x1_0_2)).bind fun x4 => match x4 with | (x4_0, x4_1) => match x4_0 with | (x4_0_0, x4_0_1, x4_0_2) => (S6 (x4_0_0, x4_0_1, x4_0_2)).bind fun x7 => match x7 with | (x7_0, x7_1, x7_2) => some (x7_0, x7_1, x7_2)
end Go.Proofs.YtfdlgbfeceodeaaGreat
namespace Go.Proofs.YtfdlgbfeceodeaaGreat
open Go.H
set_option linter.unusedVariables false
set_option linter.unusedSimpArgs false
set_option maxRecDepth 10000
def U7 (p0 : l0) : Option (l0) := match p0 with | (p0_0, p0_1, p0_2) => (F6 (p0_0, p0_1, p0_2)).bind fun x1 => match x1 with | (x1_0, x1_1) => match x1_0 with | (x1_0_0, x1_0_1, x1_0_2) => (O8 (x1_0_0, x1_0_1, x1_0_2)).bind fun x5 => match x5 with | (x5_0, x5_1) => match x5_0 with | (x5_0_0, x5_0_1, x5_0_2) => (U6 (x5_0_0, x5_0_1, x5_0_2)).bind fun x9 => match x9 with | (x9_0, x9_1, x9_2) => some (x9_0, x9_1, x9_2)
end Go.Proofs.YtfdlgbfeceodeaaGreat
namespace Go.Proofs.YtfdlgbfeceodeaaGreat
open Go.H
set_option linter.unusedVariables false
set_option linter.unusedSimpArgs false
set_option maxRecDepth 10000
def N2 (p0_0 : Int) (p0_1 : j3) : Nat → Int → Int → Int → J0 → Option ((l0 × Bool) ⊕ (Int × Int × J0))
 | 0, _, _, _, _ => none
 | fuel + 1, u10, u11, u12, u13 => (if (decide (u10 < 300)) = true then (i8 (p0_0, p0_1) (u11, u12, u13)).bind fun x17 => match x17 with | (x17_0, x17_1, x17_2) => match x17_0 with | (x17_0_0, x17_0_1, x17_0_2) => (if (!x17_2) = true then some (.inl ((0, 0, []), false)) else (if (!x17_1) = true then (T7 (x17_0_0, x17_0_1, x17_0_2)).bind fun x22 => match x22 with | (x22_0, x22_1, x22_2) => some (.inl ((x22_0, x22_1, x22_2), true)) else (N2 p0_0 p0_1 fuel (IntKind.i64.wrap (u10 + 1)) x17_0_0 x17_0_1 x17_0_2))) else some (.inr (u11, u12, u13)))
def G6 (p0 : C0) (p1 : j3) : Option (l0 × Bool) := match p0 with | (p0_0, p0_1) => (n9 p0_0 p1).bind fun x1 => match x1 with | (x1_0, x1_1) => match x1_0 with | (x1_0_0, x1_0_1, x1_0_2) => (chk (!(!x1_1)) (T4 (p0_0, p0_1)) false).bind fun x4 => (if (bif (!x1_1) then true else (!x4)) = true then some ((0, 0, []), false) else (E6 (x1_0_0, x1_0_1, x1_0_2)).bind fun x6 => match x6 with | (x6_0, x6_1) => match x6_0 with | (x6_0_0, x6_0_1, x6_0_2) => (N2 p0_0 p0_1 S0 0 x6_0_0 x6_0_1 x6_0_2).bind fun X30 => l7 X30 (fun S29 => match S29 with | (y26, y27, y28) => some ((0, 0, []), false)))
def l8 (p0 : C0) (p1 : j3) : Option (Int) := match p0 with | (p0_0, p0_1) => (G6 (p0_0, p0_1) p1).bind fun x1 => match x1 with | (x1_0, x1_1) => match x1_0 with | (x1_0_0, x1_0_1, x1_0_2) => (if (!x1_1) = true then some (-1) else some x1_0_1)
def Y8 (p0 : C0) : Option (Int) := match p0 with | (p0_0, p0_1) => (l8 (p0_0, p0_1) ([] : j3)).bind fun x5 => (grd (F0 x5)).bind fun _ => some x5
end Go.Proofs.YtfdlgbfeceodeaaGreat
namespace Go.Proofs.YtfdlgbfeceodeaaGreat
open Go.H
set_option linter.unusedVariables false
set_option linter.unusedSimpArgs false
set_option maxRecDepth 10000
def O2 (p0_0 : Int) (p0_1 : j3) : Nat → Int → Int → Int → J0 → Option ((l0 × Bool) ⊕ (Int × Int × J0))
 | 0, _, _, _, _ => none
 | fuel + 1, u13, u14, u15, u16 => (if (decide (u13 < 300)) = true then (j8 (p0_0, p0_1) (u14, u15, u16)).bind fun x20 => match x20 with | (x20_0, x20_1, x20_2) => match x20_0 with | (x20_0_0, x20_0_1, x20_0_2) => (if (!x20_2) = true then some (.inl ((0, 0, []), false)) else (if (!x20_1) = true then (U7 (u14, u15, u16)).bind fun x26 => match x26 with | (x26_0, x26_1, x26_2) => some (.inl ((x26_0, x26_1, x26_2), true)) else (O2 p0_0 p0_1 fuel (IntKind.i64.wrap (u13 + 1)) x20_0_0 x20_0_1 x20_0_2))) else some (.inr (u14, u15, u16)))
def H6 (p0 : C0) (p1 : j3) : Option (l0 × Bool) := match p0 with | (p0_0, p0_1) => (U4 (p0_0, p0_1)).bind fun x1 => (if (!x1) = true then some ((0, 0, []), false) else (s9 p0_0 p1).bind fun x3 => match x3 with | (x3_0, x3_1) => match x3_0 with | (x3_0_0, x3_0_1, x3_0_2) => (if (!x3_1) = true then some ((0, 0, []), false) else (F6 (x3_0_0, x3_0_1, x3_0_2)).bind fun x8 => match x8 with | (x8_0, x8_1) => match x8_0 with | (x8_0_0, x8_0_1, x8_0_2) => (O2 p0_0 p0_1 S0 0 x8_0_0 x8_0_1 x8_0_2).bind fun X35 => l7 X35 (fun S34 => match S34 with | (y31, y32, y33) => some ((0, 0, []), false))))
def n8 (p0 : C0) (p1 : j3) : Option (Int) := match p0 with | (p0_0, p0_1) => (H6 (p0_0, p0_1) p1).bind fun x1 => match x1 with | (x1_0, x1_1) => match x1_0 with | (x1_0_0, x1_0_1, x1_0_2) => (if (!x1_1) = true then some (-1) else some x1_0_1)
def Z8 (p0 : C0) : Option (Int) := match p0 with | (p0_0, p0_1) => (n8 (p0_0, p0_1) []).bind fun x1 => (grd (F0 x1)).bind fun _ => some x1
end Go.Proofs.YtfdlgbfeceodeaaGreat
