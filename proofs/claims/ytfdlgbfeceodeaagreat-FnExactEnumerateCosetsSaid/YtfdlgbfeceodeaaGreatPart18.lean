/- Texts of the claim, joined: What functions of the program compute, in plain words: batch 1; What functions of the program compute, in plain words: batch 4g; What functions of the program compute, in plain words: batch 9; What functions of the program compute, in plain words: batch g1; What functions of the program compute, in plain words: batch g2; What functions of the program compute, in plain words: batch g3; What functions of the program compute, in plain words: batch g4; What functions of the program compute, in plain words: batch h1; What functions of the program compute, in plain words: batch h3; What functions of the program compute, in plain words: batch 9f; What functions of the program compute, in plain words: batch h2; What functions of the program compute, in plain words: batch h4; What functions of the program compute, in plain words: batch i1; What functions of the program compute, in plain words: batch i2; What functions of the program compute, in plain words: batch i3; What functions of the program compute, in plain words: batch i4. -/
import Derived.Test.YtfdlgbfeceodeaaGreatPart17
import Derived.Test.YtfdlgbfeceodeaaGreatH36
namespace Go.Proofs.YtfdlgbfeceodeaaGreat
open Go.H
set_option linter.unusedVariables false
set_option linter.unusedSimpArgs false
set_option maxRecDepth 10000
def F4 (p0 : Int) (p1 : Int) (p2 : Int) : Option (Bool) := some (bif (decide (p0 ≥ p1)) then (decide (p0 ≤ p2)) else false)
def U6 (p1 : P0) (p0 : Int) : Nat → Int → Option ((Bool) ⊕ (Unit))
 | 0, _ => none
 | fuel + 1, u2 => (if (decide (u2 < ((p1.length : Nat) : Int))) = true then (gi p1 u2).bind fun x6 => (chk (!(decide (x6 = 0))) (gi p1 u2) 0).bind fun x7 => (chk (!(decide (x6 = 0))) (F4 x7 (IntKind.i64.wrap (0 - p0)) p0) false).bind fun x8 => (chk ((decide (u2 > 0)) && (!(bif (decide (x6 = 0)) then true else (!x8)))) (gi p1 u2) 0).bind fun x9 => (chk ((decide (u2 > 0)) && (!(bif (decide (x6 = 0)) then true else (!x8)))) (gi p1 (IntKind.i64.wrap (u2 - 1))) 0).bind fun x10 => (if (bif (bif (decide (x6 = 0)) then true else (!x8)) then true else (bif (decide (u2 > 0)) then (decide (x9 = (IntKind.i64.wrap (0 - x10)))) else false)) = true then some (.inl false) else (U6 p1 p0 fuel (IntKind.i64.wrap (u2 + 1)))) else some (.inr ()))
def K9 (p0 : Int) (p1 : P0) : Option (Bool) := (U6 p1 p0 T0 0).bind fun X16 => w7 X16 (fun _ => (F4 p0 1 3).bind fun x14 => some (bif x14 then (decide (((p1.length : Nat) : Int) ≤ 24)) else false))
def K3 (p0 : V2) : Nat → Int → Int → Option (Int)
 | 0, _, _ => none
 | fuel + 1, u2, u3 => (if (decide (u3 < ((p0.length : Nat) : Int))) = true then (gi p0 u3).bind fun x7 => (K3 p0 fuel (IntKind.i64.wrap (u2 + ((x7.length : Nat) : Int))) (IntKind.i64.wrap (u3 + 1))) else some (u2))
def l7 (p0 : V2) : Option (Int) := (K3 p0 T0 0 0).bind (fun y9 => some y9)
def M5 (p1 : V2) (p0 : Int) : Nat → Int → Option ((Bool) ⊕ (Unit))
 | 0, _ => none
 | fuel + 1, u2 => (if (decide (u2 < ((p1.length : Nat) : Int))) = true then (gi p1 u2).bind fun x6 => (K9 p0 x6).bind fun x7 => (if (!x7) = true then some (.inl false) else (M5 p1 p0 fuel (IntKind.i64.wrap (u2 + 1)))) else some (.inr ()))
def E8 (p0 : Int) (p1 : V2) : Option (Bool) := (M5 p1 p0 T0 0).bind fun X17 => w7 X17 (fun _ => (F4 p0 1 3).bind fun x13 => (chk (bif x13 then (decide (((p1.length : Nat) : Int) ≤ 6)) else false) (l7 p1) 0).bind fun x14 => (grd (H0 x14)).bind fun _ => some (bif (bif x13 then (decide (((p1.length : Nat) : Int) ≤ 6)) else false) then (decide (x14 < 40)) else false))
def T3 (p0_1 : V2) : Nat → Int → Option ((Bool) ⊕ (Unit))
 | 0, _ => none
 | fuel + 1, u2 => (if (decide (u2 < ((p0_1.length : Nat) : Int))) = true then (gi p0_1 u2).bind fun x6 => (chk (!(decide (((x6.length : Nat) : Int) = 0))) (gi x6 0) 0).bind fun x7 => (chk (!(decide (((x6.length : Nat) : Int) = 0))) (gi x6 (IntKind.i64.wrap (((x6.length : Nat) : Int) - 1))) 0).bind fun x8 => (if (bif (decide (((x6.length : Nat) : Int) = 0)) then true else (decide (x7 = (IntKind.i64.wrap (0 - x8))))) = true then some (.inl false) else (T3 p0_1 fuel (IntKind.i64.wrap (u2 + 1)))) else some (.inr ()))
def i5 (p0 : D0) : Option (Bool) := match p0 with | (p0_0, p0_1) => (T3 p0_1 T0 0).bind fun X14 => w7 X14 (fun _ => (E8 p0_0 p0_1).bind fun x12 => some x12)
def c6 (p0 : Int) (p1 : Int) (p2 : Int) : Option (Bool) := some (bif (decide (p0 ≥ p1)) then (decide (p0 ≤ p2)) else false)
def p9 (p0 : Int) (p1 : Int) : Option (Bool) := (chk (!decide (p1 = 0)) (c6 p1 (IntKind.i64.wrap (0 - p0)) p0) false).bind fun x1 => some (bif (!decide (p1 = 0)) then x1 else false)
def M7 (p0 : Int) (p1 : Int) : Option (Bool) := some (bif (bif (!decide (p0 = 0)) then (!decide (p0 = (-9223372036854775808))) else false) then (decide (p1 = (IntKind.i64.wrap (0 - p0)))) else false)
def V6 (p1 : P0) (p0 : Int) : Nat → Int → Option ((Bool) ⊕ (Unit))
 | 0, _ => none
 | fuel + 1, u4 => (if (decide (u4 < ((p1.length : Nat) : Int))) = true then (gi p1 u4).bind fun x8 => (p9 p0 x8).bind fun x9 => (chk ((decide (u4 > 0)) && (!(!x9))) (gi p1 (IntKind.i64.wrap (u4 - 1))) 0).bind fun x10 => (chk ((decide (u4 > 0)) && (!(!x9))) (M7 x10 x8) false).bind fun x11 => (if (bif (!x9) then true else (bif (decide (u4 > 0)) then x11 else false)) = true then some (.inl false) else (V6 p1 p0 fuel (IntKind.i64.wrap (u4 + 1)))) else some (.inr ()))
def L9 (p0 : Int) (p1 : P0) : Option (Bool) := (c6 p0 1 3).bind fun x1 => (if (bif (!x1) then true else (decide (((p1.length : Nat) : Int) > 24))) = true then some false else (V6 p1 p0 T0 0).bind fun X15 => w7 X15 (fun _ => some true))
def o5 (p0 : V2) : Nat → Int → Int → Option (Int)
 | 0, _, _ => none
 | fuel + 1, u2, u3 => (if (decide (u3 < ((p0.length : Nat) : Int))) = true then (gi p0 u3).bind fun x7 => (o5 p0 fuel (IntKind.i64.wrap (u2 + ((x7.length : Nat) : Int))) (IntKind.i64.wrap (u3 + 1))) else some (u2))
def o8 (p0 : V2) : Option (Int) := (o5 p0 T0 0 0).bind (fun y9 => some y9)
def N5 (p1 : V2) (p0 : Int) : Nat → Int → Option ((Bool) ⊕ (Unit))
 | 0, _ => none
 | fuel + 1, u4 => (if (decide (u4 < ((p1.length : Nat) : Int))) = true then (gi p1 u4).bind fun x8 => (L9 p0 x8).bind fun x9 => (if (!x9) = true then some (.inl false) else (N5 p1 p0 fuel (IntKind.i64.wrap (u4 + 1)))) else some (.inr ()))
def F8 (p0 : Int) (p1 : V2) : Option (Bool) := (c6 p0 1 3).bind fun x1 => (if (bif (!x1) then true else (decide (((p1.length : Nat) : Int) > 6))) = true then some false else (N5 p1 p0 T0 0).bind fun X17 => w7 X17 (fun _ => (o8 p1).bind fun x14 => (grd (H0 x14)).bind fun _ => some (decide (x14 < 40))))
def U3 (p0_1 : V2) : Nat → Int → Option ((Bool) ⊕ (Unit))
 | 0, _ => none
 | fuel + 1, u4 => (if (decide (u4 < ((p0_1.length : Nat) : Int))) = true then (gi p0_1 u4).bind fun x8 => (chk (!(decide (((x8.length : Nat) : Int) = 0))) (gi x8 0) 0).bind fun x9 => (chk (!(decide (((x8.length : Nat) : Int) = 0))) (gi x8 (IntKind.i64.wrap (((x8.length : Nat) : Int) - 1))) 0).bind fun x10 => (chk (!(decide (((x8.length : Nat) : Int) = 0))) (M7 x9 x10) false).bind fun x11 => (if (bif (decide (((x8.length : Nat) : Int) = 0)) then true else x11) = true then some (.inl false) else (U3 p0_1 fuel (IntKind.i64.wrap (u4 + 1)))) else some (.inr ()))
def j5 (p0 : D0) : Option (Bool) := match p0 with | (p0_0, p0_1) => (F8 p0_0 p0_1).bind fun x1 => (if (!x1) = true then some false else (U3 p0_1 T0 0).bind fun X15 => w7 X15 (fun _ => some true))
def l6 (p0 : Int) (p1 : Int) : Option (Int) := (if (decide (p0 < p1)) = true then some (-1) else (if (decide (p0 > p1)) = true then some 1 else some 0))
end Go.Proofs.YtfdlgbfeceodeaaGreat
namespace Go.Proofs.YtfdlgbfeceodeaaGreat
open Go.H
set_option linter.unusedVariables false
set_option linter.unusedSimpArgs false
set_option maxRecDepth 10000
def M9 (p0 : l0) (p1 : C0) : Option (Bool) := match p0 with | (p0_0, p0_1, p0_2) => match p1 with | (p1_0, p1_1, p1_2) => (F4 p1_0 0 (IntKind.i64.wrap (p0_1 - 1))).bind fun x1 => (chk x1 (F4 p1_2 0 (IntKind.i64.wrap (p0_1 - 1))) false).bind fun x2 => (chk (bif x1 then x2 else false) (F4 p1_1 1 p0_0) false).bind fun x3 => some (bif (bif x1 then x2 else false) then x3 else false)
def U5 (p0_0 : Int) (p0_1 : Int) (p0_2 : Int) (p1_0 : Int) (p1_1 : Int) (p1_2 : Int) : Nat → Int → Option ((Int) ⊕ (Unit))
 | 0, _ => none
 | fuel + 1, u2 => (if (decide (u2 < 3)) = true then (gi [p0_0, p0_1, p0_2] u2).bind fun x6 => (gi [p1_0, p1_1, p1_2] u2).bind fun x7 => (if (decide (x6 < x7)) = true then some (.inl (-1)) else (gi [p0_0, p0_1, p0_2] u2).bind fun x9 => (gi [p1_0, p1_1, p1_2] u2).bind fun x10 => (if (decide (x9 > x10)) = true then some (.inl 1) else (U5 p0_0 p0_1 p0_2 p1_0 p1_1 p1_2 fuel (IntKind.i64.wrap (u2 + 1))))) else some (.inr ()))
def R6 (p0 : C0) (p1 : C0) : Option (Int) := match p0 with | (p0_0, p0_1, p0_2) => match p1 with | (p1_0, p1_1, p1_2) => (U5 p0_0 p0_1 p0_2 p1_0 p1_1 p1_2 T0 0).bind fun X14 => w7 X14 (fun _ => some 0)
def s6 (p0_2 : J0) (p0_0 : Int) (p0_1 : Int) : Nat → Int → Option ((Bool) ⊕ (Unit))
 | 0, _ => none
 | fuel + 1, u2 => (if (decide (u2 < ((p0_2.length : Nat) : Int))) = true then (gi p0_2 u2).bind fun x6 => match x6 with | (x6_0, x6_1, x6_2) => (M9 (p0_0, p0_1, p0_2) (x6_0, x6_1, x6_2)).bind fun x7 => (chk ((decide (u2 > 0)) && (!(!x7))) (gi p0_2 (IntKind.i64.wrap (u2 - 1))) (0, 0, 0)).bind fun x8 => match x8 with | (x8_0, x8_1, x8_2) => (chk ((decide (u2 > 0)) && (!(!x7))) (gi p0_2 u2) (0, 0, 0)).bind fun x9 => match x9 with | (x9_0, x9_1, x9_2) => (chk ((decide (u2 > 0)) && (!(!x7))) (R6 (x8_0, x8_1, x8_2) (x9_0, x9_1, x9_2)) 0).bind fun x10 => (grd (H0 x10)).bind fun _ => (if (bif (!x7) then true else (bif (decide (u2 > 0)) then (decide (x10 ≥ 0)) else false)) = true then some (.inl false) else (s6 p0_2 p0_0 p0_1 fuel (IntKind.i64.wrap (u2 + 1)))) else some (.inr ()))
def N3 (p0 : l0) : Option (Bool) := match p0 with | (p0_0, p0_1, p0_2) => (s6 p0_2 p0_0 p0_1 T0 0).bind fun X19 => w7 X19 (fun _ => (F4 p0_0 1 3).bind fun x16 => (chk x16 (F4 p0_1 1 40) false).bind fun x17 => some (bif (bif x16 then x17 else false) then (decide (((p0_2.length : Nat) : Int) ≤ 120)) else false))
def E5 (p0 : l0) (p1 : Int) : Option (Bool) := match p0 with | (p0_0, p0_1, p0_2) => (c6 p1 0 (IntKind.i64.wrap (p0_1 - 1))).bind fun x1 => some x1
def t6 (p0 : l0) (p1 : C0) : Option (Bool) := match p0 with | (p0_0, p0_1, p0_2) => match p1 with | (p1_0, p1_1, p1_2) => (E5 (p0_0, p0_1, p0_2) p1_0).bind fun x1 => (chk x1 (E5 (p0_0, p0_1, p0_2) p1_2) false).bind fun x2 => (chk (bif x1 then x2 else false) (c6 p1_1 1 p0_0) false).bind fun x3 => some (bif (bif x1 then x2 else false) then x3 else false)
def Q7 (p0 : C0) (p1 : C0) : Option (Int) := match p0 with | (p0_0, p0_1, p0_2) => match p1 with | (p1_0, p1_1, p1_2) => (l6 p0_0 p1_0).bind fun x1 => (grd (H0 x1)).bind fun _ => (if (!decide (x1 = 0)) = true then some x1 else (l6 p0_1 p1_1).bind fun x4 => (grd (H0 x4)).bind fun _ => (if (!decide (x4 = 0)) = true then some x4 else (l6 p0_2 p1_2).bind fun x7 => (grd (H0 x7)).bind fun _ => some x7))
def w6 (p0_2 : J0) (p0_0 : Int) (p0_1 : Int) : Nat → Int → Option ((Bool) ⊕ (Unit))
 | 0, _ => none
 | fuel + 1, u5 => (if (decide (u5 < ((p0_2.length : Nat) : Int))) = true then (gi p0_2 u5).bind fun x9 => match x9 with | (x9_0, x9_1, x9_2) => (t6 (p0_0, p0_1, p0_2) (x9_0, x9_1, x9_2)).bind fun x10 => (chk ((decide (u5 > 0)) && (!(!x10))) (gi p0_2 (IntKind.i64.wrap (u5 - 1))) (0, 0, 0)).bind fun x11 => match x11 with | (x11_0, x11_1, x11_2) => (chk ((decide (u5 > 0)) && (!(!x10))) (Q7 (x11_0, x11_1, x11_2) (x9_0, x9_1, x9_2)) 0).bind fun x12 => (grd (H0 x12)).bind fun _ => (if (bif (!x10) then true else (bif (decide (u5 > 0)) then (decide (x12 ≥ 0)) else false)) = true then some (.inl false) else (w6 p0_2 p0_0 p0_1 fuel (IntKind.i64.wrap (u5 + 1)))) else some (.inr ()))
def p5 (p0 : l0) : Option (Bool) := match p0 with | (p0_0, p0_1, p0_2) => (c6 p0_0 1 3).bind fun x1 => (chk (!(!x1)) (c6 p0_1 1 40) false).bind fun x2 => (if (bif (bif (!x1) then true else (!x2)) then true else (decide (((p0_2.length : Nat) : Int) > 120))) = true then some false else (w6 p0_2 p0_0 p0_1 T0 0).bind fun X17 => w7 X17 (fun _ => some true))
end Go.Proofs.YtfdlgbfeceodeaaGreat
namespace Go.Proofs.YtfdlgbfeceodeaaGreat
open Go.H
set_option linter.unusedVariables false
set_option linter.unusedSimpArgs false
set_option maxRecDepth 10000
def c4 (p0 : P0) (p1 : Int) : Nat → Bool → Int → (List Int) → Option (Bool × (List Int))
 | 0, _, _, _ => none
 | fuel + 1, u2, u3, u4 => (if (decide (u3 < ((p0.length : Nat) : Int))) = true then (gi p0 u3).bind fun x8 => (if (decide (x8 = p1)) = true then (gi p0 u3).bind fun x10 => (if (bif (decide (x10 > p1)) then (!true) else false) = true then (grd ((u4.length + [p1].length) * 8 ≤ 140737488355328)).bind fun _ => (gi p0 u3).bind fun x13 => (grd (((u4 ++ [p1]).length + [x13].length) * 8 ≤ 140737488355328)).bind fun _ => (c4 p0 p1 fuel true (IntKind.i64.wrap (u3 + 1)) ((u4 ++ [p1]) ++ [x13])) else (gi p0 u3).bind fun x15 => (grd ((u4.length + [x15].length) * 8 ≤ 140737488355328)).bind fun _ => (c4 p0 p1 fuel true (IntKind.i64.wrap (u3 + 1)) (u4 ++ [x15]))) else (gi p0 u3).bind fun x17 => (if (bif (decide (x17 > p1)) then (!u2) else false) = true then (grd ((u4.length + [p1].length) * 8 ≤ 140737488355328)).bind fun _ => (gi p0 u3).bind fun x20 => (grd (((u4 ++ [p1]).length + [x20].length) * 8 ≤ 140737488355328)).bind fun _ => (c4 p0 p1 fuel true (IntKind.i64.wrap (u3 + 1)) ((u4 ++ [p1]) ++ [x20])) else (gi p0 u3).bind fun x22 => (grd ((u4.length + [x22].length) * 8 ≤ 140737488355328)).bind fun _ => (c4 p0 p1 fuel u2 (IntKind.i64.wrap (u3 + 1)) (u4 ++ [x22])))) else some (u2, u4))
def y7 (p0 : P0) (p1 : Int) : Option (P0) := (c4 p0 p1 T0 false 0 ([] : P0)).bind (fun S47 => match S47 with | (y35, y36) => (if (!y35) = true then (grd ((y36.length + [p1].length) * 8 ≤ 140737488355328)).bind fun _ => some (y36 ++ [p1]) else some y36))
def I7 (p0 : P0) (p1 : Int) : Nat → Int → Option ((Bool) ⊕ (Unit))
 | 0, _ => none
 | fuel + 1, u2 => (if (decide (u2 < ((p0.length : Nat) : Int))) = true then (gi p0 u2).bind fun x6 => (if (decide (x6 = p1)) = true then some (.inl true) else (I7 p0 p1 fuel (IntKind.i64.wrap (u2 + 1)))) else some (.inr ()))
def S7 (p0 : P0) (p1 : Int) : Option (Bool) := (I7 p0 p1 T0 0).bind fun X10 => w7 X10 (fun _ => some false)
def O3 (p0_2 : J0) (p2 : Int) (p1 : Int) : Nat → P0 → Int → Option (P0)
 | 0, _, _ => none
 | fuel + 1, u6, u7 => (if (decide (u7 < ((p0_2.length : Nat) : Int))) = true then (gi p0_2 u7).bind fun x11 => match x11 with | (x11_0, x11_1, x11_2) => (if (bif (bif (decide (p2 > 0)) then (decide (x11_1 = p2)) else false) then (decide (x11_0 = p1)) else false) = true then (y7 u6 x11_2).bind fun x13 => (if (bif (bif (decide (p2 < 0)) then (decide (x11_1 = (IntKind.i64.wrap (0 - p2)))) else false) then (decide (x11_2 = p1)) else false) = true then (y7 x13 x11_0).bind fun x17 => (O3 p0_2 p2 p1 fuel x17 (IntKind.i64.wrap (u7 + 1))) else (O3 p0_2 p2 p1 fuel x13 (IntKind.i64.wrap (u7 + 1)))) else (if (bif (bif (decide (p2 < 0)) then (decide (x11_1 = (IntKind.i64.wrap (0 - p2)))) else false) then (decide (x11_2 = p1)) else false) = true then (y7 u6 x11_0).bind fun x21 => (O3 p0_2 p2 p1 fuel x21 (IntKind.i64.wrap (u7 + 1))) else (O3 p0_2 p2 p1 fuel u6 (IntKind.i64.wrap (u7 + 1))))) else some (u6))
def T8 (p0 : l0) (p1 : Int) (p2 : Int) : Option (P0) := match p0 with | (p0_0, p0_1, p0_2) => (O3 p0_2 p2 p1 T0 ([] : P0) 0).bind (fun y25 => some y25)
def K6 (p0 : l0) (p1 : Int) (p2 : Int) : Option (Int) := match p0 with | (p0_0, p0_1, p0_2) => (T8 (p0_0, p0_1, p0_2) p1 p2).bind fun x1 => (if (decide (((x1.length : Nat) : Int) = 0)) = true then some (-1) else (gi x1 0).bind fun x5 => some x5)
def O5 (u2 : Int) (p0_2 : J0) : Nat → Int → Option ((Bool) ⊕ (Unit))
 | 0, _ => none
 | fuel + 1, u8 => (if (decide (u8 < u2)) = true then (gi p0_2 u2).bind fun x12 => match x12 with | (x12_0, x12_1, x12_2) => (gi p0_2 u8).bind fun x13 => match x13 with | (x13_0, x13_1, x13_2) => (if (bif (decide (x12_1 = x13_1)) then (bif (decide (x12_0 = x13_0)) then true else (decide (x12_2 = x13_2))) else false) = true then some (.inl false) else (O5 u2 p0_2 fuel (IntKind.i64.wrap (u8 + 1)))) else some (.inr ()))
def O4 (p0_2 : J0) (p0_0 : Int) (p0_1 : Int) : Nat → Int → Option ((Bool) ⊕ (Unit))
 | 0, _ => none
 | fuel + 1, u2 => (chk (decide (u2 < ((p0_2.length : Nat) : Int))) (N3 (p0_0, p0_1, p0_2)) false).bind fun x5 => (if (bif (decide (u2 < ((p0_2.length : Nat) : Int))) then x5 else false) = true then (O5 u2 p0_2 T0 0).bind fun X17 => d0c X17 (fun _ => (O4 p0_2 p0_0 p0_1 fuel (IntKind.i64.wrap (u2 + 1)))) else some (.inr ()))
def g6 (p0 : l0) : Option (Bool) := match p0 with | (p0_0, p0_1, p0_2) => (O4 p0_2 p0_0 p0_1 T0 0).bind fun X22 => w7 X22 (fun _ => (N3 (p0_0, p0_1, p0_2)).bind fun x20 => some x20)
def P5 (p2 : P0) (p0_0 : Int) (p0_1 : Int) (p0_2 : J0) : Nat → Int → Int → Option ((Int × Bool) ⊕ (Int))
 | 0, _, _ => none
 | fuel + 1, u5, u6 => (if (decide (u6 < ((p2.length : Nat) : Int))) = true then (gi p2 u6).bind fun x10 => (K6 (p0_0, p0_1, p0_2) u5 x10).bind fun x11 => (grd (H0 x11)).bind fun _ => (if (decide (x11 < 0)) = true then some (.inl ((-1), false)) else (P5 p2 p0_0 p0_1 p0_2 fuel x11 (IntKind.i64.wrap (u6 + 1)))) else some (.inr (u5)))
def r9 (p0 : l0) (p1 : Int) (p2 : P0) : Option (Int × Bool) := match p0 with | (p0_0, p0_1, p0_2) => (g6 (p0_0, p0_1, p0_2)).bind fun x1 => (chk (!(!x1)) (F4 p1 0 (IntKind.i64.wrap (p0_1 - 1))) false).bind fun x2 => (if (bif (!x1) then true else (!x2)) = true then some ((-1), false) else (P5 p2 p0_0 p0_1 p0_2 T0 p1 0).bind fun X17 => w7 X17 (fun y15 => some (y15, true)))
def w4 (p0_2 : J0) (p2 : Int) (p1 : Int) : Nat → Int → (List Int) → Option ((List Int))
 | 0, _, _ => none
 | fuel + 1, u2, u3 => (if (decide (u2 < ((p0_2.length : Nat) : Int))) = true then (gi p0_2 u2).bind fun x7 => match x7 with | (x7_0, x7_1, x7_2) => (if (bif (bif (decide (p2 > 0)) then (decide (x7_1 = p2)) else false) then (decide (x7_0 = p1)) else false) = true then (grd ((u3.length + [x7_2].length) * 8 ≤ 140737488355328)).bind fun _ => (w4 p0_2 p2 p1 fuel (IntKind.i64.wrap (u2 + 1)) (u3 ++ [x7_2])) else (if (bif (bif (bif (decide (p2 < 0)) then (!decide (p2 = (-9223372036854775808))) else false) then (decide (x7_1 = (IntKind.i64.wrap (0 - p2)))) else false) then (decide (x7_2 = p1)) else false) = true then (grd ((u3.length + [x7_0].length) * 8 ≤ 140737488355328)).bind fun _ => (w4 p0_2 p2 p1 fuel (IntKind.i64.wrap (u2 + 1)) (u3 ++ [x7_0])) else (w4 p0_2 p2 p1 fuel (IntKind.i64.wrap (u2 + 1)) u3))) else some (u3))
def U8 (p0 : l0) (p1 : Int) (p2 : Int) : Option (P0) := match p0 with | (p0_0, p0_1, p0_2) => (w4 p0_2 p2 p1 T0 0 ([] : P0)).bind (fun y19 => (grd (y19.length < 4611686018427387904)).bind fun _ => some (n01 eqI (G03 L7 y19)))
def L6 (p0 : l0) (p1 : Int) (p2 : Int) : Option (Int) := match p0 with | (p0_0, p0_1, p0_2) => (U8 (p0_0, p0_1, p0_2) p1 p2).bind fun x1 => (if (decide (((x1.length : Nat) : Int) = 0)) = true then some (-1) else (gi x1 0).bind fun x5 => some x5)
def Q5 (x9 : J0) (x8_1 : Int) (x8_0 : Int) (x8_2 : Int) : Nat → Int → Option ((Bool) ⊕ (Unit))
 | 0, _ => none
 | fuel + 1, u11 => (if (decide (u11 < ((x9.length : Nat) : Int))) = true then (gi x9 u11).bind fun x15 => match x15 with | (x15_0, x15_1, x15_2) => (if (bif (decide (x8_1 = x15_1)) then (bif (decide (x8_0 = x15_0)) then true else (decide (x8_2 = x15_2))) else false) = true then some (.inl false) else (Q5 x9 x8_1 x8_0 x8_2 fuel (IntKind.i64.wrap (u11 + 1)))) else some (.inr ()))
def R5 (p0_2 : J0) : Nat → Int → Option ((Bool) ⊕ (Unit))
 | 0, _ => none
 | fuel + 1, u4 => (if (decide (u4 < ((p0_2.length : Nat) : Int))) = true then (gi p0_2 u4).bind fun x8 => match x8 with | (x8_0, x8_1, x8_2) => (I06 p0_2 (IntKind.i64.wrap (u4 + 1)) (p0_2.length : Int)).bind fun x9 => (Q5 x9 x8_1 x8_0 x8_2 T0 0).bind fun X19 => d0c X19 (fun _ => (R5 p0_2 fuel (IntKind.i64.wrap (u4 + 1)))) else some (.inr ()))
def i6 (p0 : l0) : Option (Bool) := match p0 with | (p0_0, p0_1, p0_2) => (p5 (p0_0, p0_1, p0_2)).bind fun x1 => (if (!x1) = true then some false else (R5 p0_2 T0 0).bind fun X22 => w7 X22 (fun _ => some true))
def d5 (p2 : P0) (p0_0 : Int) (p0_1 : Int) (p0_2 : J0) : Nat → Int → Int → Option ((Int × Int) ⊕ (Int))
 | 0, _, _ => none
 | fuel + 1, u2, u3 => (if (decide (u3 < ((p2.length : Nat) : Int))) = true then (gi p2 u3).bind fun x7 => (L6 (p0_0, p0_1, p0_2) u2 x7).bind fun x8 => (grd (H0 x8)).bind fun _ => (if (decide (x8 < 0)) = true then some (.inl (u2, u3)) else (d5 p2 p0_0 p0_1 p0_2 fuel x8 (IntKind.i64.wrap (u3 + 1)))) else some (.inr (u2)))
def J8 (p0 : l0) (p1 : Int) (p2 : P0) : Option (Int × Int) := match p0 with | (p0_0, p0_1, p0_2) => (d5 p2 p0_0 p0_1 p0_2 T0 p1 0).bind fun X14 => w7 X14 (fun y12 => some (y12, ((p2.length : Nat) : Int)))
end Go.Proofs.YtfdlgbfeceodeaaGreat
namespace Go.Proofs.YtfdlgbfeceodeaaGreat
open Go.H
set_option linter.unusedVariables false
set_option linter.unusedSimpArgs false
set_option maxRecDepth 10000
def P2 (p0 : l0) : Option (l0) := match p0 with | (p0_0, p0_1, p0_2) => (grd ((([] : J0).length + p0_2.length) * 24 ≤ 140737488355328)).bind fun _ => some (p0_0, p0_1, (([] : J0) ++ p0_2))
def d4 (p0 : J0) (p1_0 : Int) (p1_1 : Int) (p1_2 : Int) : Nat → Bool → Int → (List C0) → Option (Bool × (List C0))
 | 0, _, _, _ => none
 | fuel + 1, u2, u3, u4 => (if (decide (u3 < ((p0.length : Nat) : Int))) = true then (gi p0 u3).bind fun x8 => match x8 with | (x8_0, x8_1, x8_2) => (R6 (p1_0, p1_1, p1_2) (x8_0, x8_1, x8_2)).bind fun x9 => (grd (H0 x9)).bind fun _ => (if (decide (x9 = 0)) = true then (if (bif (decide (x9 < 0)) then (!true) else false) = true then (grd ((u4.length + ([(p1_0, p1_1, p1_2)]).length) * 24 ≤ 140737488355328)).bind fun _ => (gi p0 u3).bind fun x14 => match x14 with | (x14_0, x14_1, x14_2) => (grd (((u4 ++ [(p1_0, p1_1, p1_2)]).length + ([(x14_0, x14_1, x14_2)]).length) * 24 ≤ 140737488355328)).bind fun _ => (d4 p0 p1_0 p1_1 p1_2 fuel true (IntKind.i64.wrap (u3 + 1)) ((u4 ++ [(p1_0, p1_1, p1_2)]) ++ [(x14_0, x14_1, x14_2)])) else (gi p0 u3).bind fun x16 => match x16 with | (x16_0, x16_1, x16_2) => (grd ((u4.length + ([(x16_0, x16_1, x16_2)]).length) * 24 ≤ 140737488355328)).bind fun _ => (d4 p0 p1_0 p1_1 p1_2 fuel true (IntKind.i64.wrap (u3 + 1)) (u4 ++ [(x16_0, x16_1, x16_2)]))) else (if (bif (decide (x9 < 0)) then (!u2) else false) = true then (grd ((u4.length + ([(p1_0, p1_1, p1_2)]).length) * 24 ≤ 140737488355328)).bind fun _ => (gi p0 u3).bind fun x20 => match x20 with | (x20_0, x20_1, x20_2) => (grd (((u4 ++ [(p1_0, p1_1, p1_2)]).length + ([(x20_0, x20_1, x20_2)]).length) * 24 ≤ 140737488355328)).bind fun _ => (d4 p0 p1_0 p1_1 p1_2 fuel true (IntKind.i64.wrap (u3 + 1)) ((u4 ++ [(p1_0, p1_1, p1_2)]) ++ [(x20_0, x20_1, x20_2)])) else (gi p0 u3).bind fun x22 => match x22 with | (x22_0, x22_1, x22_2) => (grd ((u4.length + ([(x22_0, x22_1, x22_2)]).length) * 24 ≤ 140737488355328)).bind fun _ => (d4 p0 p1_0 p1_1 p1_2 fuel u2 (IntKind.i64.wrap (u3 + 1)) (u4 ++ [(x22_0, x22_1, x22_2)])))) else some (u2, u4))
def M6 (p0 : J0) (p1 : C0) : Option (J0) := match p1 with | (p1_0, p1_1, p1_2) => (d4 p0 p1_0 p1_1 p1_2 T0 false 0 ([] : J0)).bind (fun S47 => match S47 with | (y35, y36) => (if (!y35) = true then (grd ((y36.length + ([(p1_0, p1_1, p1_2)]).length) * 24 ≤ 140737488355328)).bind fun _ => some (y36 ++ [(p1_0, p1_1, p1_2)]) else some y36))
def n3 (p0_2 : J0) (p1 : Int) : Nat → Int → Int → Option (Int)
 | 0, _, _ => none
 | fuel + 1, u2, u3 => (if (decide (u3 < ((p0_2.length : Nat) : Int))) = true then (gi p0_2 u3).bind fun x7 => match x7 with | (x7_0, x7_1, x7_2) => (if (decide (x7_0 = p1)) = true then (gi p0_2 u3).bind fun x9 => match x9 with | (x9_0, x9_1, x9_2) => (if (decide (x9_2 = p1)) = true then (n3 p0_2 p1 fuel (IntKind.i64.wrap ((IntKind.i64.wrap (u2 + 1)) + 1)) (IntKind.i64.wrap (u3 + 1))) else (n3 p0_2 p1 fuel (IntKind.i64.wrap (u2 + 1)) (IntKind.i64.wrap (u3 + 1)))) else (gi p0_2 u3).bind fun x11 => match x11 with | (x11_0, x11_1, x11_2) => (if (decide (x11_2 = p1)) = true then (n3 p0_2 p1 fuel (IntKind.i64.wrap (u2 + 1)) (IntKind.i64.wrap (u3 + 1))) else (n3 p0_2 p1 fuel u2 (IntKind.i64.wrap (u3 + 1))))) else some (u2))
def G8 (p0 : l0) (p1 : Int) : Option (Int) := match p0 with | (p0_0, p0_1, p0_2) => (n3 p0_2 p1 T0 0 0).bind (fun y14 => some y14)
def l3 (p0_2 : J0) : Nat → P0 → Int → Option (P0)
 | 0, _, _ => none
 | fuel + 1, u19, u20 => (if (decide (u20 < ((p0_2.length : Nat) : Int))) = true then (gi p0_2 u20).bind fun x24 => match x24 with | (x24_0, x24_1, x24_2) => (S7 u19 x24_0).bind fun x25 => (if x25 = true then (y7 u19 x24_2).bind fun x27 => (S7 x27 x24_2).bind fun x30 => (if x30 = true then (y7 x27 x24_0).bind fun x32 => (l3 p0_2 fuel x32 (IntKind.i64.wrap (u20 + 1))) else (l3 p0_2 fuel x27 (IntKind.i64.wrap (u20 + 1)))) else (S7 u19 x24_2).bind fun x35 => (if x35 = true then (y7 u19 x24_0).bind fun x37 => (l3 p0_2 fuel x37 (IntKind.i64.wrap (u20 + 1))) else (l3 p0_2 fuel u19 (IntKind.i64.wrap (u20 + 1))))) else some (u19))
def Q4 (p0_2 : J0) : Nat → P0 → Int → Option (P0)
 | 0, _, _ => none
 | fuel + 1, u13, u14 => (if (decide (u14 < (IntKind.i64.wrap (((p0_2.length : Nat) : Int) + 1)))) = true then (l3 p0_2 T0 u13 0).bind (fun y41 => (Q4 p0_2 fuel y41 (IntKind.i64.wrap (u14 + 1)))) else some (u13))
def p8 (p0 : l0) (p1 : Int) : Option (P0) := match p0 with | (p0_0, p0_1, p0_2) => (N3 (p0_0, p0_1, p0_2)).bind fun x1 => (chk (!(!x1)) (F4 p1 0 (IntKind.i64.wrap (p0_1 - 1))) false).bind fun x2 => (if (bif (!x1) then true else (!x2)) = true then some ([] : P0) else (Q4 p0_2 T0 [p1] 0).bind (fun y45 => some y45))
def W6 (p0_1 : Int) (p0_0 : Int) (p0_2 : J0) (x1 : P0) : Nat → Int → Option ((Int) ⊕ (Unit))
 | 0, _ => none
 | fuel + 1, u5 => (if (decide (u5 < p0_1)) = true then (G8 (p0_0, p0_1, p0_2) u5).bind fun x9 => (grd (H0 x9)).bind fun _ => (chk (!(decide (x9 < 2))) (S7 x1 u5) false).bind fun x11 => (if (bif (decide (x9 < 2)) then true else (!x11)) = true then some (.inl u5) else (W6 p0_1 p0_0 p0_2 x1 fuel (IntKind.i64.wrap (u5 + 1)))) else some (.inr ()))
def F00 (p0 : l0) : Option (Int) := match p0 with | (p0_0, p0_1, p0_2) => (p8 (p0_0, p0_1, p0_2) 0).bind fun x1 => (W6 p0_1 p0_0 p0_2 x1 T0 1).bind fun X15 => w7 X15 (fun _ => some (-1))
def I3 (p0_2 : J0) (u9 : (List Int)) : Nat → Int → Int → Int → J0 → Option (Int × Int × J0)
 | 0, _, _, _, _ => none
 | fuel + 1, u24, u25, u26, u27 => (if (decide (u24 < ((p0_2.length : Nat) : Int))) = true then (gi p0_2 u24).bind fun x31 => match x31 with | (x31_0, x31_1, x31_2) => (gi u9 x31_0).bind fun x32 => (chk (decide (x32 > 0)) (gi u9 x31_2) 0).bind fun x33 => (if (bif (decide (x32 > 0)) then (decide (x33 > 0)) else false) = true then (gi u9 x31_0).bind fun x35 => (gi u9 x31_2).bind fun x42 => (M6 u27 ((IntKind.i64.wrap (x35 - 1)), x31_1, (IntKind.i64.wrap (x42 - 1)))).bind fun x51 => (I3 p0_2 u9 fuel (IntKind.i64.wrap (u24 + 1)) u25 u26 x51) else (I3 p0_2 u9 fuel (IntKind.i64.wrap (u24 + 1)) u25 u26 u27)) else some (u25, u26, u27))
def f4 (p1 : P0) (p0_1 : Int) (p0_0 : Int) (p0_2 : J0) : Nat → Int → (List Int) → Option ((l0 × Bool) ⊕ ((List Int)))
 | 0, _, _ => none
 | fuel + 1, u8, u9 => (if (decide (u8 < ((p1.length : Nat) : Int))) = true then (gi p1 u8).bind fun x13 => (F4 x13 0 (IntKind.i64.wrap (p0_1 - 1))).bind fun x14 => (chk (!(!x14)) (gi p1 u8) 0).bind fun x15 => (chk (!(!x14)) (gi u9 x15) 0).bind fun x16 => (if (bif (!x14) then true else (!decide (x16 = 0))) = true then (P2 (p0_0, p0_1, p0_2)).bind fun x18 => match x18 with | (x18_0, x18_1, x18_2) => some (.inl ((x18_0, x18_1, x18_2), false)) else (gi p1 u8).bind fun x21 => (gi u9 x21).bind fun x22 => (f4 p1 p0_1 p0_0 p0_2 fuel (IntKind.i64.wrap (u8 + 1)) (u9.set x21.toNat (IntKind.i64.wrap (u8 + 1))))) else some (.inr (u9)))
def A6 (p0 : l0) (p1 : P0) : Option (l0 × Bool) := match p0 with | (p0_0, p0_1, p0_2) => (N3 (p0_0, p0_1, p0_2)).bind fun x1 => (if (bif (bif (!x1) then true else (decide (((p1.length : Nat) : Int) = 0))) then true else (decide (((p1.length : Nat) : Int) > p0_1))) = true then (P2 (p0_0, p0_1, p0_2)).bind fun x3 => match x3 with | (x3_0, x3_1, x3_2) => some ((x3_0, x3_1, x3_2), false) else (grd ((0 : Int) ≤ p0_1 ∧ p0_1 ≤ p0_1 ∧ p0_1 * 8 ≤ 140737488355328 ∧ p0_1 ≤ 9223372036854775807)).bind fun _ => (f4 p1 p0_1 p0_0 p0_2 T0 0 (List.replicate p0_1.toNat (0 : Int))).bind fun X100 => w7 X100 (fun y61 => (I3 p0_2 y61 T0 0 p0_0 ((p1.length : Nat) : Int) ([] : J0)).bind (fun S97 => match S97 with | (y94, y95, y96) => some ((y94, y95, y96), true))))
def s5 (p0 : Int) : Nat → Int → (List Int) → Option ((List Int))
 | 0, _, _ => none
 | fuel + 1, u2, u3 => (if (decide (u2 ≤ p0)) = true then (grd ((u3.length + [u2].length) * 8 ≤ 140737488355328)).bind fun _ => (grd (((u3 ++ [u2]).length + ([(IntKind.i64.wrap (0 - u2))]).length) * 8 ≤ 140737488355328)).bind fun _ => (s5 p0 fuel (IntKind.i64.wrap (u2 + 1)) ((u3 ++ [u2]) ++ [(IntKind.i64.wrap (0 - u2))])) else some (u3))
def n7 (p0 : Int) : Option (P0) := (s5 p0 T0 1 ([] : P0)).bind (fun y14 => some y14)
def A3 (x7 : P0) (u11 : Int) (p0_0 : Int) (p0_1 : Int) (p0_2 : J0) : Nat → Int → (List Int) → Option ((List Int))
 | 0, _, _ => none
 | fuel + 1, u19, u20 => (if (decide (u19 < ((x7.length : Nat) : Int))) = true then (gi u20 u11).bind fun x24 => (gi x7 u19).bind fun x25 => (K6 (p0_0, p0_1, p0_2) x24 x25).bind fun x26 => (grd (H0 x26)).bind fun _ => (chk (decide (x26 ≥ 0)) (S7 u20 x26) false).bind fun x28 => (if (bif (decide (x26 ≥ 0)) then (!x28) else false) = true then (grd ((u20.length + [x26].length) * 8 ≤ 140737488355328)).bind fun _ => (A3 x7 u11 p0_0 p0_1 p0_2 fuel (IntKind.i64.wrap (u19 + 1)) (u20 ++ [x26])) else (A3 x7 u11 p0_0 p0_1 p0_2 fuel (IntKind.i64.wrap (u19 + 1)) u20)) else some (u20))
def K4 (x7 : P0) (p0_0 : Int) (p0_1 : Int) (p0_2 : J0) : Nat → Int → (List Int) → Option ((List Int))
 | 0, _, _ => none
 | fuel + 1, u11, u12 => (some u12.length).bind fun m15 => (grd (m15 ≤ 9223372036854775807)).bind fun _ => (if (decide (u11 < ((m15 : Nat) : Int))) = true then (A3 x7 u11 p0_0 p0_1 p0_2 T0 0 u12).bind (fun y36 => (K4 x7 p0_0 p0_1 p0_2 fuel (IntKind.i64.wrap (u11 + 1)) y36)) else some (u12))
def Z6 (p0 : l0) : Option (P0) := match p0 with | (p0_0, p0_1, p0_2) => (g6 (p0_0, p0_1, p0_2)).bind fun x1 => (if (!x1) = true then some ([] : P0) else (n7 p0_0).bind fun x7 => (K4 x7 p0_0 p0_1 p0_2 T0 0 [0]).bind (fun y44 => some y44))
def c7 (p0 : l0) : Option (l0) := match p0 with | (p0_0, p0_1, p0_2) => (Z6 (p0_0, p0_1, p0_2)).bind fun x1 => (if (decide (((x1.length : Nat) : Int) = 0)) = true then (P2 (p0_0, p0_1, p0_2)).bind fun x5 => match x5 with | (x5_0, x5_1, x5_2) => some (x5_0, x5_1, x5_2) else (A6 (p0_0, p0_1, p0_2) x1).bind fun x8 => match x8 with | (x8_0, x8_1) => match x8_0 with | (x8_0_0, x8_0_1, x8_0_2) => some (x8_0_0, x8_0_1, x8_0_2))
end Go.Proofs.YtfdlgbfeceodeaaGreat
namespace Go.Proofs.YtfdlgbfeceodeaaGreat
open Go.H
set_option linter.unusedVariables false
set_option linter.unusedSimpArgs false
set_option maxRecDepth 10000
def C2 (p0 : l0) : Option (l0) := match p0 with | (p0_0, p0_1, p0_2) => (grd ((([] : J0).length + p0_2.length) * 24 ≤ 140737488355328)).bind fun _ => some (p0_0, p0_1, (([] : J0) ++ p0_2))
def P4 (p0_2 : J0) (p1 : Int) : Nat → Int → Int → Option (Int)
 | 0, _, _ => none
 | fuel + 1, u2, u3 => (if (decide (u3 < ((p0_2.length : Nat) : Int))) = true then (gi p0_2 u3).bind fun x7 => match x7 with | (x7_0, x7_1, x7_2) => (if (decide (x7_0 = p1)) = true then (if (decide (x7_2 = p1)) = true then (P4 p0_2 p1 fuel (IntKind.i64.wrap ((IntKind.i64.wrap (u2 + 1)) + 1)) (IntKind.i64.wrap (u3 + 1))) else (P4 p0_2 p1 fuel (IntKind.i64.wrap (u2 + 1)) (IntKind.i64.wrap (u3 + 1)))) else (if (decide (x7_2 = p1)) = true then (P4 p0_2 p1 fuel (IntKind.i64.wrap (u2 + 1)) (IntKind.i64.wrap (u3 + 1))) else (P4 p0_2 p1 fuel u2 (IntKind.i64.wrap (u3 + 1))))) else some (u2))
def s9 (p0 : l0) (p1 : Int) : Option (Int) := match p0 with | (p0_0, p0_1, p0_2) => (P4 p0_2 p1 T0 0 0).bind (fun y12 => some y12)
def S3 (p0_2 : J0) : Nat → Bool → Int → (List Bool) → Option (Bool × (List Bool))
 | 0, _, _, _ => none
 | fuel + 1, u10, u11, u12 => (if (decide (u11 < ((p0_2.length : Nat) : Int))) = true then (gi p0_2 u11).bind fun x16 => match x16 with | (x16_0, x16_1, x16_2) => (gi u12 x16_0).bind fun x17 => (gi u12 x16_2).bind fun x18 => (if (!(x17 == x18)) = true then (gi u12 x16_0).bind fun x20 => (gi (u12.set x16_0.toNat true) x16_2).bind fun x21 => (S3 p0_2 fuel true (IntKind.i64.wrap (u11 + 1)) ((u12.set x16_0.toNat true).set x16_2.toNat true)) else (S3 p0_2 fuel u10 (IntKind.i64.wrap (u11 + 1)) u12)) else some (u10, u12))
def G4 (p0_2 : J0) : Nat → Bool → (List Bool) → Option ((List Bool))
 | 0, _, _ => none
 | fuel + 1, u4, u5 => (if u4 = true then (S3 p0_2 T0 false 0 u5).bind (fun S25 => match S25 with | (y23, y24) => (G4 p0_2 fuel y23 y24)) else some (u5))
def R7 (p0 : l0) (p1 : Int) : Option ((List Bool)) := match p0 with | (p0_0, p0_1, p0_2) => (grd ((0 : Int) ≤ p0_1 ∧ p0_1 ≤ p0_1 ∧ p0_1 * 1 ≤ 140737488355328 ∧ p0_1 ≤ 9223372036854775807)).bind fun _ => (gi (List.replicate p0_1.toNat (false : Bool)) p1).bind fun x2 => (G4 p0_2 T0 true ((List.replicate p0_1.toNat (false : Bool)).set p1.toNat true)).bind (fun y32 => some y32)
def B6 (p0 : Int) : Nat → Int → (List Int) → Option ((List Int))
 | 0, _, _ => none
 | fuel + 1, u2, u3 => (if (decide (u2 ≤ p0)) = true then (grd ((u3.length + ([u2, (IntKind.i64.wrap (0 - u2))]).length) * 8 ≤ 140737488355328)).bind fun _ => (B6 p0 fuel (IntKind.i64.wrap (u2 + 1)) (u3 ++ [u2, (IntKind.i64.wrap (0 - u2))])) else some (u3))
def r8 (p0 : Int) : Option (P0) := (B6 p0 T0 1 ([] : P0)).bind (fun y13 => some y13)
def V7 (p0 : J0) : Option (J0) := (grd ((([] : J0).length + p0.length) * 24 ≤ 140737488355328)).bind fun _ => (grd ((([] : J0) ++ p0).length < 4611686018427387904)).bind fun _ => some (n01 eqE (G03 M0 (([] : J0) ++ p0)))
def z7 (p0_2 : J0) (u13 : (List Int)) : Nat → Int → Int → Int → (List C0) → Option (Int × Int × (List C0))
 | 0, _, _, _, _ => none
 | fuel + 1, u20, u21, u22, u23 => (if (decide (u20 < ((p0_2.length : Nat) : Int))) = true then (gi p0_2 u20).bind fun x27 => match x27 with | (x27_0, x27_1, x27_2) => (gi u13 x27_0).bind fun x28 => (chk (decide (x28 ≥ 0)) (gi u13 x27_2) 0).bind fun x29 => (if (bif (decide (x28 ≥ 0)) then (decide (x29 ≥ 0)) else false) = true then (gi u13 x27_0).bind fun x31 => (gi u13 x27_2).bind fun x36 => (grd ((u23.length + ([(x31, x27_1, x36)]).length) * 24 ≤ 140737488355328)).bind fun _ => (z7 p0_2 u13 fuel (IntKind.i64.wrap (u20 + 1)) u21 u22 (u23 ++ [(x31, x27_1, x36)])) else (z7 p0_2 u13 fuel (IntKind.i64.wrap (u20 + 1)) u21 u22 u23)) else some (u21, u22, u23))
def W7 (p1 : P0) : Nat → Int → (List Int) → Option ((List Int))
 | 0, _, _ => none
 | fuel + 1, u12, u13 => (if (decide (u12 < ((p1.length : Nat) : Int))) = true then (gi p1 u12).bind fun x17 => (gi u13 x17).bind fun x18 => (W7 p1 fuel (IntKind.i64.wrap (u12 + 1)) (u13.set x17.toNat u12)) else some (u13))
def Y7 (m2 : Nat) : Nat → Int → (List Int) → Option ((List Int))
 | 0, _, _ => none
 | fuel + 1, u5, u6 => (if (decide (u5 < ((m2 : Nat) : Int))) = true then (gi u6 u5).bind fun x10 => (Y7 m2 fuel (IntKind.i64.wrap (u5 + 1)) (u6.set u5.toNat (-1))) else some (u6))
def T00 (p0 : l0) (p1 : P0) : Option (l0) := match p0 with | (p0_0, p0_1, p0_2) => (grd ((0 : Int) ≤ p0_1 ∧ p0_1 ≤ p0_1 ∧ p0_1 * 8 ≤ 140737488355328 ∧ p0_1 ≤ 9223372036854775807)).bind fun _ => (some (List.replicate p0_1.toNat (0 : Int)).length).bind fun m2 => (grd (m2 ≤ 9223372036854775807)).bind fun _ => (Y7 m2 T0 0 (List.replicate p0_1.toNat (0 : Int))).bind (fun y114 => (W7 p1 T0 0 y114).bind (fun y169 => (z7 p0_2 y169 T0 0 p0_0 ((p1.length : Nat) : Int) ([] : J0)).bind (fun S213 => match S213 with | (y203, y204, y205) => (V7 y205).bind fun x210 => some (y203, y204, x210))))
end Go.Proofs.YtfdlgbfeceodeaaGreat
namespace Go.Proofs.YtfdlgbfeceodeaaGreat
open Go.H
set_option linter.unusedVariables false
set_option linter.unusedSimpArgs false
set_option maxRecDepth 10000
def t9 (p0 : P0) : Option (P0) := (grd ((([] : P0).length + p0.length) * 8 ≤ 140737488355328)).bind fun _ => some (([] : P0) ++ p0)
def J4 (x17 : P0) (p0_0 : Int) (p0_1 : Int) (p0_2 : J0) (x16 : Int) : Nat → Int → (List (Option P0)) → (List Int) → Option ((List (Option P0)) × (List Int))
 | 0, _, _, _ => none
 | fuel + 1, u21, u22, u23 => (if (decide (u21 < ((x17.length : Nat) : Int))) = true then (gi x17 u21).bind fun x27 => (L6 (p0_0, p0_1, p0_2) x16 x27).bind fun x28 => (grd (H0 x28)).bind fun _ => (chk (decide (x28 ≥ 0)) (gi u22 x28) (none : Option P0)).bind fun x30 => (if (bif (decide (x28 ≥ 0)) then x30.isNone else false) = true then (gi u22 x16).bind fun x32 => (t9 (x32.getD [])).bind fun x33 => (grd ((x33.length + [x27].length) * 8 ≤ 140737488355328)).bind fun _ => (gi u22 x28).bind fun x38 => (grd ((u23.length + [x28].length) * 8 ≤ 140737488355328)).bind fun _ => (J4 x17 p0_0 p0_1 p0_2 x16 fuel (IntKind.i64.wrap (u21 + 1)) (u22.set x28.toNat (some (x33 ++ [x27]))) (u23 ++ [x28])) else (J4 x17 p0_0 p0_1 p0_2 x16 fuel (IntKind.i64.wrap (u21 + 1)) u22 u23)) else some (u22, u23))
def L5 (p0_0 : Int) (p0_1 : Int) (p0_2 : J0) : Nat → Int → (List (Option P0)) → (List Int) → Option ((List (Option P0)) × (List Int))
 | 0, _, _, _ => none
 | fuel + 1, u8, u9, u10 => (some u10.length).bind fun m13 => (grd (m13 ≤ 9223372036854775807)).bind fun _ => (if (decide (u8 < ((m13 : Nat) : Int))) = true then (gi u10 u8).bind fun x16 => (r8 p0_0).bind fun x17 => (J4 x17 p0_0 p0_1 p0_2 x16 T0 0 u9 u10).bind (fun S43 => match S43 with | (y41, y42) => (L5 p0_0 p0_1 p0_2 fuel (IntKind.i64.wrap (u8 + 1)) y41 y42)) else some (u9, u10))
def W9 (p0 : l0) (p1 : Int) : Option (P0 × V2) := match p0 with | (p0_0, p0_1, p0_2) => (grd ((0 : Int) ≤ p0_1 ∧ p0_1 ≤ p0_1 ∧ p0_1 * 24 ≤ 140737488355328 ∧ p0_1 ≤ 9223372036854775807)).bind fun _ => (gi (List.replicate p0_1.toNat (none : Option P0)) p1).bind fun x2 => (L5 p0_0 p0_1 p0_2 T0 0 ((List.replicate p0_1.toNat (none : Option P0)).set p1.toNat (some ([] : P0))) [p1]).bind (fun S64 => match S64 with | (y54, y55) => some (y55, (List.map (fun o : Option P0 => o.getD ([] : P0)) y54)))
def d7 (p0 : l0) : Option (P0) := match p0 with | (p0_0, p0_1, p0_2) => (i6 (p0_0, p0_1, p0_2)).bind fun x1 => (if (!x1) = true then some ([] : P0) else (W9 (p0_0, p0_1, p0_2) 0).bind fun x7 => match x7 with | (x7_0, x7_1) => some x7_0)
def g7 (p0 : l0) : Option (l0) := match p0 with | (p0_0, p0_1, p0_2) => (i6 (p0_0, p0_1, p0_2)).bind fun x1 => (if (!x1) = true then (C2 (p0_0, p0_1, p0_2)).bind fun x3 => match x3 with | (x3_0, x3_1, x3_2) => some (x3_0, x3_1, x3_2) else (d7 (p0_0, p0_1, p0_2)).bind fun x6 => (T00 (p0_0, p0_1, p0_2) x6).bind fun x9 => match x9 with | (x9_0, x9_1, x9_2) => some (x9_0, x9_1, x9_2))
end Go.Proofs.YtfdlgbfeceodeaaGreat
namespace Go.Proofs.YtfdlgbfeceodeaaGreat
open Go.H
set_option linter.unusedVariables false
set_option linter.unusedSimpArgs false
set_option maxRecDepth 10000
def U4 (u25 : Int) (u33 : Int) : Nat → Int → (List Int) → Option ((List Int))
 | 0, _, _ => none
 | fuel + 1, u44, u45 => (if (decide (u44 < u25)) = true then (if (!decide (u44 = u33)) = true then (grd ((u45.length + [u44].length) * 8 ≤ 140737488355328)).bind fun _ => (U4 u25 u33 fuel (IntKind.i64.wrap (u44 + 1)) (u45 ++ [u44])) else (U4 u25 u33 fuel (IntKind.i64.wrap (u44 + 1)) u45)) else some (u45))
def R3 (u25 : Int) (u24 : Int) (u26 : J0) (x29 : (List Bool)) : Nat → Int → Int → Option (Int)
 | 0, _, _ => none
 | fuel + 1, u33, u34 => (if (bif (decide (u34 < u25)) then (decide (u33 = 0)) else false) = true then (s9 (u24, u25, u26) u34).bind fun x38 => (grd (H0 x38)).bind fun _ => (chk (!(decide (x38 < 2))) (gi x29 u34) false).bind fun x40 => (if (bif (decide (x38 < 2)) then true else (!x40)) = true then (R3 u25 u24 u26 x29 fuel u34 (IntKind.i64.wrap (u34 + 1))) else (R3 u25 u24 u26 x29 fuel u33 (IntKind.i64.wrap (u34 + 1)))) else some (u33))
def p6 : Nat → P0 → Int → Int → J0 → Option ((l0 × P0) ⊕ (Int × Int × J0))
 | 0, _, _, _, _ => none
 | fuel + 1, u23, u24, u25, u26 => (R7 (u24, u25, u26) 0).bind fun x29 => (R3 u25 u24 u26 x29 T0 0 1).bind (fun y86 => (if (decide (y86 = 0)) = true then some (.inl ((u24, u25, u26), u23)) else (U4 u25 y86 T0 0 ([] : P0)).bind (fun y112 => (T00 (u24, u25, u26) y112).bind fun x117 => match x117 with | (x117_0, x117_1, x117_2) => (I06 u23 0 y86).bind fun x123 => (I06 u23 (IntKind.i64.wrap (y86 + 1)) (u23.length : Int)).bind fun x124 => (grd ((x123.length + x124.length) * 8 ≤ 140737488355328)).bind fun _ => (p6 fuel (x123 ++ x124) x117_0 x117_1 x117_2))))
def w5 (p0_1 : Int) : Nat → Int → (List Int) → Option ((List Int))
 | 0, _, _ => none
 | fuel + 1, u12, u13 => (if (decide (u12 < p0_1)) = true then (grd ((u13.length + [u12].length) * 8 ≤ 140737488355328)).bind fun _ => (w5 p0_1 fuel (IntKind.i64.wrap (u12 + 1)) (u13 ++ [u12])) else some (u13))
def W8 (p0 : l0) : Option (l0 × P0) := match p0 with | (p0_0, p0_1, p0_2) => (C2 (p0_0, p0_1, p0_2)).bind fun x1 => match x1 with | (x1_0, x1_1, x1_2) => (p5 (p0_0, p0_1, p0_2)).bind fun x5 => (if (!x5) = true then some ((x1_0, x1_1, x1_2), ([] : P0)) else (w5 p0_1 T0 0 ([] : P0)).bind (fun y134 => (p6 T0 y134 x1_0 x1_1 x1_2).bind fun X249 => w7 X249 (fun _ => none)))
end Go.Proofs.YtfdlgbfeceodeaaGreat
namespace Go.Proofs.YtfdlgbfeceodeaaGreat
open Go.H
set_option linter.unusedVariables false
set_option linter.unusedSimpArgs false
set_option maxRecDepth 10000
def w9 (p0 : Int) : Option (l0 × Bool) := (F4 p0 1 3).bind fun x1 => (if (!x1) = true then some ((0, 0, []), false) else some ((p0, 1, []), true))
def M4 (p2 : P0) (p3 : Int) : Nat → Int → Int → Int → Int → J0 → Option (Int × Int × J0)
 | 0, _, _, _, _, _ => none
 | fuel + 1, u10, u11, u12, u13, u14 => (if (decide (u11 < ((p2.length : Nat) : Int))) = true then (if (decide ((IntKind.i64.wrap (u11 + 1)) < ((p2.length : Nat) : Int))) = true then (gi p2 u11).bind fun x19 => (if (decide (x19 > 0)) = true then (gi p2 u11).bind fun x21 => (M6 u14 (u10, x21, u13)).bind fun x28 => (M4 p2 p3 fuel u13 (IntKind.i64.wrap (u11 + 1)) u12 (IntKind.i64.wrap (u13 + 1)) x28) else (gi p2 u11).bind fun x31 => (M6 u14 (u13, (IntKind.i64.wrap (0 - x31)), u10)).bind fun x40 => (M4 p2 p3 fuel u13 (IntKind.i64.wrap (u11 + 1)) u12 (IntKind.i64.wrap (u13 + 1)) x40)) else (gi p2 u11).bind fun x43 => (if (decide (x43 > 0)) = true then (gi p2 u11).bind fun x45 => (M6 u14 (u10, x45, p3)).bind fun x52 => (M4 p2 p3 fuel p3 (IntKind.i64.wrap (u11 + 1)) u12 u13 x52) else (gi p2 u11).bind fun x55 => (M6 u14 (p3, (IntKind.i64.wrap (0 - x55)), u10)).bind fun x64 => (M4 p2 p3 fuel p3 (IntKind.i64.wrap (u11 + 1)) u12 u13 x64))) else some (u12, u13, u14))
def s8 (p0 : l0) (p1 : Int) (p2 : P0) (p3 : Int) : Option (l0 × Bool) := match p0 with | (p0_0, p0_1, p0_2) => (P2 (p0_0, p0_1, p0_2)).bind fun x1 => match x1 with | (x1_0, x1_1, x1_2) => (N3 (p0_0, p0_1, p0_2)).bind fun x4 => (chk (!(!x4)) (F4 p1 0 (IntKind.i64.wrap (p0_1 - 1))) false).bind fun x5 => (chk (!(bif (!x4) then true else (!x5))) (F4 p3 0 (IntKind.i64.wrap (p0_1 - 1))) false).bind fun x6 => (chk (!(bif (bif (!x4) then true else (!x5)) then true else (!x6))) (K9 p0_0 p2) false).bind fun x7 => (if (bif (bif (bif (bif (bif (bif (!x4) then true else (!x5)) then true else (!x6)) then true else (!x7)) then true else (decide (((p2.length : Nat) : Int) = 0))) then true else (decide ((IntKind.i64.wrap ((IntKind.i64.wrap (p0_1 + ((p2.length : Nat) : Int))) - 1)) > 40))) then true else (decide ((IntKind.i64.wrap (((p0_2.length : Nat) : Int) + ((p2.length : Nat) : Int))) > 120))) = true then some ((x1_0, x1_1, x1_2), false) else (M4 p2 p3 T0 p1 0 x1_0 x1_1 x1_2).bind (fun S71 => match S71 with | (y68, y69, y70) => some ((y68, y69, y70), true)))
def z9 (p0 : l0) (p1 : P0) : Option (l0 × Bool) := match p0 with | (p0_0, p0_1, p0_2) => (s8 (p0_0, p0_1, p0_2) 0 p1 0).bind fun x1 => match x1 with | (x1_0, x1_1) => match x1_0 with | (x1_0_0, x1_0_1, x1_0_2) => some ((x1_0_0, x1_0_1, x1_0_2), x1_1)
def S5 (p1 : V2) : Nat → Int → Int → Int → J0 → Option (Int × Int × J0)
 | 0, _, _, _, _ => none
 | fuel + 1, u7, u8, u9, u10 => (if (decide (u7 < ((p1.length : Nat) : Int))) = true then (gi p1 u7).bind fun x14 => (z9 (u8, u9, u10) x14).bind fun x19 => match x19 with | (x19_0, x19_1) => match x19_0 with | (x19_0_0, x19_0_1, x19_0_2) => (S5 p1 fuel (IntKind.i64.wrap (u7 + 1)) x19_0_0 x19_0_1 x19_0_2) else some (u8, u9, u10))
def A9 (p0 : Int) (p1 : V2) : Option (l0 × Bool) := (E8 p0 p1).bind fun x1 => (if (!x1) = true then some ((0, 0, []), false) else (w9 p0).bind fun x3 => match x3 with | (x3_0, x3_1) => match x3_0 with | (x3_0_0, x3_0_1, x3_0_2) => (S5 p1 T0 0 x3_0_0 x3_0_1 x3_0_2).bind (fun S40 => match S40 with | (y37, y38, y39) => some ((y37, y38, y39), true)))
def Z3 (p0_2 : J0) (u2 : Int) : Nat → Int → (List E4) → Option ((List E4))
 | 0, _, _ => none
 | fuel + 1, u8, u9 => (if (decide (u8 < ((p0_2.length : Nat) : Int))) = true then (gi p0_2 u2).bind fun x13 => match x13 with | (x13_0, x13_1, x13_2) => (gi p0_2 u8).bind fun x14 => match x14 with | (x14_0, x14_1, x14_2) => (if (bif (decide (x13_1 = x14_1)) then (decide (x13_0 = x14_0)) else false) = true then (grd ((u9.length + ([((if x14_2 < x13_2 then x14_2 else x13_2), (if x14_2 > x13_2 then x14_2 else x13_2))]).length) * 16 ≤ 140737488355328)).bind fun _ => (if (bif (decide (x13_1 = x14_1)) then (decide (x13_2 = x14_2)) else false) = true then (grd (((u9 ++ [((if x14_2 < x13_2 then x14_2 else x13_2), (if x14_2 > x13_2 then x14_2 else x13_2))]).length + ([((if x14_0 < x13_0 then x14_0 else x13_0), (if x14_0 > x13_0 then x14_0 else x13_0))]).length) * 16 ≤ 140737488355328)).bind fun _ => (Z3 p0_2 u2 fuel (IntKind.i64.wrap (u8 + 1)) ((u9 ++ [((if x14_2 < x13_2 then x14_2 else x13_2), (if x14_2 > x13_2 then x14_2 else x13_2))]) ++ [((if x14_0 < x13_0 then x14_0 else x13_0), (if x14_0 > x13_0 then x14_0 else x13_0))])) else (Z3 p0_2 u2 fuel (IntKind.i64.wrap (u8 + 1)) (u9 ++ [((if x14_2 < x13_2 then x14_2 else x13_2), (if x14_2 > x13_2 then x14_2 else x13_2))]))) else (if (bif (decide (x13_1 = x14_1)) then (decide (x13_2 = x14_2)) else false) = true then (grd ((u9.length + ([((if x14_0 < x13_0 then x14_0 else x13_0), (if x14_0 > x13_0 then x14_0 else x13_0))]).length) * 16 ≤ 140737488355328)).bind fun _ => (Z3 p0_2 u2 fuel (IntKind.i64.wrap (u8 + 1)) (u9 ++ [((if x14_0 < x13_0 then x14_0 else x13_0), (if x14_0 > x13_0 then x14_0 else x13_0))])) else (Z3 p0_2 u2 fuel (IntKind.i64.wrap (u8 + 1)) u9))) else some (u9))
def C6 (p0_2 : J0) : Nat → Int → (List E4) → Option ((List E4))
 | 0, _, _ => none
 | fuel + 1, u2, u3 => (if (decide (u2 < ((p0_2.length : Nat) : Int))) = true then (Z3 p0_2 u2 T0 (IntKind.i64.wrap (u2 + 1)) u3).bind (fun y22 => (C6 p0_2 fuel (IntKind.i64.wrap (u2 + 1)) y22)) else some (u3))
def l00 (p0 : l0) : Option (H7) := match p0 with | (p0_0, p0_1, p0_2) => (C6 p0_2 T0 0 ([] : H7)).bind (fun y30 => some y30)
def a8 (p0 : l0) : Option (E4 × Bool) := match p0 with | (p0_0, p0_1, p0_2) => (N3 (p0_0, p0_1, p0_2)).bind fun x1 => (if (!x1) = true then some ((0, 0), false) else (l00 (p0_0, p0_1, p0_2)).bind fun x3 => (if (decide (((x3.length : Nat) : Int) = 0)) = true then some ((0, 0), false) else (gi x3 0).bind fun x7 => match x7 with | (x7_0, x7_1) => some ((x7_0, x7_1), true)))
def v00 (p0 : Int) (p1 : E4) : Option (Int) := match p1 with | (p1_0, p1_1) => (if (decide (p0 = p1_1)) = true then (if (decide (p1_0 > p1_1)) = true then some (IntKind.i64.wrap (p1_0 - 1)) else some p1_0) else (if (decide (p0 > p1_1)) = true then some (IntKind.i64.wrap (p0 - 1)) else some p0))
def i4 (p0_2 : J0) (p1_0 : Int) (p1_1 : Int) : Nat → Int → Int → Int → J0 → Option (Int × Int × J0)
 | 0, _, _, _, _ => none
 | fuel + 1, u7, u8, u9, u10 => (if (decide (u7 < ((p0_2.length : Nat) : Int))) = true then (gi p0_2 u7).bind fun x14 => match x14 with | (x14_0, x14_1, x14_2) => (v00 x14_0 (p1_0, p1_1)).bind fun x15 => (grd (H0 x15)).bind fun q16 => (v00 x14_2 (p1_0, p1_1)).bind fun x19 => (grd (H0 x19)).bind fun q20 => (M6 u10 (x15, x14_1, x19)).bind fun x25 => (i4 p0_2 p1_0 p1_1 fuel (IntKind.i64.wrap (u7 + 1)) u8 u9 x25) else some (u8, u9, u10))
def D6 (p0 : l0) (p1 : E4) : Option (l0 × Bool) := match p0 with | (p0_0, p0_1, p0_2) => match p1 with | (p1_0, p1_1) => (N3 (p0_0, p0_1, p0_2)).bind fun x1 => (if (bif (bif (bif (!x1) then true else (decide (p1_0 < 0))) then true else (decide (p1_0 ≥ p1_1))) then true else (decide (p1_1 ≥ p0_1))) = true then (P2 (p0_0, p0_1, p0_2)).bind fun x3 => match x3 with | (x3_0, x3_1, x3_2) => some ((x3_0, x3_1, x3_2), false) else (i4 p0_2 p1_0 p1_1 T0 0 p0_0 (IntKind.i64.wrap (p0_1 - 1)) ([] : J0)).bind (fun S32 => match S32 with | (y29, y30, y31) => some ((y29, y30, y31), true)))
def B9 (p0 : l0) : Option (l0 × E4 × Bool) := match p0 with | (p0_0, p0_1, p0_2) => (a8 (p0_0, p0_1, p0_2)).bind fun x1 => match x1 with | (x1_0, x1_1) => match x1_0 with | (x1_0_0, x1_0_1) => (if (!x1_1) = true then (P2 (p0_0, p0_1, p0_2)).bind fun x5 => match x5 with | (x5_0, x5_1, x5_2) => some ((x5_0, x5_1, x5_2), (0, 0), false) else (D6 (p0_0, p0_1, p0_2) (x1_0_0, x1_0_1)).bind fun x8 => match x8 with | (x8_0, x8_1) => match x8_0 with | (x8_0_0, x8_0_1, x8_0_2) => some ((x8_0_0, x8_0_1, x8_0_2), (x1_0_0, x1_0_1), true))
def F5 : Nat → Int → Int → Int → J0 → (List E4) → Option ((l0 × H7) ⊕ (Int × Int × J0 × (List E4)))
 | 0, _, _, _, _, _ => none
 | fuel + 1, u5, u6, u7, u8, u9 => (if (decide (u5 < 40)) = true then (B9 (u6, u7, u8)).bind fun x13 => match x13 with | (x13_0, x13_1, x13_2) => match x13_0 with | (x13_0_0, x13_0_1, x13_0_2) => match x13_1 with | (x13_1_0, x13_1_1) => (if (!x13_2) = true then some (.inl ((u6, u7, u8), u9)) else (grd ((u9.length + ([(x13_1_0, x13_1_1)]).length) * 16 ≤ 140737488355328)).bind fun _ => (F5 fuel (IntKind.i64.wrap (u5 + 1)) x13_0_0 x13_0_1 x13_0_2 (u9 ++ [(x13_1_0, x13_1_1)]))) else some (.inr (u6, u7, u8, u9)))
def N6 (p0 : l0) : Option (l0 × H7) := match p0 with | (p0_0, p0_1, p0_2) => (P2 (p0_0, p0_1, p0_2)).bind fun x1 => match x1 with | (x1_0, x1_1, x1_2) => (F5 T0 0 x1_0 x1_1 x1_2 ([] : H7)).bind fun X36 => w7 X36 (fun S35 => match S35 with | (y27, y28, y29, y30) => some ((y27, y28, y29), y30))
def c8 (p0 : l0) : Option (l0 × Bool) := match p0 with | (p0_0, p0_1, p0_2) => (P2 (p0_0, p0_1, p0_2)).bind fun x1 => match x1 with | (x1_0, x1_1, x1_2) => (N3 (p0_0, p0_1, p0_2)).bind fun x4 => (if (bif (!x4) then true else (decide (p0_1 ≥ 40))) = true then some ((x1_0, x1_1, x1_2), false) else some ((x1_0, (IntKind.i64.wrap (p0_1 + 1)), x1_2), true))
def t8 (p0 : l0) (p1 : C0) : Option (l0 × Bool) := match p0 with | (p0_0, p0_1, p0_2) => match p1 with | (p1_0, p1_1, p1_2) => (P2 (p0_0, p0_1, p0_2)).bind fun x1 => match x1 with | (x1_0, x1_1, x1_2) => (N3 (p0_0, p0_1, p0_2)).bind fun x4 => (chk (!(!x4)) (M9 (p0_0, p0_1, p0_2) (p1_0, p1_1, p1_2)) false).bind fun x5 => (if (bif (bif (!x4) then true else (!x5)) then true else (decide (((p0_2.length : Nat) : Int) ≥ 120))) = true then some ((x1_0, x1_1, x1_2), false) else (M6 p0_2 (p1_0, p1_1, p1_2)).bind fun x7 => some ((x1_0, x1_1, x7), (decide (((x7.length : Nat) : Int) > ((p0_2.length : Nat) : Int)))))
def B3 (x8 : P0) (p0_0 : Int) (p0_1 : Int) (p0_2 : J0) (u2 : Int) : Nat → Int → (List C0) → Option ((List C0))
 | 0, _, _ => none
 | fuel + 1, u12, u13 => (if (decide (u12 < ((x8.length : Nat) : Int))) = true then (gi x8 u12).bind fun x17 => (K6 (p0_0, p0_1, p0_2) u2 x17).bind fun x18 => (grd (H0 x18)).bind fun _ => (if (decide (x18 < 0)) = true then (gi x8 u12).bind fun x21 => (grd ((u13.length + ([(u2, x21, (-1))]).length) * 24 ≤ 140737488355328)).bind fun _ => (B3 x8 p0_0 p0_1 p0_2 u2 fuel (IntKind.i64.wrap (u12 + 1)) (u13 ++ [(u2, x21, (-1))])) else (B3 x8 p0_0 p0_1 p0_2 u2 fuel (IntKind.i64.wrap (u12 + 1)) u13)) else some (u13))
def H4 (p0_1 : Int) (p0_0 : Int) (p0_2 : J0) : Nat → Int → (List C0) → Option ((List C0))
 | 0, _, _ => none
 | fuel + 1, u2, u3 => (chk (decide (u2 < p0_1)) (g6 (p0_0, p0_1, p0_2)) false).bind fun x6 => (if (bif (decide (u2 < p0_1)) then x6 else false) = true then (n7 p0_0).bind fun x8 => (B3 x8 p0_0 p0_1 p0_2 u2 T0 0 u3).bind (fun y24 => (H4 p0_1 p0_0 p0_2 fuel (IntKind.i64.wrap (u2 + 1)) y24)) else some (u3))
def S6 (p0 : l0) : Option (J0) := match p0 with | (p0_0, p0_1, p0_2) => (H4 p0_1 p0_0 p0_2 T0 0 ([] : J0)).bind (fun y32 => some y32)
end Go.Proofs.YtfdlgbfeceodeaaGreat
namespace Go.Proofs.YtfdlgbfeceodeaaGreat
open Go.H
set_option linter.unusedVariables false
set_option linter.unusedSimpArgs false
set_option maxRecDepth 10000
def m00 (p0 : Int) (p1 : Int) (p2 : Int) : Option (C0) := (if (decide (p1 < 0)) = true then some (p2, (IntKind.i64.wrap (0 - p1)), p0) else some (p0, p1, p2))
def H1 (p0 : J0) (p1_0 : Int) (p1_1 : Int) (p1_2 : Int) : Nat → Int → Option ((Int) ⊕ (Unit))
 | 0, _ => none
 | fuel + 1, u2 => (if (decide (u2 < ((p0.length : Nat) : Int))) = true then (gi p0 u2).bind fun x6 => match x6 with | (x6_0, x6_1, x6_2) => (if (eqE (p1_0, p1_1, p1_2) (x6_0, x6_1, x6_2)) = true then some (.inl u2) else (H1 p0 p1_0 p1_1 p1_2 fuel (IntKind.i64.wrap (u2 + 1)))) else some (.inr ()))
def B4 (p0 : J0) (p1 : C0) : Option (Int) := match p1 with | (p1_0, p1_1, p1_2) => (H1 p0 p1_0 p1_1 p1_2 T0 0).bind fun X10 => w7 X10 (fun _ => some (-1))
def Q2 (p0 : J0) (p1 : C0) : Option (Bool) := match p1 with | (p1_0, p1_1, p1_2) => (B4 p0 (p1_0, p1_1, p1_2)).bind fun x1 => (grd (H0 x1)).bind fun _ => some (decide (x1 ≥ 0))
def G5 (p0 : Int) (p1 : E4) : Option (Int) := match p1 with | (p1_0, p1_1) => (if (decide (p0 = p1_1)) = true then some p1_0 else (if (decide (p0 > p1_1)) = true then some (IntKind.i64.wrap (p0 - 1)) else some p0))
def H5 (p2 : P0) (p3 : Int) : Nat → Int → Int → Int → Int → J0 → Option (Int × Int × J0)
 | 0, _, _, _, _, _ => none
 | fuel + 1, u11, u12, u13, u14, u15 => (if (decide (u12 < ((p2.length : Nat) : Int))) = true then (gi p2 u12).bind fun x19 => (if (decide (u12 < (IntKind.i64.wrap (((p2.length : Nat) : Int) - 1)))) = true then (m00 u11 x19 u14).bind fun x21 => match x21 with | (x21_0, x21_1, x21_2) => (grd ((u15.length + ([(x21_0, x21_1, x21_2)]).length) * 24 ≤ 140737488355328)).bind fun _ => (H5 p2 p3 fuel u14 (IntKind.i64.wrap (u12 + 1)) u13 (IntKind.i64.wrap (u14 + 1)) (u15 ++ [(x21_0, x21_1, x21_2)])) else (m00 u11 x19 p3).bind fun x26 => match x26 with | (x26_0, x26_1, x26_2) => (grd ((u15.length + ([(x26_0, x26_1, x26_2)]).length) * 24 ≤ 140737488355328)).bind fun _ => (H5 p2 p3 fuel p3 (IntKind.i64.wrap (u12 + 1)) u13 u14 (u15 ++ [(x26_0, x26_1, x26_2)]))) else some (u13, u14, u15))
def w8 (p0 : l0) (p1 : Int) (p2 : P0) (p3 : Int) : Option (l0 × Bool) := match p0 with | (p0_0, p0_1, p0_2) => (C2 (p0_0, p0_1, p0_2)).bind fun x1 => match x1 with | (x1_0, x1_1, x1_2) => (p5 (p0_0, p0_1, p0_2)).bind fun x5 => (chk (!(!x5)) (E5 (p0_0, p0_1, p0_2) p1) false).bind fun x6 => (chk (!(bif (!x5) then true else (!x6))) (E5 (p0_0, p0_1, p0_2) p3) false).bind fun x7 => (chk (!(bif (bif (bif (!x5) then true else (!x6)) then true else (!x7)) then true else (decide (((p2.length : Nat) : Int) = 0)))) (L9 p0_0 p2) false).bind fun x8 => (if (bif (bif (bif (bif (bif (bif (!x5) then true else (!x6)) then true else (!x7)) then true else (decide (((p2.length : Nat) : Int) = 0))) then true else (!x8)) then true else (decide ((IntKind.i64.wrap ((IntKind.i64.wrap (p0_1 + ((p2.length : Nat) : Int))) - 1)) > 40))) then true else (decide ((IntKind.i64.wrap (((p0_2.length : Nat) : Int) + ((p2.length : Nat) : Int))) > 120))) = true then some ((x1_0, x1_1, x1_2), false) else (H5 p2 p3 T0 p1 0 x1_0 x1_1 x1_2).bind (fun S41 => match S41 with | (y35, y36, y37) => (V7 y37).bind fun x38 => some ((y35, y36, x38), true)))
def C9 (p0 : Int) : Option (l0 × Bool) := (c6 p0 1 3).bind fun x1 => (if (!x1) = true then some ((0, 0, []), false) else some ((p0, 1, []), true))
def D9 (p0 : l0) (p1 : P0) : Option (l0 × Bool) := match p0 with | (p0_0, p0_1, p0_2) => (w8 (p0_0, p0_1, p0_2) 0 p1 0).bind fun x1 => match x1 with | (x1_0, x1_1) => match x1_0 with | (x1_0_0, x1_0_1, x1_0_2) => some ((x1_0_0, x1_0_1, x1_0_2), x1_1)
def n5 (p1 : V2) : Nat → Int → Int → Int → J0 → Option (Int × Int × J0)
 | 0, _, _, _, _ => none
 | fuel + 1, u8, u9, u10, u11 => (if (decide (u8 < ((p1.length : Nat) : Int))) = true then (gi p1 u8).bind fun x15 => (if (decide (((x15.length : Nat) : Int) > 0)) = true then (D9 (u9, u10, u11) x15).bind fun x17 => match x17 with | (x17_0, x17_1) => match x17_0 with | (x17_0_0, x17_0_1, x17_0_2) => (n5 p1 fuel (IntKind.i64.wrap (u8 + 1)) x17_0_0 x17_0_1 x17_0_2) else (n5 p1 fuel (IntKind.i64.wrap (u8 + 1)) u9 u10 u11)) else some (u9, u10, u11))
def E9 (p0 : Int) (p1 : V2) : Option (l0 × Bool) := (F8 p0 p1).bind fun x1 => (if (!x1) = true then some ((0, 0, []), false) else (C9 p0).bind fun x3 => match x3 with | (x3_0, x3_1) => match x3_0 with | (x3_0_0, x3_0_1, x3_0_2) => (n5 p1 T0 0 x3_0_0 x3_0_1 x3_0_2).bind (fun S25 => match S25 with | (y22, y23, y24) => some ((y22, y23, y24), true)))
def N4 (x8 : J0) (x7_1 : Int) (x7_0 : Int) (x7_2 : Int) : Nat → Int → (List E4) → Option ((List E4))
 | 0, _, _ => none
 | fuel + 1, u10, u11 => (if (decide (u10 < ((x8.length : Nat) : Int))) = true then (gi x8 u10).bind fun x15 => match x15 with | (x15_0, x15_1, x15_2) => (if (!decide (x7_1 = x15_1)) = true then (N4 x8 x7_1 x7_0 x7_2 fuel (IntKind.i64.wrap (u10 + 1)) u11) else (if (decide (x7_0 = x15_0)) = true then (grd ((u11.length + ([((if x15_2 < x7_2 then x15_2 else x7_2), (if x15_2 > x7_2 then x15_2 else x7_2))]).length) * 16 ≤ 140737488355328)).bind fun _ => (if (decide (x7_2 = x15_2)) = true then (grd (((u11 ++ [((if x15_2 < x7_2 then x15_2 else x7_2), (if x15_2 > x7_2 then x15_2 else x7_2))]).length + ([((if x15_0 < x7_0 then x15_0 else x7_0), (if x15_0 > x7_0 then x15_0 else x7_0))]).length) * 16 ≤ 140737488355328)).bind fun _ => (N4 x8 x7_1 x7_0 x7_2 fuel (IntKind.i64.wrap (u10 + 1)) ((u11 ++ [((if x15_2 < x7_2 then x15_2 else x7_2), (if x15_2 > x7_2 then x15_2 else x7_2))]) ++ [((if x15_0 < x7_0 then x15_0 else x7_0), (if x15_0 > x7_0 then x15_0 else x7_0))])) else (N4 x8 x7_1 x7_0 x7_2 fuel (IntKind.i64.wrap (u10 + 1)) (u11 ++ [((if x15_2 < x7_2 then x15_2 else x7_2), (if x15_2 > x7_2 then x15_2 else x7_2))]))) else (if (decide (x7_2 = x15_2)) = true then (grd ((u11.length + ([((if x15_0 < x7_0 then x15_0 else x7_0), (if x15_0 > x7_0 then x15_0 else x7_0))]).length) * 16 ≤ 140737488355328)).bind fun _ => (N4 x8 x7_1 x7_0 x7_2 fuel (IntKind.i64.wrap (u10 + 1)) (u11 ++ [((if x15_0 < x7_0 then x15_0 else x7_0), (if x15_0 > x7_0 then x15_0 else x7_0))])) else (N4 x8 x7_1 x7_0 x7_2 fuel (IntKind.i64.wrap (u10 + 1)) u11)))) else some (u11))
def K7 (p0_2 : J0) : Nat → Int → (List E4) → Option ((List E4))
 | 0, _, _ => none
 | fuel + 1, u2, u3 => (if (decide (u2 < ((p0_2.length : Nat) : Int))) = true then (gi p0_2 u2).bind fun x7 => match x7 with | (x7_0, x7_1, x7_2) => (I06 p0_2 (IntKind.i64.wrap (u2 + 1)) (p0_2.length : Int)).bind fun x8 => (N4 x8 x7_1 x7_0 x7_2 T0 0 u3).bind (fun y24 => (K7 p0_2 fuel (IntKind.i64.wrap (u2 + 1)) y24)) else some (u3))
def h01 (p0 : l0) : Option (H7) := match p0 with | (p0_0, p0_1, p0_2) => (K7 p0_2 T0 0 ([] : H7)).bind (fun y32 => some y32)
def d8 (p0 : l0) : Option (E4 × Bool) := match p0 with | (p0_0, p0_1, p0_2) => (p5 (p0_0, p0_1, p0_2)).bind fun x1 => (if (!x1) = true then some ((0, 0), false) else (h01 (p0_0, p0_1, p0_2)).bind fun x3 => (if (decide (((x3.length : Nat) : Int) = 0)) = true then some ((0, 0), false) else (gi x3 0).bind fun x7 => match x7 with | (x7_0, x7_1) => some ((x7_0, x7_1), true)))
def j4 (x1_2 : J0) (p1_0 : Int) (p1_1 : Int) : Nat → Int → J0 → Option (J0)
 | 0, _, _ => none
 | fuel + 1, u9, u10 => (if (decide (u9 < ((x1_2.length : Nat) : Int))) = true then (gi u10 u9).bind fun x15 => match x15 with | (x15_0, x15_1, x15_2) => (G5 x15_0 (p1_0, p1_1)).bind fun x16 => (grd (H0 x16)).bind fun q17 => (G5 x15_2 (p1_0, p1_1)).bind fun x20 => (grd (H0 x20)).bind fun q21 => (gi u10 u9).bind fun x26 => match x26 with | (x26_0, x26_1, x26_2) => (j4 x1_2 p1_0 p1_1 fuel (IntKind.i64.wrap (u9 + 1)) (u10.set u9.toNat (x16, x15_1, x20))) else some (u10))
def E6 (p0 : l0) (p1 : E4) : Option (l0 × Bool) := match p0 with | (p0_0, p0_1, p0_2) => match p1 with | (p1_0, p1_1) => (C2 (p0_0, p0_1, p0_2)).bind fun x1 => match x1 with | (x1_0, x1_1, x1_2) => (p5 (p0_0, p0_1, p0_2)).bind fun x5 => (if (bif (bif (bif (!x5) then true else (decide (p1_0 < 0))) then true else (decide (p1_0 ≥ p1_1))) then true else (decide (p1_1 ≥ p0_1))) = true then some ((x1_0, x1_1, x1_2), false) else (j4 x1_2 p1_0 p1_1 T0 0 x1_2).bind (fun y33 => (V7 y33).bind fun x34 => some ((x1_0, (IntKind.i64.wrap (x1_1 - 1)), x34), true)))
def F9 (p0 : l0) : Option (l0 × E4 × Bool) := match p0 with | (p0_0, p0_1, p0_2) => (d8 (p0_0, p0_1, p0_2)).bind fun x1 => match x1 with | (x1_0, x1_1) => match x1_0 with | (x1_0_0, x1_0_1) => (if (!x1_1) = true then (C2 (p0_0, p0_1, p0_2)).bind fun x5 => match x5 with | (x5_0, x5_1, x5_2) => some ((x5_0, x5_1, x5_2), (0, 0), false) else (E6 (p0_0, p0_1, p0_2) (x1_0_0, x1_0_1)).bind fun x9 => match x9 with | (x9_0, x9_1) => match x9_0 with | (x9_0_0, x9_0_1, x9_0_2) => some ((x9_0_0, x9_0_1, x9_0_2), (x1_0_0, x1_0_1), true))
def F6 : Nat → Int → Int → J0 → (List E4) → Option ((l0 × H7) ⊕ (Int × Int × J0 × (List E4)))
 | 0, _, _, _, _ => none
 | fuel + 1, u6, u7, u8, u9 => (F9 (u6, u7, u8)).bind fun x12 => match x12 with | (x12_0, x12_1, x12_2) => match x12_0 with | (x12_0_0, x12_0_1, x12_0_2) => match x12_1 with | (x12_1_0, x12_1_1) => (if (!x12_2) = true then some (.inl ((u6, u7, u8), u9)) else (grd ((u9.length + ([(x12_1_0, x12_1_1)]).length) * 16 ≤ 140737488355328)).bind fun _ => (F6 fuel x12_0_0 x12_0_1 x12_0_2 (u9 ++ [(x12_1_0, x12_1_1)])))
def O6 (p0 : l0) : Option (l0 × H7) := match p0 with | (p0_0, p0_1, p0_2) => (C2 (p0_0, p0_1, p0_2)).bind fun x1 => match x1 with | (x1_0, x1_1, x1_2) => (F6 T0 x1_0 x1_1 x1_2 ([] : H7)).bind fun X22 => w7 X22 (fun _ => none)
def f8 (p0 : l0) : Option (l0 × Bool) := match p0 with | (p0_0, p0_1, p0_2) => (C2 (p0_0, p0_1, p0_2)).bind fun x1 => match x1 with | (x1_0, x1_1, x1_2) => (p5 (p0_0, p0_1, p0_2)).bind fun x5 => (if (bif (!x5) then true else (decide (p0_1 = 40))) = true then some ((x1_0, x1_1, x1_2), false) else some ((x1_0, (IntKind.i64.wrap (x1_1 + 1)), x1_2), true))
def Y8 (p0 : l0) (p1 : C0) : Option (l0 × Bool) := match p0 with | (p0_0, p0_1, p0_2) => match p1 with | (p1_0, p1_1, p1_2) => (C2 (p0_0, p0_1, p0_2)).bind fun x1 => match x1 with | (x1_0, x1_1, x1_2) => (p5 (p0_0, p0_1, p0_2)).bind fun x5 => (chk (!(!x5)) (t6 (p0_0, p0_1, p0_2) (p1_0, p1_1, p1_2)) false).bind fun x6 => (chk (!(bif (!x5) then true else (!x6))) (Q2 p0_2 (p1_0, p1_1, p1_2)) false).bind fun x7 => (if (bif (bif (bif (!x5) then true else (!x6)) then true else x7) then true else (decide (((p0_2.length : Nat) : Int) = 120))) = true then some ((x1_0, x1_1, x1_2), false) else (grd ((x1_2.length + ([(p1_0, p1_1, p1_2)]).length) * 24 ≤ 140737488355328)).bind fun _ => (V7 (x1_2 ++ [(p1_0, p1_1, p1_2)])).bind fun x11 => some ((x1_0, x1_1, x11), true))
def C3 (x13 : P0) (p0_0 : Int) (p0_1 : Int) (p0_2 : J0) (u8 : Int) : Nat → Int → (List C0) → Option ((List C0))
 | 0, _, _ => none
 | fuel + 1, u17, u18 => (if (decide (u17 < ((x13.length : Nat) : Int))) = true then (gi x13 u17).bind fun x22 => (L6 (p0_0, p0_1, p0_2) u8 x22).bind fun x23 => (grd (H0 x23)).bind fun _ => (if (decide (x23 < 0)) = true then (grd ((u18.length + ([(u8, x22, (-1))]).length) * 24 ≤ 140737488355328)).bind fun _ => (C3 x13 p0_0 p0_1 p0_2 u8 fuel (IntKind.i64.wrap (u17 + 1)) (u18 ++ [(u8, x22, (-1))])) else (C3 x13 p0_0 p0_1 p0_2 u8 fuel (IntKind.i64.wrap (u17 + 1)) u18)) else some (u18))
def I4 (p0_1 : Int) (p0_0 : Int) (p0_2 : J0) : Nat → Int → (List C0) → Option ((List C0))
 | 0, _, _ => none
 | fuel + 1, u8, u9 => (if (decide (u8 < p0_1)) = true then (r8 p0_0).bind fun x13 => (C3 x13 p0_0 p0_1 p0_2 u8 T0 0 u9).bind (fun y28 => (I4 p0_1 p0_0 p0_2 fuel (IntKind.i64.wrap (u8 + 1)) y28)) else some (u9))
def T6 (p0 : l0) : Option (J0) := match p0 with | (p0_0, p0_1, p0_2) => (i6 (p0_0, p0_1, p0_2)).bind fun x1 => (if (!x1) = true then some ([] : J0) else (I4 p0_1 p0_0 p0_2 T0 0 ([] : J0)).bind (fun y36 => some y36))
end Go.Proofs.YtfdlgbfeceodeaaGreat
namespace Go.Proofs.YtfdlgbfeceodeaaGreat
open Go.H
set_option linter.unusedVariables false
set_option linter.unusedSimpArgs false
set_option maxRecDepth 10000
def R4 (p0_1 : V2) (p1_0 : Int) (p1_1 : Int) (p1_2 : J0) (u2 : Int) : Nat → Int → Option ((Int × Int) ⊕ (Unit))
 | 0, _ => none
 | fuel + 1, u9 => (if (decide (u9 < ((p0_1.length : Nat) : Int))) = true then (gi p0_1 u9).bind fun x13 => (r9 (p1_0, p1_1, p1_2) u2 x13).bind fun x18 => match x18 with | (x18_0, x18_1) => (grd (H0 x18_0)).bind fun q19 => (if (bif (!x18_1) then true else (!decide (x18_0 = u2))) = true then some (.inl (u2, u9)) else (R4 p0_1 p1_0 p1_1 p1_2 u2 fuel (IntKind.i64.wrap (u9 + 1)))) else some (.inr ()))
def L3 (p1_1 : Int) (p0_0 : Int) (p0_1 : V2) (p1_0 : Int) (p1_2 : J0) : Nat → Int → Option ((Int × Int) ⊕ (Unit))
 | 0, _ => none
 | fuel + 1, u2 => (chk (decide (u2 < p1_1)) (i5 (p0_0, p0_1)) false).bind fun x5 => (chk (bif (decide (u2 < p1_1)) then x5 else false) (g6 (p1_0, p1_1, p1_2)) false).bind fun x6 => (if (bif (bif (bif (decide (u2 < p1_1)) then x5 else false) then x6 else false) then (decide (p0_0 = p1_0)) else false) = true then (R4 p0_1 p1_0 p1_1 p1_2 u2 T0 0).bind fun X31 => d0c X31 (fun _ => (L3 p1_1 p0_0 p0_1 p1_0 p1_2 fuel (IntKind.i64.wrap (u2 + 1)))) else some (.inr ()))
def o7 (p0 : D0) (p1 : l0) : Option (Int × Int) := match p0 with | (p0_0, p0_1) => match p1 with | (p1_0, p1_1, p1_2) => (L3 p1_1 p0_0 p0_1 p1_0 p1_2 T0 0).bind fun X34 => w7 X34 (fun _ => some ((-1), (-1)))
def S4 (p0_1 : V2) (p1_0 : Int) (p1_1 : Int) (p1_2 : J0) (u5 : Int) : Nat → Int → Option ((Int × Int) ⊕ (Unit))
 | 0, _ => none
 | fuel + 1, u10 => (if (decide (u10 < ((p0_1.length : Nat) : Int))) = true then (gi p0_1 u10).bind fun x14 => (J8 (p1_0, p1_1, p1_2) u5 x14).bind fun x15 => match x15 with | (x15_0, x15_1) => (grd (H0 x15_0)).bind fun _ => (grd (H0 x15_1)).bind fun _ => (if (bif (decide (x15_1 < ((x14.length : Nat) : Int))) then true else (!decide (x15_0 = u5))) = true then some (.inl (u5, u10)) else (S4 p0_1 p1_0 p1_1 p1_2 u5 fuel (IntKind.i64.wrap (u10 + 1)))) else some (.inr ()))
def T4 (p1_1 : Int) (p0_1 : V2) (p1_0 : Int) (p1_2 : J0) : Nat → Int → Option ((Int × Int) ⊕ (Unit))
 | 0, _ => none
 | fuel + 1, u5 => (if (decide (u5 < p1_1)) = true then (S4 p0_1 p1_0 p1_1 p1_2 u5 T0 0).bind fun X21 => d0c X21 (fun _ => (T4 p1_1 p0_1 p1_0 p1_2 fuel (IntKind.i64.wrap (u5 + 1)))) else some (.inr ()))
def p7 (p0 : D0) (p1 : l0) : Option (Int × Int) := match p0 with | (p0_0, p0_1) => match p1 with | (p1_0, p1_1, p1_2) => (j5 (p0_0, p0_1)).bind fun x1 => (chk (!(!x1)) (i6 (p1_0, p1_1, p1_2)) false).bind fun x2 => (if (bif (bif (!x1) then true else (!x2)) then true else (!decide (p0_0 = p1_0))) = true then some ((-1), (-1)) else (T4 p1_1 p0_1 p1_0 p1_2 T0 0).bind fun X24 => w7 X24 (fun _ => some ((-1), (-1))))
end Go.Proofs.YtfdlgbfeceodeaaGreat
namespace Go.Proofs.YtfdlgbfeceodeaaGreat
open Go.H
set_option linter.unusedVariables false
set_option linter.unusedSimpArgs false
set_option maxRecDepth 10000
def y8 (p0 : D0) (p1 : l0) : Option (l0 × Bool × Bool) := match p0 with | (p0_0, p0_1) => match p1 with | (p1_0, p1_1, p1_2) => (i5 (p0_0, p0_1)).bind fun x1 => (chk (!(!x1)) (g6 (p1_0, p1_1, p1_2)) false).bind fun x2 => (if (bif (bif (!x1) then true else (!x2)) then true else (!decide (p0_0 = p1_0))) = true then (P2 (p1_0, p1_1, p1_2)).bind fun x4 => match x4 with | (x4_0, x4_1, x4_2) => some ((x4_0, x4_1, x4_2), false, false) else (o7 (p0_0, p0_1) (p1_0, p1_1, p1_2)).bind fun x7 => match x7 with | (x7_0, x7_1) => (grd (H0 x7_0)).bind fun _ => (grd (H0 x7_1)).bind fun _ => (if (decide (x7_0 ≥ 0)) = true then (gi p0_1 x7_1).bind fun x11 => (s8 (p1_0, p1_1, p1_2) x7_0 x11 x7_0).bind fun x16 => match x16 with | (x16_0, x16_1) => match x16_0 with | (x16_0_0, x16_0_1, x16_0_2) => (if (!x16_1) = true then (P2 (p1_0, p1_1, p1_2)).bind fun x34 => match x34 with | (x34_0, x34_1, x34_2) => some ((x34_0, x34_1, x34_2), false, false) else (N6 (x16_0_0, x16_0_1, x16_0_2)).bind fun x37 => match x37 with | (x37_0, x37_1) => match x37_0 with | (x37_0_0, x37_0_1, x37_0_2) => some ((x37_0_0, x37_0_1, x37_0_2), true, true)) else (S6 (p1_0, p1_1, p1_2)).bind fun x40 => (if (decide (((x40.length : Nat) : Int) = 0)) = true then (P2 (p1_0, p1_1, p1_2)).bind fun x44 => match x44 with | (x44_0, x44_1, x44_2) => some ((x44_0, x44_1, x44_2), false, true) else (c8 (p1_0, p1_1, p1_2)).bind fun x47 => match x47 with | (x47_0, x47_1) => match x47_0 with | (x47_0_0, x47_0_1, x47_0_2) => (if (!x47_1) = true then (P2 (p1_0, p1_1, p1_2)).bind fun x51 => match x51 with | (x51_0, x51_1, x51_2) => some ((x51_0, x51_1, x51_2), false, false) else (gi x40 0).bind fun x54 => match x54 with | (x54_0, x54_1, x54_2) => (gi x40 0).bind fun x59 => match x59 with | (x59_0, x59_1, x59_2) => (gi x40 0).bind fun x68 => match x68 with | (x68_0, x68_1, x68_2) => (if (decide (x68_1 < 0)) = true then (gi x40 0).bind fun x70 => match x70 with | (x70_0, x70_1, x70_2) => (gi x40 0).bind fun x77 => match x77 with | (x77_0, x77_1, x77_2) => (t8 (x47_0_0, x47_0_1, x47_0_2) (p1_1, (IntKind.i64.wrap (0 - x70_1)), x77_0)).bind fun x84 => match x84 with | (x84_0, x84_1) => match x84_0 with | (x84_0_0, x84_0_1, x84_0_2) => (if (!x84_1) = true then (P2 (p1_0, p1_1, p1_2)).bind fun x88 => match x88 with | (x88_0, x88_1, x88_2) => some ((x88_0, x88_1, x88_2), false, false) else some ((x84_0_0, x84_0_1, x84_0_2), true, true)) else (t8 (x47_0_0, x47_0_1, x47_0_2) (x54_0, x59_1, p1_1)).bind fun x91 => match x91 with | (x91_0, x91_1) => match x91_0 with | (x91_0_0, x91_0_1, x91_0_2) => (if (!x91_1) = true then (P2 (p1_0, p1_1, p1_2)).bind fun x95 => match x95 with | (x95_0, x95_1, x95_2) => some ((x95_0, x95_1, x95_2), false, false) else some ((x91_0_0, x91_0_1, x91_0_2), true, true)))))))
end Go.Proofs.YtfdlgbfeceodeaaGreat
namespace Go.Proofs.YtfdlgbfeceodeaaGreat
open Go.H
set_option linter.unusedVariables false
set_option linter.unusedSimpArgs false
set_option maxRecDepth 10000
def z8 (p0 : D0) (p1 : l0) : Option (l0 × Bool × Bool) := match p0 with | (p0_0, p0_1) => match p1 with | (p1_0, p1_1, p1_2) => (j5 (p0_0, p0_1)).bind fun x1 => (chk (!(!x1)) (i6 (p1_0, p1_1, p1_2)) false).bind fun x2 => (if (bif (bif (!x1) then true else (!x2)) then true else (!decide (p0_0 = p1_0))) = true then (C2 (p1_0, p1_1, p1_2)).bind fun x4 => match x4 with | (x4_0, x4_1, x4_2) => some ((x4_0, x4_1, x4_2), false, false) else (p7 (p0_0, p0_1) (p1_0, p1_1, p1_2)).bind fun x8 => match x8 with | (x8_0, x8_1) => (grd (H0 x8_0)).bind fun _ => (grd (H0 x8_1)).bind fun _ => (if (decide (x8_0 ≥ 0)) = true then (gi p0_1 x8_1).bind fun x12 => (w8 (p1_0, p1_1, p1_2) x8_0 x12 x8_0).bind fun x17 => match x17 with | (x17_0, x17_1) => match x17_0 with | (x17_0_0, x17_0_1, x17_0_2) => (if (!x17_1) = true then (C2 (p1_0, p1_1, p1_2)).bind fun x35 => match x35 with | (x35_0, x35_1, x35_2) => some ((x35_0, x35_1, x35_2), false, false) else (O6 (x17_0_0, x17_0_1, x17_0_2)).bind fun x39 => match x39 with | (x39_0, x39_1) => match x39_0 with | (x39_0_0, x39_0_1, x39_0_2) => some ((x39_0_0, x39_0_1, x39_0_2), true, true)) else (T6 (p1_0, p1_1, p1_2)).bind fun x43 => (if (decide (((x43.length : Nat) : Int) = 0)) = true then (C2 (p1_0, p1_1, p1_2)).bind fun x47 => match x47 with | (x47_0, x47_1, x47_2) => some ((x47_0, x47_1, x47_2), false, true) else (f8 (p1_0, p1_1, p1_2)).bind fun x51 => match x51 with | (x51_0, x51_1) => match x51_0 with | (x51_0_0, x51_0_1, x51_0_2) => (if x51_1 = true then (gi x43 0).bind fun x56 => match x56 with | (x56_0, x56_1, x56_2) => (gi x43 0).bind fun x61 => match x61 with | (x61_0, x61_1, x61_2) => (m00 x56_0 x61_1 p1_1).bind fun x66 => match x66 with | (x66_0, x66_1, x66_2) => (Y8 (x51_0_0, x51_0_1, x51_0_2) (x66_0, x66_1, x66_2)).bind fun x69 => match x69 with | (x69_0, x69_1) => match x69_0 with | (x69_0_0, x69_0_1, x69_0_2) => (if (!x69_1) = true then (C2 (p1_0, p1_1, p1_2)).bind fun x89 => match x89 with | (x89_0, x89_1, x89_2) => some ((x89_0, x89_1, x89_2), false, false) else some ((x69_0_0, x69_0_1, x69_0_2), true, true)) else (if (!x51_1) = true then (C2 (p1_0, p1_1, p1_2)).bind fun x94 => match x94 with | (x94_0, x94_1, x94_2) => some ((x94_0, x94_1, x94_2), false, false) else some ((x51_0_0, x51_0_1, x51_0_2), true, true))))))
end Go.Proofs.YtfdlgbfeceodeaaGreat
namespace Go.Proofs.YtfdlgbfeceodeaaGreat
open Go.H
set_option linter.unusedVariables false
set_option linter.unusedSimpArgs false
set_option maxRecDepth 10000
def V4 (u20 : Int) (x26 : Int) (u17 : P0) : Nat → Int → (List Int) → (List Int) → Option ((List Int) × (List Int))
 | 0, _, _, _ => none
 | fuel + 1, u30, u31, u32 => (if (decide (u30 < u20)) = true then (if (!decide (u30 = x26)) = true then (grd ((u31.length + [u30].length) * 8 ≤ 140737488355328)).bind fun _ => (gi u17 u30).bind fun x38 => (grd ((u32.length + [x38].length) * 8 ≤ 140737488355328)).bind fun _ => (V4 u20 x26 u17 fuel (IntKind.i64.wrap (u30 + 1)) (u31 ++ [u30]) (u32 ++ [x38])) else (V4 u20 x26 u17 fuel (IntKind.i64.wrap (u30 + 1)) u31 u32)) else some (u31, u32))
def A5 (p0_0 : Int) (p0_1 : Int) (p0_2 : J0) : Nat → P0 → Int → Int → Int → J0 → Option ((l0 × P0) ⊕ (P0 × Int × Int × J0))
 | 0, _, _, _, _, _ => none
 | fuel + 1, u17, u18, u19, u20, u21 => (chk (decide (u18 < 40)) (N3 (p0_0, p0_1, p0_2)) false).bind fun x24 => (if (bif (decide (u18 < 40)) then x24 else false) = true then (F00 (u19, u20, u21)).bind fun x26 => (grd (H0 x26)).bind fun _ => (if (decide (x26 < 0)) = true then some (.inl ((u19, u20, u21), u17)) else (V4 u20 x26 u17 T0 0 ([] : P0) ([] : P0)).bind (fun S65 => match S65 with | (y52, y53) => (A6 (u19, u20, u21) y52).bind fun x58 => match x58 with | (x58_0, x58_1) => match x58_0 with | (x58_0_0, x58_0_1, x58_0_2) => (A5 p0_0 p0_1 p0_2 fuel y53 (IntKind.i64.wrap (u18 + 1)) x58_0_0 x58_0_1 x58_0_2))) else some (.inr (u17, u19, u20, u21)))
def B5 (p0_1 : Int) (p0_0 : Int) (p0_2 : J0) : Nat → Int → (List Int) → Option ((List Int))
 | 0, _, _ => none
 | fuel + 1, u5, u6 => (chk (decide (u5 < p0_1)) (N3 (p0_0, p0_1, p0_2)) false).bind fun x9 => (if (bif (decide (u5 < p0_1)) then x9 else false) = true then (grd ((u6.length + [u5].length) * 8 ≤ 140737488355328)).bind fun _ => (B5 p0_1 p0_0 p0_2 fuel (IntKind.i64.wrap (u5 + 1)) (u6 ++ [u5])) else some (u6))
def Z8 (p0 : l0) : Option (l0 × P0) := match p0 with | (p0_0, p0_1, p0_2) => (P2 (p0_0, p0_1, p0_2)).bind fun x1 => match x1 with | (x1_0, x1_1, x1_2) => (B5 p0_1 p0_0 p0_2 T0 0 ([] : P0)).bind (fun y75 => (A5 p0_0 p0_1 p0_2 T0 y75 0 x1_0 x1_1 x1_2).bind fun X137 => w7 X137 (fun S136 => match S136 with | (y132, y133, y134, y135) => some ((y133, y134, y135), y132)))
def g8 (p0 : l0) : Option (l0) := match p0 with | (p0_0, p0_1, p0_2) => (N6 (p0_0, p0_1, p0_2)).bind fun x1 => match x1 with | (x1_0, x1_1) => match x1_0 with | (x1_0_0, x1_0_1, x1_0_2) => (Z8 (x1_0_0, x1_0_1, x1_0_2)).bind fun x4 => match x4 with | (x4_0, x4_1) => match x4_0 with | (x4_0_0, x4_0_1, x4_0_2) => (c7 (x4_0_0, x4_0_1, x4_0_2)).bind fun x7 => match x7 with | (x7_0, x7_1, x7_2) => some (x7_0, x7_1, x7_2)
end Go.Proofs.YtfdlgbfeceodeaaGreat
namespace Go.Proofs.YtfdlgbfeceodeaaGreat
open Go.H
set_option linter.unusedVariables false
set_option linter.unusedSimpArgs false
set_option maxRecDepth 10000
def i8 (p0 : l0) : Option (l0) := match p0 with | (p0_0, p0_1, p0_2) => (O6 (p0_0, p0_1, p0_2)).bind fun x1 => match x1 with | (x1_0, x1_1) => match x1_0 with | (x1_0_0, x1_0_1, x1_0_2) => (W8 (x1_0_0, x1_0_1, x1_0_2)).bind fun x5 => match x5 with | (x5_0, x5_1) => match x5_0 with | (x5_0_0, x5_0_1, x5_0_2) => (g7 (x5_0_0, x5_0_1, x5_0_2)).bind fun x9 => match x9 with | (x9_0, x9_1, x9_2) => some (x9_0, x9_1, x9_2)
end Go.Proofs.YtfdlgbfeceodeaaGreat
namespace Go.Proofs.YtfdlgbfeceodeaaGreat
open Go.H
set_option linter.unusedVariables false
set_option linter.unusedSimpArgs false
set_option maxRecDepth 10000
def X2 (p0_0 : Int) (p0_1 : V2) : Nat → Int → Int → Int → J0 → Option ((l0 × Bool) ⊕ (Int × Int × J0))
 | 0, _, _, _, _ => none
 | fuel + 1, u10, u11, u12, u13 => (if (decide (u10 < 300)) = true then (y8 (p0_0, p0_1) (u11, u12, u13)).bind fun x17 => match x17 with | (x17_0, x17_1, x17_2) => match x17_0 with | (x17_0_0, x17_0_1, x17_0_2) => (if (!x17_2) = true then some (.inl ((0, 0, []), false)) else (if (!x17_1) = true then (g8 (x17_0_0, x17_0_1, x17_0_2)).bind fun x22 => match x22 with | (x22_0, x22_1, x22_2) => some (.inl ((x22_0, x22_1, x22_2), true)) else (X2 p0_0 p0_1 fuel (IntKind.i64.wrap (u10 + 1)) x17_0_0 x17_0_1 x17_0_2))) else some (.inr (u11, u12, u13)))
def T7 (p0 : D0) (p1 : V2) : Option (l0 × Bool) := match p0 with | (p0_0, p0_1) => (A9 p0_0 p1).bind fun x1 => match x1 with | (x1_0, x1_1) => match x1_0 with | (x1_0_0, x1_0_1, x1_0_2) => (chk (!(!x1_1)) (i5 (p0_0, p0_1)) false).bind fun x4 => (if (bif (!x1_1) then true else (!x4)) = true then some ((0, 0, []), false) else (N6 (x1_0_0, x1_0_1, x1_0_2)).bind fun x6 => match x6 with | (x6_0, x6_1) => match x6_0 with | (x6_0_0, x6_0_1, x6_0_2) => (X2 p0_0 p0_1 T0 0 x6_0_0 x6_0_1 x6_0_2).bind fun X30 => w7 X30 (fun S29 => match S29 with | (y26, y27, y28) => some ((0, 0, []), false)))
end Go.Proofs.YtfdlgbfeceodeaaGreat
namespace Go.Proofs.YtfdlgbfeceodeaaGreat
open Go.H
set_option linter.unusedVariables false
set_option linter.unusedSimpArgs false
set_option maxRecDepth 10000
def Y2 (p0_0 : Int) (p0_1 : V2) : Nat → Int → Int → Int → J0 → Option ((l0 × Bool) ⊕ (Int × Int × J0))
 | 0, _, _, _, _ => none
 | fuel + 1, u13, u14, u15, u16 => (if (decide (u13 < 300)) = true then (z8 (p0_0, p0_1) (u14, u15, u16)).bind fun x20 => match x20 with | (x20_0, x20_1, x20_2) => match x20_0 with | (x20_0_0, x20_0_1, x20_0_2) => (if (!x20_2) = true then some (.inl ((0, 0, []), false)) else (if (!x20_1) = true then (i8 (u14, u15, u16)).bind fun x26 => match x26 with | (x26_0, x26_1, x26_2) => some (.inl ((x26_0, x26_1, x26_2), true)) else (Y2 p0_0 p0_1 fuel (IntKind.i64.wrap (u13 + 1)) x20_0_0 x20_0_1 x20_0_2))) else some (.inr (u14, u15, u16)))
def U7 (p0 : D0) (p1 : V2) : Option (l0 × Bool) := match p0 with | (p0_0, p0_1) => (j5 (p0_0, p0_1)).bind fun x1 => (if (!x1) = true then some ((0, 0, []), false) else (E9 p0_0 p1).bind fun x3 => match x3 with | (x3_0, x3_1) => match x3_0 with | (x3_0_0, x3_0_1, x3_0_2) => (if (!x3_1) = true then some ((0, 0, []), false) else (O6 (x3_0_0, x3_0_1, x3_0_2)).bind fun x8 => match x8 with | (x8_0, x8_1) => match x8_0 with | (x8_0_0, x8_0_1, x8_0_2) => (Y2 p0_0 p0_1 T0 0 x8_0_0 x8_0_1 x8_0_2).bind fun X35 => w7 X35 (fun S34 => match S34 with | (y31, y32, y33) => some ((0, 0, []), false))))
end Go.Proofs.YtfdlgbfeceodeaaGreat
