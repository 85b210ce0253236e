/- Texts of the claim, joined: What functions of the program compute, in plain words: batch and others. -/
import Derived.Test.YtkjhghloldgioaaGreatPart17
import Derived.Test.YtkjhghloldgioaaGreatH36
namespace Go.Proofs.YtkjhghloldgioaaGreat
open Go.H
set_option linter.unusedVariables false
set_option linter.unusedSimpArgs false
set_option maxRecDepth 10000
def U2(p0:Int)(p1:Int)(p2:Int):Option (Bool):=some (bif(decide (p0 ≥ p1))then(decide (p0<=p2))else false)
def J3(p0:Int)(p1:Int)(p2:Int):Option (Bool):=some (bif(decide (p0 ≥ p1))then(decide (p0<=p2))else false)
def P3(p0:Int)(p1:Int):Option (Int):=(if(decide (p0<p1))=true then some (-1)else(if(decide (p0>p1))=true then some 1 else some 0))
def E00(p0:l0)(p1:U3):Option (Bool):=match p0 with|(p0_0,p0_1,p0_2)=>match p1 with|(p1_0,p1_1,p1_2)=>(U2 p1_0 0 (IntKind.i64.wrap (p0_1-1))).bind λx1=>(chk x1 (U2 p1_2 0 (IntKind.i64.wrap (p0_1-1))) false).bind λx2=>(chk (bif x1 then x2 else false) (U2 p1_1 1 p0_0) false).bind λx3=>some (bif(bif x1 then x2 else false)then x3 else false)
def J4(p0_0:Int)(p0_1:Int)(p0_2:Int)(p1_0:Int)(p1_1:Int)(p1_2:Int):Nat->Int->Option ((Int) ⊕ (Unit))
 |0,_=>none
 |fuel+1,u2=>(if(decide (u2<3))=true then(gi [p0_0,p0_1,p0_2] u2).bind λx6=>(gi [p1_0,p1_1,p1_2] u2).bind λx7=>(if(decide (x6<x7))=true then some (.inl (-1))else(gi [p0_0,p0_1,p0_2] u2).bind λx9=>(gi [p1_0,p1_1,p1_2] u2).bind λx10=>(if(decide (x9>x10))=true then some (.inl 1)else(J4 p0_0 p0_1 p0_2 p1_0 p1_1 p1_2 fuel (IntKind.i64.wrap (u2+1)))))else some (.inr ()))
def j6(p0:U3)(p1:U3):Option (Int):=match p0 with|(p0_0,p0_1,p0_2)=>match p1 with|(p1_0,p1_1,p1_2)=>(J4 p0_0 p0_1 p0_2 p1_0 p1_1 p1_2 C1 0).bind λX14=>j00 X14 (λ_=>some 0)
def o6(p0_2:H0)(p0_0:Int)(p0_1:Int):Nat->Int->Option ((Bool) ⊕ (Unit))
 |0,_=>none
 |fuel+1,u2=>(if(decide (u2<((p0_2.length:Nat):Int)))=true then(gi p0_2 u2).bind λx6=>match x6 with|(x6_0,x6_1,x6_2)=>(E00 (p0_0,p0_1,p0_2) (x6_0,x6_1,x6_2)).bind λx7=>(chk ((decide (u2>0))&&(!(!x7))) (gi p0_2 (IntKind.i64.wrap (u2-1))) (0,0,0)).bind λx8=>match x8 with|(x8_0,x8_1,x8_2)=>(chk ((decide (u2>0))&&(!(!x7))) (gi p0_2 u2) (0,0,0)).bind λx9=>match x9 with|(x9_0,x9_1,x9_2)=>(chk ((decide (u2>0))&&(!(!x7))) (j6 (x8_0,x8_1,x8_2) (x9_0,x9_1,x9_2)) 0).bind λx10=>(grd (J0 x10)).bind λ_=>(if(bif(!x7)then true else(bif(decide (u2>0))then(decide (x10 ≥ 0))else false))=true then some (.inl false)else(o6 p0_2 p0_0 p0_1 fuel (IntKind.i64.wrap (u2+1))))else some (.inr ()))
def K3(p0:l0):Option (Bool):=match p0 with|(p0_0,p0_1,p0_2)=>(o6 p0_2 p0_0 p0_1 C1 0).bind λX19=>j00 X19 (λ_=>(U2 p0_0 1 3).bind λx16=>(chk x16 (U2 p0_1 1 40) false).bind λx17=>some (bif(bif x16 then x17 else false)then(decide (((p0_2.length:Nat):Int)<=120))else false))
def B7(p0:l0)(p1:Int):Option (Bool):=match p0 with|(p0_0,p0_1,p0_2)=>(J3 p1 0 (IntKind.i64.wrap (p0_1-1))).bind λx1=>some x1
def d7(p0:l0)(p1:U3):Option (Bool):=match p0 with|(p0_0,p0_1,p0_2)=>match p1 with|(p1_0,p1_1,p1_2)=>(B7 (p0_0,p0_1,p0_2) p1_0).bind λx1=>(chk x1 (B7 (p0_0,p0_1,p0_2) p1_2) false).bind λx2=>(chk (bif x1 then x2 else false) (J3 p1_1 1 p0_0) false).bind λx3=>some (bif(bif x1 then x2 else false)then x3 else false)
def l5(p0:U3)(p1:U3):Option (Int):=match p0 with|(p0_0,p0_1,p0_2)=>match p1 with|(p1_0,p1_1,p1_2)=>(P3 p0_0 p1_0).bind λx1=>(grd (J0 x1)).bind λ_=>(if(!decide (x1=0))=true then some x1 else(P3 p0_1 p1_1).bind λx4=>(grd (J0 x4)).bind λ_=>(if(!decide (x4=0))=true then some x4 else(P3 p0_2 p1_2).bind λx7=>(grd (J0 x7)).bind λ_=>some x7))
def p6(p0_2:H0)(p0_0:Int)(p0_1:Int):Nat->Int->Option ((Bool) ⊕ (Unit))
 |0,_=>none
 |fuel+1,u5=>(if(decide (u5<((p0_2.length:Nat):Int)))=true then(gi p0_2 u5).bind λx9=>match x9 with|(x9_0,x9_1,x9_2)=>(d7 (p0_0,p0_1,p0_2) (x9_0,x9_1,x9_2)).bind λx10=>(chk ((decide (u5>0))&&(!(!x10))) (gi p0_2 (IntKind.i64.wrap (u5-1))) (0,0,0)).bind λx11=>match x11 with|(x11_0,x11_1,x11_2)=>(chk ((decide (u5>0))&&(!(!x10))) (l5 (x11_0,x11_1,x11_2) (x9_0,x9_1,x9_2)) 0).bind λx12=>(grd (J0 x12)).bind λ_=>(if(bif(!x10)then true else(bif(decide (u5>0))then(decide (x12 ≥ 0))else false))=true then some (.inl false)else(p6 p0_2 p0_0 p0_1 fuel (IntKind.i64.wrap (u5+1))))else some (.inr ()))
def r6(p0:l0):Option (Bool):=match p0 with|(p0_0,p0_1,p0_2)=>(J3 p0_0 1 3).bind λx1=>(chk (!(!x1)) (J3 p0_1 1 40) false).bind λx2=>(if(bif(bif(!x1)then true else(!x2))then true else(decide (((p0_2.length:Nat):Int)>120)))=true then some false else(p6 p0_2 p0_0 p0_1 C1 0).bind λX17=>j00 X17 (λ_=>some true))
def W4(p0:C0)(p1:Int):Nat->Bool->Int->(List Int)->Option (Bool×(List Int))
 |0,_,_,_=>none
 |fuel+1,u2,u3,u4=>(if(decide (u3<((p0.length:Nat):Int)))=true then(gi p0 u3).bind λx8=>(if(decide (x8=p1))=true then(gi p0 u3).bind λx10=>(if(bif(decide (x10>p1))then(!true)else false)=true then(grd ((u4.length + [p1].length)*8<=140737488355328)).bind λ_=>(gi p0 u3).bind λx13=>(grd (((u4 ++ [p1]).length + [x13].length)*8<=140737488355328)).bind λ_=>(W4 p0 p1 fuel true (IntKind.i64.wrap (u3+1)) ((u4 ++ [p1]) ++ [x13]))else(gi p0 u3).bind λx15=>(grd ((u4.length + [x15].length)*8<=140737488355328)).bind λ_=>(W4 p0 p1 fuel true (IntKind.i64.wrap (u3+1)) (u4 ++ [x15])))else(gi p0 u3).bind λx17=>(if(bif(decide (x17>p1))then(!u2)else false)=true then(grd ((u4.length + [p1].length)*8<=140737488355328)).bind λ_=>(gi p0 u3).bind λx20=>(grd (((u4 ++ [p1]).length + [x20].length)*8<=140737488355328)).bind λ_=>(W4 p0 p1 fuel true (IntKind.i64.wrap (u3+1)) ((u4 ++ [p1]) ++ [x20]))else(gi p0 u3).bind λx22=>(grd ((u4.length + [x22].length)*8<=140737488355328)).bind λ_=>(W4 p0 p1 fuel u2 (IntKind.i64.wrap (u3+1)) (u4 ++ [x22]))))else some (u2,u4))
def P5(p0:C0)(p1:Int):Option (C0):=(W4 p0 p1 C1 false 0 ([]:C0)).bind (λS47=>match S47 with|(y35,y36)=>(if(!y35)=true then(grd ((y36.length + [p1].length)*8<=140737488355328)).bind λ_=>some (y36 ++ [p1])else some y36))
def g7(p0:C0)(p1:Int):Nat->Int->Option ((Bool) ⊕ (Unit))
 |0,_=>none
 |fuel+1,u2=>(if(decide (u2<((p0.length:Nat):Int)))=true then(gi p0 u2).bind λx6=>(if(decide (x6=p1))=true then some (.inl true)else(g7 p0 p1 fuel (IntKind.i64.wrap (u2+1))))else some (.inr ()))
def Q5(p0:C0)(p1:Int):Option (Bool):=(g7 p0 p1 C1 0).bind λX10=>j00 X10 (λ_=>some false)
def V2(p0_2:H0)(p2:Int)(p1:Int):Nat->C0->Int->Option (C0)
 |0,_,_=>none
 |fuel+1,u6,u7=>(if(decide (u7<((p0_2.length:Nat):Int)))=true then(gi p0_2 u7).bind λx11=>match x11 with|(x11_0,x11_1,x11_2)=>(if(bif(bif(decide (p2>0))then(decide (x11_1=p2))else false)then(decide (x11_0=p1))else false)=true then(P5 u6 x11_2).bind λx13=>(if(bif(bif(decide (p2<0))then(decide (x11_1=(IntKind.i64.wrap (0-p2))))else false)then(decide (x11_2=p1))else false)=true then(P5 x13 x11_0).bind λx17=>(V2 p0_2 p2 p1 fuel x17 (IntKind.i64.wrap (u7+1)))else(V2 p0_2 p2 p1 fuel x13 (IntKind.i64.wrap (u7+1))))else(if(bif(bif(decide (p2<0))then(decide (x11_1=(IntKind.i64.wrap (0-p2))))else false)then(decide (x11_2=p1))else false)=true then(P5 u6 x11_0).bind λx21=>(V2 p0_2 p2 p1 fuel x21 (IntKind.i64.wrap (u7+1)))else(V2 p0_2 p2 p1 fuel u6 (IntKind.i64.wrap (u7+1)))))else some (u6))
def M8(p0:l0)(p1:Int)(p2:Int):Option (C0):=match p0 with|(p0_0,p0_1,p0_2)=>(V2 p0_2 p2 p1 C1 ([]:C0) 0).bind (λy25=>some y25)
def r8(p0:l0)(p1:Int)(p2:Int):Option (Int):=match p0 with|(p0_0,p0_1,p0_2)=>(M8 (p0_0,p0_1,p0_2) p1 p2).bind λx1=>(if(decide (((x1.length:Nat):Int)=0))=true then some (-1)else(gi x1 0).bind λx5=>some x5)
def R5(u2:Int)(p0_2:H0):Nat->Int->Option ((Bool) ⊕ (Unit))
 |0,_=>none
 |fuel+1,u8=>(if(decide (u8<u2))=true then(gi p0_2 u2).bind λx12=>match x12 with|(x12_0,x12_1,x12_2)=>(gi p0_2 u8).bind λx13=>match x13 with|(x13_0,x13_1,x13_2)=>(if(bif(decide (x12_1=x13_1))then(bif(decide (x12_0=x13_0))then true else(decide (x12_2=x13_2)))else false)=true then some (.inl false)else(R5 u2 p0_2 fuel (IntKind.i64.wrap (u8+1))))else some (.inr ()))
def S5(p0_2:H0)(p0_0:Int)(p0_1:Int):Nat->Int->Option ((Bool) ⊕ (Unit))
 |0,_=>none
 |fuel+1,u2=>(chk (decide (u2<((p0_2.length:Nat):Int))) (K3 (p0_0,p0_1,p0_2)) false).bind λx5=>(if(bif(decide (u2<((p0_2.length:Nat):Int)))then x5 else false)=true then(R5 u2 p0_2 C1 0).bind λX17=>x0b X17 (λ_=>(S5 p0_2 p0_0 p0_1 fuel (IntKind.i64.wrap (u2+1))))else some (.inr ()))
def l9(p0:l0):Option (Bool):=match p0 with|(p0_0,p0_1,p0_2)=>(S5 p0_2 p0_0 p0_1 C1 0).bind λX22=>j00 X22 (λ_=>(K3 (p0_0,p0_1,p0_2)).bind λx20=>some x20)
def Q3(p0_2:H0)(p2:Int)(p1:Int):Nat->Int->(List Int)->Option ((List Int))
 |0,_,_=>none
 |fuel+1,u2,u3=>(if(decide (u2<((p0_2.length:Nat):Int)))=true then(gi p0_2 u2).bind λx7=>match x7 with|(x7_0,x7_1,x7_2)=>(if(bif(bif(decide (p2>0))then(decide (x7_1=p2))else false)then(decide (x7_0=p1))else false)=true then(grd ((u3.length + [x7_2].length)*8<=140737488355328)).bind λ_=>(Q3 p0_2 p2 p1 fuel (IntKind.i64.wrap (u2+1)) (u3 ++ [x7_2]))else(if(bif(bif(bif(decide (p2<0))then(!decide (p2=(-9223372036854775808)))else false)then(decide (x7_1=(IntKind.i64.wrap (0-p2))))else false)then(decide (x7_2=p1))else false)=true then(grd ((u3.length + [x7_0].length)*8<=140737488355328)).bind λ_=>(Q3 p0_2 p2 p1 fuel (IntKind.i64.wrap (u2+1)) (u3 ++ [x7_0]))else(Q3 p0_2 p2 p1 fuel (IntKind.i64.wrap (u2+1)) u3)))else some (u3))
def N8(p0:l0)(p1:Int)(p2:Int):Option (C0):=match p0 with|(p0_0,p0_1,p0_2)=>(Q3 p0_2 p2 p1 C1 0 ([]:C0)).bind (λy19=>(grd (y19.length<4611686018427387904)).bind λ_=>some (c00 eqI (l02 G7 y19)))
def s8(p0:l0)(p1:Int)(p2:Int):Option (Int):=match p0 with|(p0_0,p0_1,p0_2)=>(N8 (p0_0,p0_1,p0_2) p1 p2).bind λx1=>(if(decide (((x1.length:Nat):Int)=0))=true then some (-1)else(gi x1 0).bind λx5=>some x5)
def T5(x9:H0)(x8_1:Int)(x8_0:Int)(x8_2:Int):Nat->Int->Option ((Bool) ⊕ (Unit))
 |0,_=>none
 |fuel+1,u11=>(if(decide (u11<((x9.length:Nat):Int)))=true then(gi x9 u11).bind λx15=>match x15 with|(x15_0,x15_1,x15_2)=>(if(bif(decide (x8_1=x15_1))then(bif(decide (x8_0=x15_0))then true else(decide (x8_2=x15_2)))else false)=true then some (.inl false)else(T5 x9 x8_1 x8_0 x8_2 fuel (IntKind.i64.wrap (u11+1))))else some (.inr ()))
def U5(p0_2:H0):Nat->Int->Option ((Bool) ⊕ (Unit))
 |0,_=>none
 |fuel+1,u4=>(if(decide (u4<((p0_2.length:Nat):Int)))=true then(gi p0_2 u4).bind λx8=>match x8 with|(x8_0,x8_1,x8_2)=>(j06 p0_2 (IntKind.i64.wrap (u4+1)) (p0_2.length:Int)).bind λx9=>(T5 x9 x8_1 x8_0 x8_2 C1 0).bind λX19=>x0b X19 (λ_=>(U5 p0_2 fuel (IntKind.i64.wrap (u4+1))))else some (.inr ()))
def S7(p0:l0):Option (Bool):=match p0 with|(p0_0,p0_1,p0_2)=>(r6 (p0_0,p0_1,p0_2)).bind λx1=>(if(!x1)=true then some false else(U5 p0_2 C1 0).bind λX22=>j00 X22 (λ_=>some true))
def S4(p0:l0):Option (l0):=match p0 with|(p0_0,p0_1,p0_2)=>(grd ((([]:H0).length+p0_2.length)*24<=140737488355328)).bind λ_=>some (p0_0,p0_1,(([]:H0)++p0_2))
def Y4(p0:H0)(p1_0:Int)(p1_1:Int)(p1_2:Int):Nat->Bool->Int->(List U3)->Option (Bool×(List U3))
 |0,_,_,_=>none
 |fuel+1,u2,u3,u4=>(if(decide (u3<((p0.length:Nat):Int)))=true then(gi p0 u3).bind λx8=>match x8 with|(x8_0,x8_1,x8_2)=>(j6 (p1_0,p1_1,p1_2) (x8_0,x8_1,x8_2)).bind λx9=>(grd (J0 x9)).bind λ_=>(if(decide (x9=0))=true then(if(bif(decide (x9<0))then(!true)else false)=true then(grd ((u4.length+([(p1_0,p1_1,p1_2)]).length)*24<=140737488355328)).bind λ_=>(gi p0 u3).bind λx14=>match x14 with|(x14_0,x14_1,x14_2)=>(grd (((u4 ++ [(p1_0,p1_1,p1_2)]).length+([(x14_0,x14_1,x14_2)]).length)*24<=140737488355328)).bind λ_=>(Y4 p0 p1_0 p1_1 p1_2 fuel true (IntKind.i64.wrap (u3+1)) ((u4 ++ [(p1_0,p1_1,p1_2)]) ++ [(x14_0,x14_1,x14_2)]))else(gi p0 u3).bind λx16=>match x16 with|(x16_0,x16_1,x16_2)=>(grd ((u4.length+([(x16_0,x16_1,x16_2)]).length)*24<=140737488355328)).bind λ_=>(Y4 p0 p1_0 p1_1 p1_2 fuel true (IntKind.i64.wrap (u3+1)) (u4 ++ [(x16_0,x16_1,x16_2)])))else(if(bif(decide (x9<0))then(!u2)else false)=true then(grd ((u4.length+([(p1_0,p1_1,p1_2)]).length)*24<=140737488355328)).bind λ_=>(gi p0 u3).bind λx20=>match x20 with|(x20_0,x20_1,x20_2)=>(grd (((u4 ++ [(p1_0,p1_1,p1_2)]).length+([(x20_0,x20_1,x20_2)]).length)*24<=140737488355328)).bind λ_=>(Y4 p0 p1_0 p1_1 p1_2 fuel true (IntKind.i64.wrap (u3+1)) ((u4 ++ [(p1_0,p1_1,p1_2)]) ++ [(x20_0,x20_1,x20_2)]))else(gi p0 u3).bind λx22=>match x22 with|(x22_0,x22_1,x22_2)=>(grd ((u4.length+([(x22_0,x22_1,x22_2)]).length)*24<=140737488355328)).bind λ_=>(Y4 p0 p1_0 p1_1 p1_2 fuel u2 (IntKind.i64.wrap (u3+1)) (u4 ++ [(x22_0,x22_1,x22_2)]))))else some (u2,u4))
def t8(p0:H0)(p1:U3):Option (H0):=match p1 with|(p1_0,p1_1,p1_2)=>(Y4 p0 p1_0 p1_1 p1_2 C1 false 0 ([]:H0)).bind (λS47=>match S47 with|(y35,y36)=>(if(!y35)=true then(grd ((y36.length+([(p1_0,p1_1,p1_2)]).length)*24<=140737488355328)).bind λ_=>some (y36 ++ [(p1_0,p1_1,p1_2)])else some y36))
def C3(p0_2:H0)(p1:Int):Nat->Int->Int->Option (Int)
 |0,_,_=>none
 |fuel+1,u2,u3=>(if(decide (u3<((p0_2.length:Nat):Int)))=true then(gi p0_2 u3).bind λx7=>match x7 with|(x7_0,x7_1,x7_2)=>(if(decide (x7_0=p1))=true then(gi p0_2 u3).bind λx9=>match x9 with|(x9_0,x9_1,x9_2)=>(if(decide (x9_2=p1))=true then(C3 p0_2 p1 fuel (IntKind.i64.wrap ((IntKind.i64.wrap (u2+1))+1)) (IntKind.i64.wrap (u3+1)))else(C3 p0_2 p1 fuel (IntKind.i64.wrap (u2+1)) (IntKind.i64.wrap (u3+1))))else(gi p0_2 u3).bind λx11=>match x11 with|(x11_0,x11_1,x11_2)=>(if(decide (x11_2=p1))=true then(C3 p0_2 p1 fuel (IntKind.i64.wrap (u2+1)) (IntKind.i64.wrap (u3+1)))else(C3 p0_2 p1 fuel u2 (IntKind.i64.wrap (u3+1)))))else some (u2))
def n9(p0:l0)(p1:Int):Option (Int):=match p0 with|(p0_0,p0_1,p0_2)=>(C3 p0_2 p1 C1 0 0).bind (λy14=>some y14)
def Z4(p0_2:H0)(p1_2:H0):Nat->Int->Option ((Bool) ⊕ (Unit))
 |0,_=>none
 |fuel+1,u3=>(if(decide (u3<((p0_2.length:Nat):Int)))=true then(gi p0_2 u3).bind λx7=>match x7 with|(x7_0,x7_1,x7_2)=>(gi p1_2 u3).bind λx8=>match x8 with|(x8_0,x8_1,x8_2)=>(if(!eqE (x7_0,x7_1,x7_2) (x8_0,x8_1,x8_2))=true then some (.inl false)else(Z4 p0_2 p1_2 fuel (IntKind.i64.wrap (u3+1))))else some (.inr ()))
def T7(p0:l0)(p1:l0):Option (Bool):=match p0 with|(p0_0,p0_1,p0_2)=>match p1 with|(p1_0,p1_1,p1_2)=>(if(bif(bif(!decide (p0_0=p1_0))then true else(!decide (p0_1=p1_1)))then true else(!decide (((p0_2.length:Nat):Int)=((p1_2.length:Nat):Int))))=true then some false else(Z4 p0_2 p1_2 C1 0).bind λX12=>j00 X12 (λ_=>some true))
def j2(p0_2:H0):Nat->C0->Int->Option (C0)
 |0,_,_=>none
 |fuel+1,u19,u20=>(if(decide (u20<((p0_2.length:Nat):Int)))=true then(gi p0_2 u20).bind λx24=>match x24 with|(x24_0,x24_1,x24_2)=>(Q5 u19 x24_0).bind λx25=>(if x25=true then(P5 u19 x24_2).bind λx27=>(Q5 x27 x24_2).bind λx30=>(if x30=true then(P5 x27 x24_0).bind λx32=>(j2 p0_2 fuel x32 (IntKind.i64.wrap (u20+1)))else(j2 p0_2 fuel x27 (IntKind.i64.wrap (u20+1))))else(Q5 u19 x24_2).bind λx35=>(if x35=true then(P5 u19 x24_0).bind λx37=>(j2 p0_2 fuel x37 (IntKind.i64.wrap (u20+1)))else(j2 p0_2 fuel u19 (IntKind.i64.wrap (u20+1)))))else some (u19))
def a5(p0_2:H0):Nat->C0->Int->Option (C0)
 |0,_,_=>none
 |fuel+1,u13,u14=>(if(decide (u14<(IntKind.i64.wrap (((p0_2.length:Nat):Int)+1))))=true then(j2 p0_2 C1 u13 0).bind (λy41=>(a5 p0_2 fuel y41 (IntKind.i64.wrap (u14+1))))else some (u13))
def U7(p0:l0)(p1:Int):Option (C0):=match p0 with|(p0_0,p0_1,p0_2)=>(K3 (p0_0,p0_1,p0_2)).bind λx1=>(chk (!(!x1)) (U2 p1 0 (IntKind.i64.wrap (p0_1-1))) false).bind λx2=>(if(bif(!x1)then true else(!x2))=true then some ([]:C0)else(a5 p0_2 C1 [p1] 0).bind (λy45=>some y45))
def J6(p0_1:Int)(p0_0:Int)(p0_2:H0)(x1:C0):Nat->Int->Option ((Int) ⊕ (Unit))
 |0,_=>none
 |fuel+1,u5=>(if(decide (u5<p0_1))=true then(n9 (p0_0,p0_1,p0_2) u5).bind λx9=>(grd (J0 x9)).bind λ_=>(chk (!(decide (x9<2))) (Q5 x1 u5) false).bind λx11=>(if(bif(decide (x9<2))then true else(!x11))=true then some (.inl u5)else(J6 p0_1 p0_0 p0_2 x1 fuel (IntKind.i64.wrap (u5+1))))else some (.inr ()))
def F00(p0:l0):Option (Int):=match p0 with|(p0_0,p0_1,p0_2)=>(U7 (p0_0,p0_1,p0_2) 0).bind λx1=>(J6 p0_1 p0_0 p0_2 x1 C1 1).bind λX15=>j00 X15 (λ_=>some (-1))
def Y2(p0_2:H0)(u9:(List Int)):Nat->Int->Int->Int->H0->Option (Int×Int×H0)
 |0,_,_,_,_=>none
 |fuel+1,u24,u25,u26,u27=>(if(decide (u24<((p0_2.length:Nat):Int)))=true then(gi p0_2 u24).bind λx31=>match x31 with|(x31_0,x31_1,x31_2)=>(gi u9 x31_0).bind λx32=>(chk (decide (x32>0)) (gi u9 x31_2) 0).bind λx33=>(if(bif(decide (x32>0))then(decide (x33>0))else false)=true then(gi u9 x31_0).bind λx35=>(gi u9 x31_2).bind λx40=>(t8 u27 ((IntKind.i64.wrap (x35-1)),x31_1,(IntKind.i64.wrap (x40-1)))).bind λx47=>(Y2 p0_2 u9 fuel (IntKind.i64.wrap (u24+1)) u25 u26 x47)else(Y2 p0_2 u9 fuel (IntKind.i64.wrap (u24+1)) u25 u26 u27))else some (u25,u26,u27))
def i4(p1:C0)(p0_1:Int)(p0_0:Int)(p0_2:H0):Nat->Int->(List Int)->Option ((l0×Bool) ⊕ ((List Int)))
 |0,_,_=>none
 |fuel+1,u8,u9=>(if(decide (u8<((p1.length:Nat):Int)))=true then(gi p1 u8).bind λx13=>(U2 x13 0 (IntKind.i64.wrap (p0_1-1))).bind λx14=>(chk (!(!x14)) (gi p1 u8) 0).bind λx15=>(chk (!(!x14)) (gi u9 x15) 0).bind λx16=>(if(bif(!x14)then true else(!decide (x16=0)))=true then(S4 (p0_0,p0_1,p0_2)).bind λx18=>match x18 with|(x18_0,x18_1,x18_2)=>some (.inl ((x18_0,x18_1,x18_2),false))else(gi p1 u8).bind λx21=>(gi u9 x21).bind λx22=>(i4 p1 p0_1 p0_0 p0_2 fuel (IntKind.i64.wrap (u8+1)) (u9.set x21.toNat (IntKind.i64.wrap (u8+1)))))else some (.inr (u9)))
def V5(p0:l0)(p1:C0):Option (l0×Bool):=match p0 with|(p0_0,p0_1,p0_2)=>(K3 (p0_0,p0_1,p0_2)).bind λx1=>(if(bif(bif(!x1)then true else(decide (((p1.length:Nat):Int)=0)))then true else(decide (((p1.length:Nat):Int)>p0_1)))=true then(S4 (p0_0,p0_1,p0_2)).bind λx3=>match x3 with|(x3_0,x3_1,x3_2)=>some ((x3_0,x3_1,x3_2),false)else(grd ((0:Int)<=p0_1/\p0_1<=p0_1/\p0_1*8<=140737488355328/\p0_1<=9223372036854775807)).bind λ_=>(i4 p1 p0_1 p0_0 p0_2 C1 0 (List.replicate p0_1.toNat (0:Int))).bind λX92=>j00 X92 (λy57=>(Y2 p0_2 y57 C1 0 p0_0 ((p1.length:Nat):Int) ([]:H0)).bind (λS89=>match S89 with|(y86,y87,y88)=>some ((y86,y87,y88),true))))
def E5(p0:Int):Nat->Int->(List Int)->Option ((List Int))
 |0,_,_=>none
 |fuel+1,u2,u3=>(if(decide (u2<=p0))=true then(grd ((u3.length + [u2].length)*8<=140737488355328)).bind λ_=>(grd (((u3 ++ [u2]).length+([(IntKind.i64.wrap (0-u2))]).length)*8<=140737488355328)).bind λ_=>(E5 p0 fuel (IntKind.i64.wrap (u2+1)) ((u3 ++ [u2]) ++ [(IntKind.i64.wrap (0-u2))]))else some (u3))
def O8(p0:Int):Option (C0):=(E5 p0 C1 1 ([]:C0)).bind (λy14=>some y14)
def Q2(x7:C0)(u11:Int)(p0_0:Int)(p0_1:Int)(p0_2:H0):Nat->Int->(List Int)->Option ((List Int))
 |0,_,_=>none
 |fuel+1,u19,u20=>(if(decide (u19<((x7.length:Nat):Int)))=true then(gi u20 u11).bind λx24=>(gi x7 u19).bind λx25=>(r8 (p0_0,p0_1,p0_2) x24 x25).bind λx26=>(grd (J0 x26)).bind λ_=>(chk (decide (x26 ≥ 0)) (Q5 u20 x26) false).bind λx28=>(if(bif(decide (x26 ≥ 0))then(!x28)else false)=true then(grd ((u20.length + [x26].length)*8<=140737488355328)).bind λ_=>(Q2 x7 u11 p0_0 p0_1 p0_2 fuel (IntKind.i64.wrap (u19+1)) (u20 ++ [x26]))else(Q2 x7 u11 p0_0 p0_1 p0_2 fuel (IntKind.i64.wrap (u19+1)) u20))else some (u20))
def V3(x7:C0)(p0_0:Int)(p0_1:Int)(p0_2:H0):Nat->Int->(List Int)->Option ((List Int))
 |0,_,_=>none
 |fuel+1,u11,u12=>(some u12.length).bind λm15=>(grd (m15<=9223372036854775807)).bind λ_=>(if(decide (u11<((m15:Nat):Int)))=true then(Q2 x7 u11 p0_0 p0_1 p0_2 C1 0 u12).bind (λy36=>(V3 x7 p0_0 p0_1 p0_2 fuel (IntKind.i64.wrap (u11+1)) y36))else some (u12))
def O6(p0:l0):Option (C0):=match p0 with|(p0_0,p0_1,p0_2)=>(l9 (p0_0,p0_1,p0_2)).bind λx1=>(if(!x1)=true then some ([]:C0)else(O8 p0_0).bind λx7=>(V3 x7 p0_0 p0_1 p0_2 C1 0 [0]).bind (λy44=>some y44))
def P6(p0:l0):Option (l0):=match p0 with|(p0_0,p0_1,p0_2)=>(O6 (p0_0,p0_1,p0_2)).bind λx1=>(if(decide (((x1.length:Nat):Int)=0))=true then(S4 (p0_0,p0_1,p0_2)).bind λx5=>match x5 with|(x5_0,x5_1,x5_2)=>some (x5_0,x5_1,x5_2)else(V5 (p0_0,p0_1,p0_2) x1).bind λx8=>match x8 with|(x8_0,x8_1)=>match x8_0 with|(x8_0_0,x8_0_1,x8_0_2)=>some (x8_0_0,x8_0_1,x8_0_2))
def Y3(p0_2:H0)(u2:Int):Nat->Int->(List w5)->Option ((List w5))
 |0,_,_=>none
 |fuel+1,u8,u9=>(if(decide (u8<((p0_2.length:Nat):Int)))=true then(gi p0_2 u2).bind λx13=>match x13 with|(x13_0,x13_1,x13_2)=>(gi p0_2 u8).bind λx14=>match x14 with|(x14_0,x14_1,x14_2)=>(if(bif(decide (x13_1=x14_1))then(decide (x13_0=x14_0))else false)=true then(grd ((u9.length+([((if x14_2<x13_2 then x14_2 else x13_2),(if x14_2>x13_2 then x14_2 else x13_2))]).length)*16<=140737488355328)).bind λ_=>(if(bif(decide (x13_1=x14_1))then(decide (x13_2=x14_2))else false)=true then(grd (((u9 ++ [((if x14_2<x13_2 then x14_2 else x13_2),(if x14_2>x13_2 then x14_2 else x13_2))]).length+([((if x14_0<x13_0 then x14_0 else x13_0),(if x14_0>x13_0 then x14_0 else x13_0))]).length)*16<=140737488355328)).bind λ_=>(Y3 p0_2 u2 fuel (IntKind.i64.wrap (u8+1)) ((u9 ++ [((if x14_2<x13_2 then x14_2 else x13_2),(if x14_2>x13_2 then x14_2 else x13_2))]) ++ [((if x14_0<x13_0 then x14_0 else x13_0),(if x14_0>x13_0 then x14_0 else x13_0))]))else(Y3 p0_2 u2 fuel (IntKind.i64.wrap (u8+1)) (u9 ++ [((if x14_2<x13_2 then x14_2 else x13_2),(if x14_2>x13_2 then x14_2 else x13_2))])))else(if(bif(decide (x13_1=x14_1))then(decide (x13_2=x14_2))else false)=true then(grd ((u9.length+([((if x14_0<x13_0 then x14_0 else x13_0),(if x14_0>x13_0 then x14_0 else x13_0))]).length)*16<=140737488355328)).bind λ_=>(Y3 p0_2 u2 fuel (IntKind.i64.wrap (u8+1)) (u9 ++ [((if x14_0<x13_0 then x14_0 else x13_0),(if x14_0>x13_0 then x14_0 else x13_0))]))else(Y3 p0_2 u2 fuel (IntKind.i64.wrap (u8+1)) u9)))else some (u9))
def s6(p0_2:H0):Nat->Int->(List w5)->Option ((List w5))
 |0,_,_=>none
 |fuel+1,u2,u3=>(if(decide (u2<((p0_2.length:Nat):Int)))=true then(Y3 p0_2 u2 C1 (IntKind.i64.wrap (u2+1)) u3).bind (λy22=>(s6 p0_2 fuel (IntKind.i64.wrap (u2+1)) y22))else some (u3))
def d00(p0:l0):Option (p5):=match p0 with|(p0_0,p0_1,p0_2)=>(s6 p0_2 C1 0 ([]:p5)).bind (λy30=>some y30)
def P8(p0:l0):Option (w5×Bool):=match p0 with|(p0_0,p0_1,p0_2)=>(K3 (p0_0,p0_1,p0_2)).bind λx1=>(if(!x1)=true then some ((0,0),false)else(d00 (p0_0,p0_1,p0_2)).bind λx3=>(if(decide (((x3.length:Nat):Int)=0))=true then some ((0,0),false)else(gi x3 0).bind λx7=>match x7 with|(x7_0,x7_1)=>some ((x7_0,x7_1),true)))
def G9(p0:Int)(p1:w5):Option (Int):=match p1 with|(p1_0,p1_1)=>(if(decide (p0=p1_1))=true then(if(decide (p1_0>p1_1))=true then some (IntKind.i64.wrap (p1_0-1))else some p1_0)else(if(decide (p0>p1_1))=true then some (IntKind.i64.wrap (p0-1))else some p0))
def j4(p0_2:H0)(p1_0:Int)(p1_1:Int):Nat->Int->Int->Int->H0->Option (Int×Int×H0)
 |0,_,_,_,_=>none
 |fuel+1,u7,u8,u9,u10=>(if(decide (u7<((p0_2.length:Nat):Int)))=true then(gi p0_2 u7).bind λx14=>match x14 with|(x14_0,x14_1,x14_2)=>(G9 x14_0 (p1_0,p1_1)).bind λx15=>(grd (J0 x15)).bind λq16=>(G9 x14_2 (p1_0,p1_1)).bind λx19=>(grd (J0 x19)).bind λq20=>(t8 u10 (x15,x14_1,x19)).bind λx25=>(j4 p0_2 p1_0 p1_1 fuel (IntKind.i64.wrap (u7+1)) u8 u9 x25)else some (u8,u9,u10))
def i7(p0:l0)(p1:w5):Option (l0×Bool):=match p0 with|(p0_0,p0_1,p0_2)=>match p1 with|(p1_0,p1_1)=>(K3 (p0_0,p0_1,p0_2)).bind λx1=>(if(bif(bif(bif(!x1)then true else(decide (p1_0<0)))then true else(decide (p1_0 ≥ p1_1)))then true else(decide (p1_1 ≥ p0_1)))=true then(S4 (p0_0,p0_1,p0_2)).bind λx3=>match x3 with|(x3_0,x3_1,x3_2)=>some ((x3_0,x3_1,x3_2),false)else(j4 p0_2 p1_0 p1_1 C1 0 p0_0 (IntKind.i64.wrap (p0_1-1)) ([]:H0)).bind (λS32=>match S32 with|(y29,y30,y31)=>some ((y29,y30,y31),true)))
def o9(p0:l0):Option (l0×w5×Bool):=match p0 with|(p0_0,p0_1,p0_2)=>(P8 (p0_0,p0_1,p0_2)).bind λx1=>match x1 with|(x1_0,x1_1)=>match x1_0 with|(x1_0_0,x1_0_1)=>(if(!x1_1)=true then(S4 (p0_0,p0_1,p0_2)).bind λx5=>match x5 with|(x5_0,x5_1,x5_2)=>some ((x5_0,x5_1,x5_2),(0,0),false)else(i7 (p0_0,p0_1,p0_2) (x1_0_0,x1_0_1)).bind λx8=>match x8 with|(x8_0,x8_1)=>match x8_0 with|(x8_0_0,x8_0_1,x8_0_2)=>some ((x8_0_0,x8_0_1,x8_0_2),(x1_0_0,x1_0_1),true))
def t6:Nat->Int->Int->Int->H0->(List w5)->Option ((l0×p5) ⊕ (Int×Int×H0×(List w5)))
 |0,_,_,_,_,_=>none
 |fuel+1,u5,u6,u7,u8,u9=>(if(decide (u5<40))=true then(o9 (u6,u7,u8)).bind λx13=>match x13 with|(x13_0,x13_1,x13_2)=>match x13_0 with|(x13_0_0,x13_0_1,x13_0_2)=>match x13_1 with|(x13_1_0,x13_1_1)=>(if(!x13_2)=true then some (.inl ((u6,u7,u8),u9))else(grd ((u9.length+([(x13_1_0,x13_1_1)]).length)*16<=140737488355328)).bind λ_=>(t6 fuel (IntKind.i64.wrap (u5+1)) x13_0_0 x13_0_1 x13_0_2 (u9 ++ [(x13_1_0,x13_1_1)])))else some (.inr (u6,u7,u8,u9)))
def e00(p0:l0):Option (l0×p5):=match p0 with|(p0_0,p0_1,p0_2)=>(S4 (p0_0,p0_1,p0_2)).bind λx1=>match x1 with|(x1_0,x1_1,x1_2)=>(t6 C1 0 x1_0 x1_1 x1_2 ([]:p5)).bind λX36=>j00 X36 (λS35=>match S35 with|(y27,y28,y29,y30)=>some ((y27,y28,y29),y30))
def M4(u20:Int)(x26:Int)(u17:C0):Nat->Int->(List Int)->(List Int)->Option ((List Int)×(List Int))
 |0,_,_,_=>none
 |fuel+1,u30,u31,u32=>(if(decide (u30<u20))=true then(if(!decide (u30=x26))=true then(grd ((u31.length + [u30].length)*8<=140737488355328)).bind λ_=>(gi u17 u30).bind λx38=>(grd ((u32.length + [x38].length)*8<=140737488355328)).bind λ_=>(M4 u20 x26 u17 fuel (IntKind.i64.wrap (u30+1)) (u31 ++ [u30]) (u32 ++ [x38]))else(M4 u20 x26 u17 fuel (IntKind.i64.wrap (u30+1)) u31 u32))else some (u31,u32))
def F5(p0_0:Int)(p0_1:Int)(p0_2:H0):Nat->C0->Int->Int->Int->H0->Option ((l0×C0) ⊕ (C0×Int×Int×H0))
 |0,_,_,_,_,_=>none
 |fuel+1,u17,u18,u19,u20,u21=>(chk (decide (u18<40)) (K3 (p0_0,p0_1,p0_2)) false).bind λx24=>(if(bif(decide (u18<40))then x24 else false)=true then(F00 (u19,u20,u21)).bind λx26=>(grd (J0 x26)).bind λ_=>(if(decide (x26<0))=true then some (.inl ((u19,u20,u21),u17))else(M4 u20 x26 u17 C1 0 ([]:C0) ([]:C0)).bind (λS65=>match S65 with|(y52,y53)=>(V5 (u19,u20,u21) y52).bind λx58=>match x58 with|(x58_0,x58_1)=>match x58_0 with|(x58_0_0,x58_0_1,x58_0_2)=>(F5 p0_0 p0_1 p0_2 fuel y53 (IntKind.i64.wrap (u18+1)) x58_0_0 x58_0_1 x58_0_2)))else some (.inr (u17,u19,u20,u21)))
def G5(p0_1:Int)(p0_0:Int)(p0_2:H0):Nat->Int->(List Int)->Option ((List Int))
 |0,_,_=>none
 |fuel+1,u5,u6=>(chk (decide (u5<p0_1)) (K3 (p0_0,p0_1,p0_2)) false).bind λx9=>(if(bif(decide (u5<p0_1))then x9 else false)=true then(grd ((u6.length + [u5].length)*8<=140737488355328)).bind λ_=>(G5 p0_1 p0_0 p0_2 fuel (IntKind.i64.wrap (u5+1)) (u6 ++ [u5]))else some (u6))
def Q8(p0:l0):Option (l0×C0):=match p0 with|(p0_0,p0_1,p0_2)=>(S4 (p0_0,p0_1,p0_2)).bind λx1=>match x1 with|(x1_0,x1_1,x1_2)=>(G5 p0_1 p0_0 p0_2 C1 0 ([]:C0)).bind (λy75=>(F5 p0_0 p0_1 p0_2 C1 y75 0 x1_0 x1_1 x1_2).bind λX137=>j00 X137 (λS136=>match S136 with|(y132,y133,y134,y135)=>some ((y133,y134,y135),y132)))
def R8(p0:l0):Option (l0):=match p0 with|(p0_0,p0_1,p0_2)=>(e00 (p0_0,p0_1,p0_2)).bind λx1=>match x1 with|(x1_0,x1_1)=>match x1_0 with|(x1_0_0,x1_0_1,x1_0_2)=>(Q8 (x1_0_0,x1_0_1,x1_0_2)).bind λx4=>match x4 with|(x4_0,x4_1)=>match x4_0 with|(x4_0_0,x4_0_1,x4_0_2)=>(P6 (x4_0_0,x4_0_1,x4_0_2)).bind λx7=>match x7 with|(x7_0,x7_1,x7_2)=>some (x7_0,x7_1,x7_2)
def l4(u2:Int)(p0:C0):Nat->Int->Option ((Bool) ⊕ (Unit))
 |0,_=>none
 |fuel+1,u10=>(if(decide (u10<u2))=true then(gi p0 u10).bind λx14=>(gi p0 u2).bind λx15=>(if(decide (x14=x15))=true then some (.inl false)else(l4 u2 p0 fuel (IntKind.i64.wrap (u10+1))))else some (.inr ()))
def n4(p0:C0):Nat->Int->Option ((Bool) ⊕ (Unit))
 |0,_=>none
 |fuel+1,u2=>(if(decide (u2<((p0.length:Nat):Int)))=true then(gi p0 u2).bind λx6=>(U2 x6 0 (IntKind.i64.wrap (((p0.length:Nat):Int)-1))).bind λx7=>(if(!x7)=true then some (.inl false)else(l4 u2 p0 C1 0).bind λX19=>x0b X19 (λ_=>(n4 p0 fuel (IntKind.i64.wrap (u2+1)))))else some (.inr ()))
def j7(p0:C0):Option (Bool):=(n4 p0 C1 0).bind λX22=>j00 X22 (λ_=>some (decide (((p0.length:Nat):Int)<=40)))
def W5(p0:T1)(p1_0:Int)(p1_1:Int)(p1_2:H0):Nat->Int->Option ((Bool) ⊕ (Unit))
 |0,_=>none
 |fuel+1,u2=>(if(decide (u2<((p0.length:Nat):Int)))=true then(gi p0 u2).bind λx6=>match x6 with|(x6_0,x6_1,x6_2)=>(T7 (x6_0,x6_1,x6_2) (p1_0,p1_1,p1_2)).bind λx7=>(if x7=true then some (.inl true)else(W5 p0 p1_0 p1_1 p1_2 fuel (IntKind.i64.wrap (u2+1))))else some (.inr ()))
def p9(p0:T1)(p1:l0):Option (Bool):=match p1 with|(p1_0,p1_1,p1_2)=>(W5 p0 p1_0 p1_1 p1_2 C1 0).bind λX11=>j00 X11 (λ_=>some false)
def i5(p0:Int)(u10:M1)(u16:Int):Nat->Int->(List C0)->Option ((List C0))
 |0,_,_=>none
 |fuel+1,u22,u23=>(if(decide (u22<p0))=true then(gi u10 u16).bind λx27=>(Q5 x27 u22).bind λx28=>(if(!x28)=true then(gi u10 u16).bind λx30=>(grd ((([]:C0).length+x30.length)*8<=140737488355328)).bind λ_=>(grd (((([]:C0)++x30).length + [u22].length)*8<=140737488355328)).bind λ_=>(grd ((u23.length+([((([]:C0)++x30) ++ [u22])]).length)*24<=140737488355328)).bind λ_=>(i5 p0 u10 u16 fuel (IntKind.i64.wrap (u22+1)) (u23 ++ [((([]:C0)++x30) ++ [u22])]))else(i5 p0 u10 u16 fuel (IntKind.i64.wrap (u22+1)) u23))else some (u23))
def Y5(u10:M1)(p0:Int):Nat->Int->(List C0)->Option ((List C0))
 |0,_,_=>none
 |fuel+1,u16,u17=>(if(decide (u16<((u10.length:Nat):Int)))=true then(i5 p0 u10 u16 C1 0 u17).bind (λy40=>(Y5 u10 p0 fuel (IntKind.i64.wrap (u16+1)) y40))else some (u17))
def Z5(p0:Int):Nat->M1->Int->Option (M1)
 |0,_,_=>none
 |fuel+1,u10,u11=>(if(decide (u11<p0))=true then(Y5 u10 p0 C1 0 ([]:M1)).bind (λy48=>(Z5 p0 fuel y48 (IntKind.i64.wrap (u11+1))))else some (u10))
def r9(p0:Int):Option (M1):=(Z5 p0 C1 ([([]:C0)]) 0).bind (λy56=>some y56)
def a6(p1:Int)(p0:Int):Nat->Int->Int->Option (Int)
 |0,_,_=>none
 |fuel+1,u2,u3=>(if(decide (u3<p1))=true then(a6 p1 p0 fuel (IntKind.i64.wrap (u2*p0)) (IntKind.i64.wrap (u3+1)))else some (u2))
def s9(p0:Int)(p1:Int):Option (Int):=(a6 p1 p0 C1 1 0).bind (λy8=>some y8)
def w4(p1:M1)(u6:Int):Nat->Int->Int->Int->H0->Option (Int×Int×H0)
 |0,_,_,_,_=>none
 |fuel+1,u18,u19,u20,u21=>(if(decide (u18<u20))=true then(gi p1 u6).bind λx25=>(gi x25 u18).bind λx30=>(t8 u21 (u18,(IntKind.i64.wrap (u6+1)),x30)).bind λx37=>(w4 p1 u6 fuel (IntKind.i64.wrap (u18+1)) u19 u20 x37)else some (u19,u20,u21))
def A4(p0:Int)(p1:M1):Nat->Int->Int->Int->H0->Option ((l0×Bool) ⊕ (Int×Int×H0))
 |0,_,_,_,_=>none
 |fuel+1,u6,u7,u8,u9=>(if(decide (u6<p0))=true then(gi p1 u6).bind λx13=>(j7 x13).bind λx14=>(chk (!(!x14)) (gi p1 u6) []).bind λx15=>(if(bif(!x14)then true else(!decide (((x15.length:Nat):Int)=u8)))=true then some (.inl ((0,0,[]),false))else(w4 p1 u6 C1 0 u7 u8 u9).bind (λS44=>match S44 with|(y41,y42,y43)=>(A4 p0 p1 fuel (IntKind.i64.wrap (u6+1)) y41 y42 y43)))else some (.inr (u7,u8,u9)))
def l7(p0:Int)(p1:M1):Option (l0×Bool):=(U2 p0 1 3).bind λx1=>(chk (!(bif(!x1)then true else(!decide (((p1.length:Nat):Int)=p0)))) (gi p1 0) []).bind λx2=>(if(bif(bif(!x1)then true else(!decide (((p1.length:Nat):Int)=p0)))then true else(decide (((x2.length:Nat):Int)=0)))=true then some ((0,0,[]),false)else(gi p1 0).bind λx4=>(A4 p0 p1 C1 0 p0 ((x4.length:Nat):Int) ([]:H0)).bind λX59=>j00 X59 (λS58=>match S58 with|(y51,y52,y53)=>(if(decide (((y53.length:Nat):Int)>120))=true then some ((0,0,[]),false)else(R8 (y51,y52,y53)).bind λx55=>match x55 with|(x55_0,x55_1,x55_2)=>some ((x55_0,x55_1,x55_2),true))))
def l3(p0:Int)(x8:M1):Nat->Int->Int->(List C0)->Option ((List C0))
 |0,_,_,_=>none
 |fuel+1,u20,u21,u22=>(if(decide (u21<p0))=true then(grd (((x8.length:Nat):Int)≠0)).bind λ_=>(gi x8 (Int.tmod u20 ((x8.length:Nat):Int))).bind λx27=>(grd ((u22.length + [x27].length)*24<=140737488355328)).bind λ_=>(grd (((x8.length:Nat):Int)≠0)).bind λ_=>(l3 p0 x8 fuel (IntKind.i64.wrap (Int.tdiv u20 ((x8.length:Nat):Int))) (IntKind.i64.wrap (u21+1)) (u22 ++ [x27]))else some (u22))
def A2(x11:Int)(p0:Int)(x8:M1)(p1:Int):Nat->Int->(List l0)->Option ((List l0))
 |0,_,_=>none
 |fuel+1,u14,u15=>(if(decide (u14<x11))=true then(l3 p0 x8 C1 u14 0 ([]:M1)).bind (λy45=>(l7 p0 y45).bind λx50=>match x50 with|(x50_0,x50_1)=>match x50_0 with|(x50_0_0,x50_0_1,x50_0_2)=>(chk (decide (x50_0_1=p1)) (p9 u15 (x50_0_0,x50_0_1,x50_0_2)) false).bind λx53=>(if(bif(decide (x50_0_1=p1))then(!x53)else false)=true then(grd ((u15.length+([(x50_0_0,x50_0_1,x50_0_2)]).length)*40<=140737488355328)).bind λ_=>(A2 x11 p0 x8 p1 fuel (IntKind.i64.wrap (u14+1)) (u15 ++ [(x50_0_0,x50_0_1,x50_0_2)]))else(A2 x11 p0 x8 p1 fuel (IntKind.i64.wrap (u14+1)) u15)))else some (u15))
def V1(p0:Int)(p1:Int):Option (T1×Bool):=(U2 p0 1 3).bind λx1=>(chk (!(!x1)) (U2 p1 1 3) false).bind λx2=>(if(bif(bif(!x1)then true else(!x2))then true else(bif(decide (p0=3))then(decide (p1=3))else false))=true then some (([]:T1),false)else(r9 p1).bind λx8=>(s9 ((x8.length:Nat):Int) p0).bind λx11=>(grd (J0 x11)).bind λ_=>(A2 x11 p0 x8 p1 C1 0 ([]:T1)).bind (λy67=>some (y67,true)))
def N4(p0:l0):Option (l0):=match p0 with|(p0_0,p0_1,p0_2)=>(grd ((([]:H0).length+p0_2.length)*24<=140737488355328)).bind λ_=>some (p0_0,p0_1,(([]:H0)++p0_2))
def D3(p0_2:H0)(p1:Int):Nat->Int->Int->Option (Int)
 |0,_,_=>none
 |fuel+1,u2,u3=>(if(decide (u3<((p0_2.length:Nat):Int)))=true then(gi p0_2 u3).bind λx7=>match x7 with|(x7_0,x7_1,x7_2)=>(if(decide (x7_0=p1))=true then(if(decide (x7_2=p1))=true then(D3 p0_2 p1 fuel (IntKind.i64.wrap ((IntKind.i64.wrap (u2+1))+1)) (IntKind.i64.wrap (u3+1)))else(D3 p0_2 p1 fuel (IntKind.i64.wrap (u2+1)) (IntKind.i64.wrap (u3+1))))else(if(decide (x7_2=p1))=true then(D3 p0_2 p1 fuel (IntKind.i64.wrap (u2+1)) (IntKind.i64.wrap (u3+1)))else(D3 p0_2 p1 fuel u2 (IntKind.i64.wrap (u3+1)))))else some (u2))
def t9(p0:l0)(p1:Int):Option (Int):=match p0 with|(p0_0,p0_1,p0_2)=>(D3 p0_2 p1 C1 0 0).bind (λy12=>some y12)
def J1(p0:H0)(p1:H0):Nat->Int->Option ((Bool) ⊕ (Unit))
 |0,_=>none
 |fuel+1,u3=>(if(decide (u3<((p0.length:Nat):Int)))=true then(gi p0 u3).bind λx7=>match x7 with|(x7_0,x7_1,x7_2)=>(gi p1 u3).bind λx8=>match x8 with|(x8_0,x8_1,x8_2)=>(if(!eqE (x7_0,x7_1,x7_2) (x8_0,x8_1,x8_2))=true then some (.inl false)else(J1 p0 p1 fuel (IntKind.i64.wrap (u3+1))))else some (.inr ()))
def Z2(p0:H0)(p1:H0):Option (Bool):=(if(!decide (((p0.length:Nat):Int)=((p1.length:Nat):Int)))=true then some false else(J1 p0 p1 C1 0).bind λX12=>j00 X12 (λ_=>some true))
def V7(p0:l0)(p1:l0):Option (Bool):=match p0 with|(p0_0,p0_1,p0_2)=>match p1 with|(p1_0,p1_1,p1_2)=>(chk (bif(decide (p0_0=p1_0))then(decide (p0_1=p1_1))else false) (Z2 p0_2 p1_2) false).bind λx1=>some (bif(bif(decide (p0_0=p1_0))then(decide (p0_1=p1_1))else false)then x1 else false)
def E3(p0_2:H0):Nat->Bool->Int->(List Bool)->Option (Bool×(List Bool))
 |0,_,_,_=>none
 |fuel+1,u10,u11,u12=>(if(decide (u11<((p0_2.length:Nat):Int)))=true then(gi p0_2 u11).bind λx16=>match x16 with|(x16_0,x16_1,x16_2)=>(gi u12 x16_0).bind λx17=>(gi u12 x16_2).bind λx18=>(if(!(x17 == x18))=true then(gi u12 x16_0).bind λx20=>(gi (u12.set x16_0.toNat true) x16_2).bind λx21=>(E3 p0_2 fuel true (IntKind.i64.wrap (u11+1)) ((u12.set x16_0.toNat true).set x16_2.toNat true))else(E3 p0_2 fuel u10 (IntKind.i64.wrap (u11+1)) u12))else some (u10,u12))
def K4(p0_2:H0):Nat->Bool->(List Bool)->Option ((List Bool))
 |0,_,_=>none
 |fuel+1,u4,u5=>(if u4=true then(E3 p0_2 C1 false 0 u5).bind (λS25=>match S25 with|(y23,y24)=>(K4 p0_2 fuel y23 y24))else some (u5))
def H7(p0:l0)(p1:Int):Option ((List Bool)):=match p0 with|(p0_0,p0_1,p0_2)=>(grd ((0:Int)<=p0_1/\p0_1<=p0_1/\p0_1*1<=140737488355328/\p0_1<=9223372036854775807)).bind λ_=>(gi (List.replicate p0_1.toNat (false:Bool)) p1).bind λx2=>(K4 p0_2 C1 true ((List.replicate p0_1.toNat (false:Bool)).set p1.toNat true)).bind (λy32=>some y32)
def w6(p0:Int):Nat->Int->(List Int)->Option ((List Int))
 |0,_,_=>none
 |fuel+1,u2,u3=>(if(decide (u2<=p0))=true then(grd ((u3.length+([u2,(IntKind.i64.wrap (0-u2))]).length)*8<=140737488355328)).bind λ_=>(w6 p0 fuel (IntKind.i64.wrap (u2+1)) (u3 ++ [u2,(IntKind.i64.wrap (0-u2))]))else some (u3))
def f00(p0:Int):Option (C0):=(w6 p0 C1 1 ([]:C0)).bind (λy13=>some y13)
def M7(p0:H0):Option (H0):=(grd ((([]:H0).length+p0.length)*24<=140737488355328)).bind λ_=>(grd ((([]:H0)++p0).length<4611686018427387904)).bind λ_=>some (c00 eqE (l02 c7 (([]:H0)++p0)))
def M6(p0_2:H0)(u13:(List Int)):Nat->Int->Int->Int->(List U3)->Option (Int×Int×(List U3))
 |0,_,_,_,_=>none
 |fuel+1,u20,u21,u22,u23=>(if(decide (u20<((p0_2.length:Nat):Int)))=true then(gi p0_2 u20).bind λx27=>match x27 with|(x27_0,x27_1,x27_2)=>(gi u13 x27_0).bind λx28=>(chk (decide (x28 ≥ 0)) (gi u13 x27_2) 0).bind λx29=>(if(bif(decide (x28 ≥ 0))then(decide (x29 ≥ 0))else false)=true then(gi u13 x27_0).bind λx31=>(gi u13 x27_2).bind λx36=>(grd ((u23.length+([(x31,x27_1,x36)]).length)*24<=140737488355328)).bind λ_=>(M6 p0_2 u13 fuel (IntKind.i64.wrap (u20+1)) u21 u22 (u23 ++ [(x31,x27_1,x36)]))else(M6 p0_2 u13 fuel (IntKind.i64.wrap (u20+1)) u21 u22 u23))else some (u21,u22,u23))
def N7(p1:C0):Nat->Int->(List Int)->Option ((List Int))
 |0,_,_=>none
 |fuel+1,u12,u13=>(if(decide (u12<((p1.length:Nat):Int)))=true then(gi p1 u12).bind λx17=>(gi u13 x17).bind λx18=>(N7 p1 fuel (IntKind.i64.wrap (u12+1)) (u13.set x17.toNat u12))else some (u13))
def O7(m2:Nat):Nat->Int->(List Int)->Option ((List Int))
 |0,_,_=>none
 |fuel+1,u5,u6=>(if(decide (u5<((m2:Nat):Int)))=true then(gi u6 u5).bind λx10=>(O7 m2 fuel (IntKind.i64.wrap (u5+1)) (u6.set u5.toNat (-1)))else some (u6))
def y00(p0:l0)(p1:C0):Option (l0):=match p0 with|(p0_0,p0_1,p0_2)=>(grd ((0:Int)<=p0_1/\p0_1<=p0_1/\p0_1*8<=140737488355328/\p0_1<=9223372036854775807)).bind λ_=>(some (List.replicate p0_1.toNat (0:Int)).length).bind λm2=>(grd (m2<=9223372036854775807)).bind λ_=>(O7 m2 C1 0 (List.replicate p0_1.toNat (0:Int))).bind (λy114=>(N7 p1 C1 0 y114).bind (λy169=>(M6 p0_2 y169 C1 0 p0_0 ((p1.length:Nat):Int) ([]:H0)).bind (λS213=>match S213 with|(y203,y204,y205)=>(M7 y205).bind λx210=>some (y203,y204,x210))))
def K6(p0:C0):Option (C0):=(grd ((([]:C0).length+p0.length)*8<=140737488355328)).bind λ_=>some (([]:C0)++p0)
def I4(x17:C0)(p0_0:Int)(p0_1:Int)(p0_2:H0)(x16:Int):Nat->Int->(List (Option C0))->(List Int)->Option ((List (Option C0))×(List Int))
 |0,_,_,_=>none
 |fuel+1,u21,u22,u23=>(if(decide (u21<((x17.length:Nat):Int)))=true then(gi x17 u21).bind λx27=>(s8 (p0_0,p0_1,p0_2) x16 x27).bind λx28=>(grd (J0 x28)).bind λ_=>(chk (decide (x28 ≥ 0)) (gi u22 x28) (none:Option C0)).bind λx30=>(if(bif(decide (x28 ≥ 0))then x30.isNone else false)=true then(gi u22 x16).bind λx32=>(K6 (x32.getD [])).bind λx33=>(grd ((x33.length + [x27].length)*8<=140737488355328)).bind λ_=>(gi u22 x28).bind λx38=>(grd ((u23.length + [x28].length)*8<=140737488355328)).bind λ_=>(I4 x17 p0_0 p0_1 p0_2 x16 fuel (IntKind.i64.wrap (u21+1)) (u22.set x28.toNat (some (x33 ++ [x27]))) (u23 ++ [x28]))else(I4 x17 p0_0 p0_1 p0_2 x16 fuel (IntKind.i64.wrap (u21+1)) u22 u23))else some (u22,u23))
def n5(p0_0:Int)(p0_1:Int)(p0_2:H0):Nat->Int->(List (Option C0))->(List Int)->Option ((List (Option C0))×(List Int))
 |0,_,_,_=>none
 |fuel+1,u8,u9,u10=>(some u10.length).bind λm13=>(grd (m13<=9223372036854775807)).bind λ_=>(if(decide (u8<((m13:Nat):Int)))=true then(gi u10 u8).bind λx16=>(f00 p0_0).bind λx17=>(I4 x17 p0_0 p0_1 p0_2 x16 C1 0 u9 u10).bind (λS43=>match S43 with|(y41,y42)=>(n5 p0_0 p0_1 p0_2 fuel (IntKind.i64.wrap (u8+1)) y41 y42))else some (u9,u10))
def w8(p0:l0)(p1:Int):Option (C0×M1):=match p0 with|(p0_0,p0_1,p0_2)=>(grd ((0:Int)<=p0_1/\p0_1<=p0_1/\p0_1*24<=140737488355328/\p0_1<=9223372036854775807)).bind λ_=>(gi (List.replicate p0_1.toNat (none:Option C0)) p1).bind λx2=>(n5 p0_0 p0_1 p0_2 C1 0 ((List.replicate p0_1.toNat (none:Option C0)).set p1.toNat (some ([]:C0))) [p1]).bind (λS64=>match S64 with|(y54,y55)=>some (y55,(List.map (λo:Option C0=>o.getD ([]:C0)) y54)))
def Q6(p0:l0):Option (C0):=match p0 with|(p0_0,p0_1,p0_2)=>(S7 (p0_0,p0_1,p0_2)).bind λx1=>(if(!x1)=true then some ([]:C0)else(w8 (p0_0,p0_1,p0_2) 0).bind λx7=>match x7 with|(x7_0,x7_1)=>some x7_0)
def R6(p0:l0):Option (l0):=match p0 with|(p0_0,p0_1,p0_2)=>(S7 (p0_0,p0_1,p0_2)).bind λx1=>(if(!x1)=true then(N4 (p0_0,p0_1,p0_2)).bind λx3=>match x3 with|(x3_0,x3_1,x3_2)=>some (x3_0,x3_1,x3_2)else(Q6 (p0_0,p0_1,p0_2)).bind λx7=>(y00 (p0_0,p0_1,p0_2) x7).bind λx10=>match x10 with|(x10_0,x10_1,x10_2)=>some (x10_0,x10_1,x10_2))
def O4(u25:Int)(u33:Int):Nat->Int->(List Int)->Option ((List Int))
 |0,_,_=>none
 |fuel+1,u44,u45=>(if(decide (u44<u25))=true then(if(!decide (u44=u33))=true then(grd ((u45.length + [u44].length)*8<=140737488355328)).bind λ_=>(O4 u25 u33 fuel (IntKind.i64.wrap (u44+1)) (u45 ++ [u44]))else(O4 u25 u33 fuel (IntKind.i64.wrap (u44+1)) u45))else some (u45))
def P4(u25:Int)(u24:Int)(u26:H0)(x29:(List Bool)):Nat->Int->Int->Option (Int)
 |0,_,_=>none
 |fuel+1,u33,u34=>(if(bif(decide (u34<u25))then(decide (u33=0))else false)=true then(t9 (u24,u25,u26) u34).bind λx38=>(grd (J0 x38)).bind λ_=>(chk (!(decide (x38<2))) (gi x29 u34) false).bind λx40=>(if(bif(decide (x38<2))then true else(!x40))=true then(P4 u25 u24 u26 x29 fuel u34 (IntKind.i64.wrap (u34+1)))else(P4 u25 u24 u26 x29 fuel u33 (IntKind.i64.wrap (u34+1))))else some (u33))
def H5:Nat->C0->Int->Int->H0->Option ((l0×C0) ⊕ (Int×Int×H0))
 |0,_,_,_,_=>none
 |fuel+1,u23,u24,u25,u26=>(H7 (u24,u25,u26) 0).bind λx29=>(P4 u25 u24 u26 x29 C1 0 1).bind (λy82=>(if(decide (y82=0))=true then some (.inl ((u24,u25,u26),u23))else(O4 u25 y82 C1 0 ([]:C0)).bind (λy106=>(y00 (u24,u25,u26) y106).bind λx111=>match x111 with|(x111_0,x111_1,x111_2)=>(j06 u23 0 y82).bind λx115=>(j06 u23 (IntKind.i64.wrap (y82+1)) (u23.length:Int)).bind λx116=>(grd ((x115.length+x116.length)*8<=140737488355328)).bind λ_=>(H5 fuel (x115++x116) x111_0 x111_1 x111_2))))
def I5(p0_1:Int):Nat->Int->(List Int)->Option ((List Int))
 |0,_,_=>none
 |fuel+1,u12,u13=>(if(decide (u12<p0_1))=true then(grd ((u13.length + [u12].length)*8<=140737488355328)).bind λ_=>(I5 p0_1 fuel (IntKind.i64.wrap (u12+1)) (u13 ++ [u12]))else some (u13))
def S8(p0:l0):Option (l0×C0):=match p0 with|(p0_0,p0_1,p0_2)=>(N4 (p0_0,p0_1,p0_2)).bind λx1=>match x1 with|(x1_0,x1_1,x1_2)=>(r6 (p0_0,p0_1,p0_2)).bind λx5=>(if(!x5)=true then some ((x1_0,x1_1,x1_2),([]:C0))else(I5 p0_1 C1 0 ([]:C0)).bind (λy126=>(H5 C1 y126 x1_0 x1_1 x1_2).bind λX233=>j00 X233 (λ_=>none)))
def s5(p0:Int)(p1:w5):Option (Int):=match p1 with|(p1_0,p1_1)=>(if(decide (p0=p1_1))=true then some p1_0 else(if(decide (p0>p1_1))=true then some (IntKind.i64.wrap (p0-1))else some p0))
def B4(x8:H0)(x7_1:Int)(x7_0:Int)(x7_2:Int):Nat->Int->(List w5)->Option ((List w5))
 |0,_,_=>none
 |fuel+1,u10,u11=>(if(decide (u10<((x8.length:Nat):Int)))=true then(gi x8 u10).bind λx15=>match x15 with|(x15_0,x15_1,x15_2)=>(if(!decide (x7_1=x15_1))=true then(B4 x8 x7_1 x7_0 x7_2 fuel (IntKind.i64.wrap (u10+1)) u11)else(if(decide (x7_0=x15_0))=true then(grd ((u11.length+([((if x15_2<x7_2 then x15_2 else x7_2),(if x15_2>x7_2 then x15_2 else x7_2))]).length)*16<=140737488355328)).bind λ_=>(if(decide (x7_2=x15_2))=true then(grd (((u11 ++ [((if x15_2<x7_2 then x15_2 else x7_2),(if x15_2>x7_2 then x15_2 else x7_2))]).length+([((if x15_0<x7_0 then x15_0 else x7_0),(if x15_0>x7_0 then x15_0 else x7_0))]).length)*16<=140737488355328)).bind λ_=>(B4 x8 x7_1 x7_0 x7_2 fuel (IntKind.i64.wrap (u10+1)) ((u11 ++ [((if x15_2<x7_2 then x15_2 else x7_2),(if x15_2>x7_2 then x15_2 else x7_2))]) ++ [((if x15_0<x7_0 then x15_0 else x7_0),(if x15_0>x7_0 then x15_0 else x7_0))]))else(B4 x8 x7_1 x7_0 x7_2 fuel (IntKind.i64.wrap (u10+1)) (u11 ++ [((if x15_2<x7_2 then x15_2 else x7_2),(if x15_2>x7_2 then x15_2 else x7_2))])))else(if(decide (x7_2=x15_2))=true then(grd ((u11.length+([((if x15_0<x7_0 then x15_0 else x7_0),(if x15_0>x7_0 then x15_0 else x7_0))]).length)*16<=140737488355328)).bind λ_=>(B4 x8 x7_1 x7_0 x7_2 fuel (IntKind.i64.wrap (u10+1)) (u11 ++ [((if x15_0<x7_0 then x15_0 else x7_0),(if x15_0>x7_0 then x15_0 else x7_0))]))else(B4 x8 x7_1 x7_0 x7_2 fuel (IntKind.i64.wrap (u10+1)) u11))))else some (u11))
def n7(p0_2:H0):Nat->Int->(List w5)->Option ((List w5))
 |0,_,_=>none
 |fuel+1,u2,u3=>(if(decide (u2<((p0_2.length:Nat):Int)))=true then(gi p0_2 u2).bind λx7=>match x7 with|(x7_0,x7_1,x7_2)=>(j06 p0_2 (IntKind.i64.wrap (u2+1)) (p0_2.length:Int)).bind λx8=>(B4 x8 x7_1 x7_0 x7_2 C1 0 u3).bind (λy24=>(n7 p0_2 fuel (IntKind.i64.wrap (u2+1)) y24))else some (u3))
def w01(p0:l0):Option (p5):=match p0 with|(p0_0,p0_1,p0_2)=>(n7 p0_2 C1 0 ([]:p5)).bind (λy32=>some y32)
def T8(p0:l0):Option (w5×Bool):=match p0 with|(p0_0,p0_1,p0_2)=>(r6 (p0_0,p0_1,p0_2)).bind λx1=>(if(!x1)=true then some ((0,0),false)else(w01 (p0_0,p0_1,p0_2)).bind λx3=>(if(decide (((x3.length:Nat):Int)=0))=true then some ((0,0),false)else(gi x3 0).bind λx7=>match x7 with|(x7_0,x7_1)=>some ((x7_0,x7_1),true)))
def C4(x1_2:H0)(p1_0:Int)(p1_1:Int):Nat->Int->H0->Option (H0)
 |0,_,_=>none
 |fuel+1,u9,u10=>(if(decide (u9<((x1_2.length:Nat):Int)))=true then(gi u10 u9).bind λx15=>match x15 with|(x15_0,x15_1,x15_2)=>(s5 x15_0 (p1_0,p1_1)).bind λx16=>(grd (J0 x16)).bind λq17=>(s5 x15_2 (p1_0,p1_1)).bind λx20=>(grd (J0 x20)).bind λq21=>(gi u10 u9).bind λx26=>match x26 with|(x26_0,x26_1,x26_2)=>(C4 x1_2 p1_0 p1_1 fuel (IntKind.i64.wrap (u9+1)) (u10.set u9.toNat (x16,x15_1,x20)))else some (u10))
def o7(p0:l0)(p1:w5):Option (l0×Bool):=match p0 with|(p0_0,p0_1,p0_2)=>match p1 with|(p1_0,p1_1)=>(N4 (p0_0,p0_1,p0_2)).bind λx1=>match x1 with|(x1_0,x1_1,x1_2)=>(r6 (p0_0,p0_1,p0_2)).bind λx5=>(if(bif(bif(bif(!x5)then true else(decide (p1_0<0)))then true else(decide (p1_0 ≥ p1_1)))then true else(decide (p1_1 ≥ p0_1)))=true then some ((x1_0,x1_1,x1_2),false)else(C4 x1_2 p1_0 p1_1 C1 0 x1_2).bind (λy33=>(M7 y33).bind λx34=>some ((x1_0,(IntKind.i64.wrap (x1_1-1)),x34),true)))
def w9(p0:l0):Option (l0×w5×Bool):=match p0 with|(p0_0,p0_1,p0_2)=>(T8 (p0_0,p0_1,p0_2)).bind λx1=>match x1 with|(x1_0,x1_1)=>match x1_0 with|(x1_0_0,x1_0_1)=>(if(!x1_1)=true then(N4 (p0_0,p0_1,p0_2)).bind λx5=>match x5 with|(x5_0,x5_1,x5_2)=>some ((x5_0,x5_1,x5_2),(0,0),false)else(o7 (p0_0,p0_1,p0_2) (x1_0_0,x1_0_1)).bind λx9=>match x9 with|(x9_0,x9_1)=>match x9_0 with|(x9_0_0,x9_0_1,x9_0_2)=>some ((x9_0_0,x9_0_1,x9_0_2),(x1_0_0,x1_0_1),true))
def A6:Nat->Int->Int->H0->(List w5)->Option ((l0×p5) ⊕ (Int×Int×H0×(List w5)))
 |0,_,_,_,_=>none
 |fuel+1,u6,u7,u8,u9=>(w9 (u6,u7,u8)).bind λx12=>match x12 with|(x12_0,x12_1,x12_2)=>match x12_0 with|(x12_0_0,x12_0_1,x12_0_2)=>match x12_1 with|(x12_1_0,x12_1_1)=>(if(!x12_2)=true then some (.inl ((u6,u7,u8),u9))else(grd ((u9.length+([(x12_1_0,x12_1_1)]).length)*16<=140737488355328)).bind λ_=>(A6 fuel x12_0_0 x12_0_1 x12_0_2 (u9 ++ [(x12_1_0,x12_1_1)])))
def g00(p0:l0):Option (l0×p5):=match p0 with|(p0_0,p0_1,p0_2)=>(N4 (p0_0,p0_1,p0_2)).bind λx1=>match x1 with|(x1_0,x1_1,x1_2)=>(A6 C1 x1_0 x1_1 x1_2 ([]:p5)).bind λX22=>j00 X22 (λ_=>none)
def U8(p0:l0):Option (l0):=match p0 with|(p0_0,p0_1,p0_2)=>(g00 (p0_0,p0_1,p0_2)).bind λx1=>match x1 with|(x1_0,x1_1)=>match x1_0 with|(x1_0_0,x1_0_1,x1_0_2)=>(S8 (x1_0_0,x1_0_1,x1_0_2)).bind λx5=>match x5 with|(x5_0,x5_1)=>match x5_0 with|(x5_0_0,x5_0_1,x5_0_2)=>(R6 (x5_0_0,x5_0_1,x5_0_2)).bind λx9=>match x9 with|(x9_0,x9_1,x9_2)=>some (x9_0,x9_1,x9_2)
def D4(p0:C0):Nat->Int->(List Bool)->Option ((Bool) ⊕ ((List Bool)))
 |0,_,_=>none
 |fuel+1,u4,u5=>(if(decide (u4<((p0.length:Nat):Int)))=true then(gi p0 u4).bind λx9=>(J3 x9 0 (IntKind.i64.wrap (((p0.length:Nat):Int)-1))).bind λx10=>(chk (!(!x10)) (gi u5 x9) false).bind λx11=>(if(bif(!x10)then true else x11)=true then some (.inl false)else(gi u5 x9).bind λx13=>(D4 p0 fuel (IntKind.i64.wrap (u4+1)) (u5.set x9.toNat true)))else some (.inr (u5)))
def p7(p0:C0):Option (Bool):=(if(decide (((p0.length:Nat):Int)>40))=true then some false else(grd ((0:Int)<=((p0.length:Nat):Int)/\((p0.length:Nat):Int)<=((p0.length:Nat):Int)/\((p0.length:Nat):Int)*1<=140737488355328/\((p0.length:Nat):Int)<=9223372036854775807)).bind λ_=>(D4 p0 C1 0 (List.replicate ((p0.length:Nat):Int).toNat (false:Bool))).bind λX17=>j00 X17 (λy15=>some true))
def c6(p0:T1)(p1_0:Int)(p1_1:Int)(p1_2:H0):Nat->Int->Option ((Bool) ⊕ (Unit))
 |0,_=>none
 |fuel+1,u2=>(if(decide (u2<((p0.length:Nat):Int)))=true then(gi p0 u2).bind λx6=>match x6 with|(x6_0,x6_1,x6_2)=>(V7 (x6_0,x6_1,x6_2) (p1_0,p1_1,p1_2)).bind λx7=>(if x7=true then some (.inl true)else(c6 p0 p1_0 p1_1 p1_2 fuel (IntKind.i64.wrap (u2+1))))else some (.inr ()))
def y9(p0:T1)(p1:l0):Option (Bool):=match p1 with|(p1_0,p1_1,p1_2)=>(c6 p0 p1_0 p1_1 p1_2 C1 0).bind λX11=>j00 X11 (λ_=>some false)
def L5(n:Nat):Nat->C0->M1
 |0,l=>[l]
 |k+1,l=>(List.range n).flatMap λx:Nat=>bif l.contains (x:Int)then []else L5 n k (l ++ [(x:Int)])
def I7(n:Int):Option M1:=if 1<=n/\n<=3 then some (L5 n.toNat n.toNat [])else none
def E4(x14:C0)(u7:Int):Nat->Int->Int->Int->(List U3)->Option (Int×Int×(List U3))
 |0,_,_,_,_=>none
 |fuel+1,u18,u19,u20,u21=>(if(decide (u18<((x14.length:Nat):Int)))=true then(gi x14 u18).bind λx25=>(grd ((u21.length+([(u18,(IntKind.i64.wrap (u7+1)),x25)]).length)*24<=140737488355328)).bind λ_=>(E4 x14 u7 fuel (IntKind.i64.wrap (u18+1)) u19 u20 (u21 ++ [(u18,(IntKind.i64.wrap (u7+1)),x25)]))else some (u19,u20,u21))
def F4(p1:M1):Nat->Int->Int->Int->(List U3)->Option ((l0×Bool) ⊕ (Int×Int×(List U3)))
 |0,_,_,_,_=>none
 |fuel+1,u7,u8,u9,u10=>(if(decide (u7<((p1.length:Nat):Int)))=true then(gi p1 u7).bind λx14=>(p7 x14).bind λx15=>(if(bif(!x15)then true else(!decide (((x14.length:Nat):Int)=u9)))=true then some (.inl ((0,0,[]),false))else(E4 x14 u7 C1 0 u8 u9 u10).bind (λS31=>match S31 with|(y28,y29,y30)=>(F4 p1 fuel (IntKind.i64.wrap (u7+1)) y28 y29 y30)))else some (.inr (u8,u9,u10)))
def r7(p0:Int)(p1:M1):Option (l0×Bool):=(J3 p0 1 3).bind λx1=>(chk (!(bif(!x1)then true else(!decide (((p1.length:Nat):Int)=p0)))) (gi p1 0) []).bind λx2=>(chk (!(bif(bif(!x1)then true else(!decide (((p1.length:Nat):Int)=p0)))then true else(decide (((x2.length:Nat):Int)=0)))) (gi p1 0) []).bind λx3=>(if(bif(bif(bif(!x1)then true else(!decide (((p1.length:Nat):Int)=p0)))then true else(decide (((x2.length:Nat):Int)=0)))then true else(decide ((IntKind.i64.wrap (((x3.length:Nat):Int)*p0))>120)))=true then some ((0,0,[]),false)else(gi p1 0).bind λx5=>(F4 p1 C1 0 p0 ((x5.length:Nat):Int) ([]:H0)).bind λX60=>j00 X60 (λS59=>match S59 with|(y45,y46,y47)=>(M7 y47).bind λx52=>(U8 (y45,y46,x52)).bind λx55=>match x55 with|(x55_0,x55_1,x55_2)=>some ((x55_0,x55_1,x55_2),true)))
def A3(p0:Int)(x8:M1):Nat->Int->Int->(List C0)->Option ((List C0))
 |0,_,_,_=>none
 |fuel+1,u24,u25,u26=>(if(decide (u24<p0))=true then(grd (((x8.length:Nat):Int)≠0)).bind λ_=>(gi x8 (Int.tmod u25 ((x8.length:Nat):Int))).bind λx31=>(grd ((u26.length + [x31].length)*24<=140737488355328)).bind λ_=>(grd (((x8.length:Nat):Int)≠0)).bind λ_=>(A3 p0 x8 fuel (IntKind.i64.wrap (u24+1)) (IntKind.i64.wrap (Int.tdiv u25 ((x8.length:Nat):Int))) (u26 ++ [x31]))else some (u26))
def C2(u12:Int)(p0:Int)(x8:M1)(p1:Int):Nat->Int->(List l0)->Option ((List l0))
 |0,_,_=>none
 |fuel+1,u18,u19=>(if(decide (u18<u12))=true then(A3 p0 x8 C1 0 u18 ([]:M1)).bind (λy51=>(r7 p0 y51).bind λx56=>match x56 with|(x56_0,x56_1)=>match x56_0 with|(x56_0_0,x56_0_1,x56_0_2)=>(chk (bif x56_1 then(decide (x56_0_1=p1))else false) (y9 u19 (x56_0_0,x56_0_1,x56_0_2)) false).bind λx60=>(if(bif(bif x56_1 then(decide (x56_0_1=p1))else false)then(!x60)else false)=true then(grd ((u19.length+([(x56_0_0,x56_0_1,x56_0_2)]).length)*40<=140737488355328)).bind λ_=>(C2 u12 p0 x8 p1 fuel (IntKind.i64.wrap (u18+1)) (u19 ++ [(x56_0_0,x56_0_1,x56_0_2)]))else(C2 u12 p0 x8 p1 fuel (IntKind.i64.wrap (u18+1)) u19)))else some (u19))
def B3(p0:Int)(x8:M1):Nat->Int->Int->Option (Int)
 |0,_,_=>none
 |fuel+1,u12,u13=>(if(decide (u13<p0))=true then(B3 p0 x8 fuel (IntKind.i64.wrap (u12*((x8.length:Nat):Int))) (IntKind.i64.wrap (u13+1)))else some (u12))
def T2(p0:Int)(p1:Int):Option (T1×Bool):=(J3 p0 1 3).bind λx1=>(chk (!(!x1)) (J3 p1 1 3) false).bind λx2=>(if(bif(bif(!x1)then true else(!x2))then true else(bif(decide (p0=3))then(decide (p1=3))else false))=true then some (([]:T1),false)else(I7 p1).bind λx8=>(B3 p0 x8 C1 1 0).bind (λy83=>(C2 y83 p0 x8 p1 C1 0 ([]:T1)).bind (λy142=>some (y142,true))))
end Go.Proofs.YtkjhghloldgioaaGreat
