/- Texts of the claim, joined: What functions of the program compute, in plain words: batch and others. -/
import Derived.Test.YtkjhghloldgioaaGreatPart17
import Derived.Test.YtkjhghloldgioaaGreatH36
namespace Go.Proofs.YtkjhghloldgioaaGreat
open Go.H
set_option linter.unusedVariables false
set_option linter.unusedSimpArgs false
set_option maxRecDepth 10000
def R3(a:Int)(b:Int)(c:Int):Option (Bool):=some (bif(decide (a ≥ b))then(decide (a<=c))else false)
def j9(b:C0)(d:Int):Nat->Int->Option ((Bool) ⊕ (Unit))
 |0,_=>none
 |fuel+1,a=>(if(decide (a<((b.length:Nat):Int)))=true then(gi b a).bind λc=>(chk (!(decide (c=0))) (gi b a) 0).bind λg=>(chk (!(decide (c=0))) (R3 g (IntKind.i64.wrap (0-d)) d) false).bind λe=>(chk ((decide (a>0))&&(!(bif(decide (c=0))then true else(!e)))) (gi b a) 0).bind λh=>(chk ((decide (a>0))&&(!(bif(decide (c=0))then true else(!e)))) (gi b (IntKind.i64.wrap (a-1))) 0).bind λf=>(if(bif(bif(decide (c=0))then true else(!e))then true else(bif(decide (a>0))then(decide (h=(IntKind.i64.wrap (0-f))))else false))=true then some (.inl false)else(j9 b d fuel (IntKind.i64.wrap (a+1))))else some (.inr ()))
def E00(a:Int)(b:C0):Option (Bool):=(j9 b a Q0 0).bind λc=>g9 c (λ_=>(R3 a 1 3).bind λd=>some (bif d then(decide (((b.length:Nat):Int)<=24))else false))
def V3(a:U1):Nat->Int->Int->Option (Int)
 |0,_,_=>none
 |fuel+1,c,b=>(if(decide (b<((a.length:Nat):Int)))=true then(gi a b).bind λd=>(V3 a fuel (IntKind.i64.wrap (c+((d.length:Nat):Int))) (IntKind.i64.wrap (b+1)))else some (c))
def G9(a:U1):Option (Int):=(V3 a Q0 0 0).bind (λb=>some b)
def H7(a:U1)(c:Int):Nat->Int->Option ((Bool) ⊕ (Unit))
 |0,_=>none
 |fuel+1,b=>(if(decide (b<((a.length:Nat):Int)))=true then(gi a b).bind λd=>(E00 c d).bind λe=>(if(!e)=true then some (.inl false)else(H7 a c fuel (IntKind.i64.wrap (b+1))))else some (.inr ()))
def c01(b:Int)(a:U1):Option (Bool):=(H7 a b Q0 0).bind λe=>g9 e (λ_=>(R3 b 1 3).bind λc=>(chk (bif c then(decide (((a.length:Nat):Int)<=6))else false) (G9 a) 0).bind λd=>(grd (J0 d)).bind λ_=>some (bif(bif c then(decide (((a.length:Nat):Int)<=6))else false)then(decide (d<40))else false))
def C6(a:Int)(b:Int)(c:Int):Option (Bool):=some (bif(decide (a ≥ b))then(decide (a<=c))else false)
def f02(b:Int)(a:Int):Option (Bool):=(chk (!decide (a=0)) (C6 a (IntKind.i64.wrap (0-b)) b) false).bind λc=>some (bif(!decide (a=0))then c else false)
def k00(a:Int)(b:Int):Option (Bool):=some (bif(bif(!decide (a=0))then(!decide (a=(-9223372036854775808)))else false)then(decide (b=(IntKind.i64.wrap (0-a))))else false)
def l9(b:C0)(d:Int):Nat->Int->Option ((Bool) ⊕ (Unit))
 |0,_=>none
 |fuel+1,a=>(if(decide (a<((b.length:Nat):Int)))=true then(gi b a).bind λe=>(f02 d e).bind λc=>(chk ((decide (a>0))&&(!(!c))) (gi b (IntKind.i64.wrap (a-1))) 0).bind λf=>(chk ((decide (a>0))&&(!(!c))) (k00 f e) false).bind λg=>(if(bif(!c)then true else(bif(decide (a>0))then g else false))=true then some (.inl false)else(l9 b d fuel (IntKind.i64.wrap (a+1))))else some (.inr ()))
def F00(a:Int)(b:C0):Option (Bool):=(C6 a 1 3).bind λd=>(if(bif(!d)then true else(decide (((b.length:Nat):Int)>24)))=true then some false else(l9 b a Q0 0).bind λc=>g9 c (λ_=>some true))
def T6(a:U1):Nat->Int->Int->Option (Int)
 |0,_,_=>none
 |fuel+1,c,b=>(if(decide (b<((a.length:Nat):Int)))=true then(gi a b).bind λd=>(T6 a fuel (IntKind.i64.wrap (c+((d.length:Nat):Int))) (IntKind.i64.wrap (b+1)))else some (c))
def T00(a:U1):Option (Int):=(T6 a Q0 0 0).bind (λb=>some b)
def I7(a:U1)(c:Int):Nat->Int->Option ((Bool) ⊕ (Unit))
 |0,_=>none
 |fuel+1,b=>(if(decide (b<((a.length:Nat):Int)))=true then(gi a b).bind λd=>(F00 c d).bind λe=>(if(!e)=true then some (.inl false)else(I7 a c fuel (IntKind.i64.wrap (b+1))))else some (.inr ()))
def d01(b:Int)(a:U1):Option (Bool):=(C6 b 1 3).bind λe=>(if(bif(!e)then true else(decide (((a.length:Nat):Int)>6)))=true then some false else(I7 a b Q0 0).bind λd=>g9 d (λ_=>(T00 a).bind λc=>(grd (J0 c)).bind λ_=>some (decide (c<40))))
def i8(a:Int)(b:Int):Option (Int):=(if(decide (a<b))=true then some (-1)else(if(decide (a>b))=true then some 1 else some 0))
def u03(c:j0)(d:K0):Option (Bool):=match c with|(p0_0,p0_1,p0_2)=>match d with|(p1_0,p1_1,p1_2)=>(R3 p1_0 0 (IntKind.i64.wrap (p0_1-1))).bind λa=>(chk a (R3 p1_2 0 (IntKind.i64.wrap (p0_1-1))) false).bind λb=>(chk (bif a then b else false) (R3 p1_1 1 p0_0) false).bind λe=>some (bif(bif a then b else false)then e else false)
def U7(b:Int)(c:Int)(d:Int)(e:Int)(f:Int)(g:Int):Nat->Int->Option ((Int) ⊕ (Unit))
 |0,_=>none
 |fuel+1,a=>(if(decide (a<3))=true then(gi [b,c,d] a).bind λi=>(gi [e,f,g] a).bind λj=>(if(decide (i<j))=true then some (.inl (-1))else(gi [b,c,d] a).bind λk=>(gi [e,f,g] a).bind λh=>(if(decide (k>h))=true then some (.inl 1)else(U7 b c d e f g fuel (IntKind.i64.wrap (a+1)))))else some (.inr ()))
def b9(b:K0)(c:K0):Option (Int):=match b with|(p0_0,p0_1,p0_2)=>match c with|(p1_0,p1_1,p1_2)=>(U7 p0_0 p0_1 p0_2 p1_0 p1_1 p1_2 Q0 0).bind λa=>g9 a (λ_=>some 0)
def p8(b:M0)(d:Int)(e:Int):Nat->Int->Option ((Bool) ⊕ (Unit))
 |0,_=>none
 |fuel+1,a=>(if(decide (a<((b.length:Nat):Int)))=true then(gi b a).bind λg=>match g with|(x6_0,x6_1,x6_2)=>(u03 (d,e,b) (x6_0,x6_1,x6_2)).bind λc=>(chk ((decide (a>0))&&(!(!c))) (gi b (IntKind.i64.wrap (a-1))) (0,0,0)).bind λh=>match h with|(x8_0,x8_1,x8_2)=>(chk ((decide (a>0))&&(!(!c))) (gi b a) (0,0,0)).bind λi=>match i with|(x9_0,x9_1,x9_2)=>(chk ((decide (a>0))&&(!(!c))) (b9 (x8_0,x8_1,x8_2) (x9_0,x9_1,x9_2)) 0).bind λf=>(grd (J0 f)).bind λ_=>(if(bif(!c)then true else(bif(decide (a>0))then(decide (f ≥ 0))else false))=true then some (.inl false)else(p8 b d e fuel (IntKind.i64.wrap (a+1))))else some (.inr ()))
def O4(c:j0):Option (Bool):=match c with|(p0_0,p0_1,p0_2)=>(p8 p0_2 p0_0 p0_1 Q0 0).bind λb=>g9 b (λ_=>(R3 p0_0 1 3).bind λa=>(chk a (R3 p0_1 1 40) false).bind λd=>some (bif(bif a then d else false)then(decide (((p0_2.length:Nat):Int)<=120))else false))
def J4(a:j0)(b:Int):Option (Bool):=match a with|(p0_0,p0_1,p0_2)=>(C6 b 0 (IntKind.i64.wrap (p0_1-1))).bind λc=>some c
def U9(c:j0)(d:K0):Option (Bool):=match c with|(p0_0,p0_1,p0_2)=>match d with|(p1_0,p1_1,p1_2)=>(J4 (p0_0,p0_1,p0_2) p1_0).bind λa=>(chk a (J4 (p0_0,p0_1,p0_2) p1_2) false).bind λb=>(chk (bif a then b else false) (C6 p1_1 1 p0_0) false).bind λe=>some (bif(bif a then b else false)then e else false)
def u00(d:K0)(e:K0):Option (Int):=match d with|(p0_0,p0_1,p0_2)=>match e with|(p1_0,p1_1,p1_2)=>(i8 p0_0 p1_0).bind λa=>(grd (J0 a)).bind λ_=>(if(!decide (a=0))=true then some a else(i8 p0_1 p1_1).bind λb=>(grd (J0 b)).bind λ_=>(if(!decide (b=0))=true then some b else(i8 p0_2 p1_2).bind λc=>(grd (J0 c)).bind λ_=>some c))
def r8(b:M0)(d:Int)(e:Int):Nat->Int->Option ((Bool) ⊕ (Unit))
 |0,_=>none
 |fuel+1,a=>(if(decide (a<((b.length:Nat):Int)))=true then(gi b a).bind λh=>match h with|(x9_0,x9_1,x9_2)=>(U9 (d,e,b) (x9_0,x9_1,x9_2)).bind λc=>(chk ((decide (a>0))&&(!(!c))) (gi b (IntKind.i64.wrap (a-1))) (0,0,0)).bind λg=>match g with|(x11_0,x11_1,x11_2)=>(chk ((decide (a>0))&&(!(!c))) (u00 (x11_0,x11_1,x11_2) (x9_0,x9_1,x9_2)) 0).bind λf=>(grd (J0 f)).bind λ_=>(if(bif(!c)then true else(bif(decide (a>0))then(decide (f ≥ 0))else false))=true then some (.inl false)else(r8 b d e fuel (IntKind.i64.wrap (a+1))))else some (.inr ()))
def a8(c:j0):Option (Bool):=match c with|(p0_0,p0_1,p0_2)=>(C6 p0_0 1 3).bind λa=>(chk (!(!a)) (C6 p0_1 1 40) false).bind λd=>(if(bif(bif(!a)then true else(!d))then true else(decide (((p0_2.length:Nat):Int)>120)))=true then some false else(r8 p0_2 p0_0 p0_1 Q0 0).bind λb=>g9 b (λ_=>some true))
def P4(b:C0)(a:Int):Nat->Bool->Int->(List Int)->Option (Bool×(List Int))
 |0,_,_,_=>none
 |fuel+1,e,c,d=>(if(decide (c<((b.length:Nat):Int)))=true then(gi b c).bind λl=>(if(decide (l=a))=true then(gi b c).bind λj=>(if(bif(decide (j>a))then(!true)else false)=true then(grd ((d.length + [a].length)*8<=140737488355328)).bind λ_=>(gi b c).bind λf=>(grd (((d ++ [a]).length + [f].length)*8<=140737488355328)).bind λ_=>(P4 b a fuel true (IntKind.i64.wrap (c+1)) ((d ++ [a]) ++ [f]))else(gi b c).bind λg=>(grd ((d.length + [g].length)*8<=140737488355328)).bind λ_=>(P4 b a fuel true (IntKind.i64.wrap (c+1)) (d ++ [g])))else(gi b c).bind λk=>(if(bif(decide (k>a))then(!e)else false)=true then(grd ((d.length + [a].length)*8<=140737488355328)).bind λ_=>(gi b c).bind λh=>(grd (((d ++ [a]).length + [h].length)*8<=140737488355328)).bind λ_=>(P4 b a fuel true (IntKind.i64.wrap (c+1)) ((d ++ [a]) ++ [h]))else(gi b c).bind λi=>(grd ((d.length + [i].length)*8<=140737488355328)).bind λ_=>(P4 b a fuel e (IntKind.i64.wrap (c+1)) (d ++ [i]))))else some (e,d))
def P9(c:C0)(a:Int):Option (C0):=(P4 c a Q0 false 0 ([]:C0)).bind (λb=>match b with|(y35,y36)=>(if(!y35)=true then(grd ((y36.length + [a].length)*8<=140737488355328)).bind λ_=>some (y36 ++ [a])else some y36))
def V9(a:C0)(c:Int):Nat->Int->Option ((Bool) ⊕ (Unit))
 |0,_=>none
 |fuel+1,b=>(if(decide (b<((a.length:Nat):Int)))=true then(gi a b).bind λd=>(if(decide (d=c))=true then some (.inl true)else(V9 a c fuel (IntKind.i64.wrap (b+1))))else some (.inr ()))
def Q9(b:C0)(c:Int):Option (Bool):=(V9 b c Q0 0).bind λa=>g9 a (λ_=>some false)
def d4(c:M0)(a:Int)(b:Int):Nat->C0->Int->Option (C0)
 |0,_,_=>none
 |fuel+1,e,d=>(if(decide (d<((c.length:Nat):Int)))=true then(gi c d).bind λg=>match g with|(x11_0,x11_1,x11_2)=>(if(bif(bif(decide (a>0))then(decide (x11_1=a))else false)then(decide (x11_0=b))else false)=true then(P9 e x11_2).bind λf=>(if(bif(bif(decide (a<0))then(decide (x11_1=(IntKind.i64.wrap (0-a))))else false)then(decide (x11_2=b))else false)=true then(P9 f x11_0).bind λh=>(d4 c a b fuel h (IntKind.i64.wrap (d+1)))else(d4 c a b fuel f (IntKind.i64.wrap (d+1))))else(if(bif(bif(decide (a<0))then(decide (x11_1=(IntKind.i64.wrap (0-a))))else false)then(decide (x11_2=b))else false)=true then(P9 e x11_0).bind λi=>(d4 c a b fuel i (IntKind.i64.wrap (d+1)))else(d4 c a b fuel e (IntKind.i64.wrap (d+1)))))else some (e))
def H01(a:j0)(b:Int)(c:Int):Option (C0):=match a with|(p0_0,p0_1,p0_2)=>(d4 p0_2 c b Q0 ([]:C0) 0).bind (λd=>some d)
def R5(b:j0)(c:Int)(d:Int):Option (Int):=match b with|(p0_0,p0_1,p0_2)=>(H01 (p0_0,p0_1,p0_2) c d).bind λa=>(if(decide (((a.length:Nat):Int)=0))=true then some (-1)else(gi a 0).bind λe=>some e)
def J7(b:Int)(a:M0):Nat->Int->Option ((Bool) ⊕ (Unit))
 |0,_=>none
 |fuel+1,u8=>(if(decide (u8<b))=true then(gi a b).bind λc=>match c with|(x12_0,x12_1,x12_2)=>(gi a u8).bind λd=>match d with|(x13_0,x13_1,x13_2)=>(if(bif(decide (x12_1=x13_1))then(bif(decide (x12_0=x13_0))then true else(decide (x12_2=x13_2)))else false)=true then some (.inl false)else(J7 b a fuel (IntKind.i64.wrap (u8+1))))else some (.inr ()))
def S5(a:M0)(c:Int)(d:Int):Nat->Int->Option ((Bool) ⊕ (Unit))
 |0,_=>none
 |fuel+1,b=>(chk (decide (b<((a.length:Nat):Int))) (O4 (c,d,a)) false).bind λf=>(if(bif(decide (b<((a.length:Nat):Int)))then f else false)=true then(J7 b a Q0 0).bind λe=>B0o e (λ_=>(S5 a c d fuel (IntKind.i64.wrap (b+1))))else some (.inr ()))
def Z3(b:j0):Option (Bool):=match b with|(p0_0,p0_1,p0_2)=>(S5 p0_2 p0_0 p0_1 Q0 0).bind λa=>g9 a (λ_=>(O4 (p0_0,p0_1,p0_2)).bind λc=>some c)
def K7(a:C0)(d:Int)(e:Int)(f:M0):Nat->Int->Int->Option ((Int×Bool) ⊕ (Int))
 |0,_,_=>none
 |fuel+1,g,b=>(if(decide (b<((a.length:Nat):Int)))=true then(gi a b).bind λh=>(R5 (d,e,f) g h).bind λc=>(grd (J0 c)).bind λ_=>(if(decide (c<0))=true then some (.inl ((-1),false))else(K7 a d e f fuel c (IntKind.i64.wrap (b+1))))else some (.inr (g)))
def e01(d:j0)(a:Int)(e:C0):Option (Int×Bool):=match d with|(p0_0,p0_1,p0_2)=>(Z3 (p0_0,p0_1,p0_2)).bind λb=>(chk (!(!b)) (R3 a 0 (IntKind.i64.wrap (p0_1-1))) false).bind λf=>(if(bif(!b)then true else(!f))=true then some ((-1),false)else(K7 e p0_0 p0_1 p0_2 Q0 a 0).bind λc=>g9 c (λg=>some (g,true)))
def a5(c:M0)(a:Int)(d:Int):Nat->Int->(List Int)->Option ((List Int))
 |0,_,_=>none
 |fuel+1,e,b=>(if(decide (e<((c.length:Nat):Int)))=true then(gi c e).bind λf=>match f with|(x7_0,x7_1,x7_2)=>(if(bif(bif(decide (a>0))then(decide (x7_1=a))else false)then(decide (x7_0=d))else false)=true then(grd ((b.length + [x7_2].length)*8<=140737488355328)).bind λ_=>(a5 c a d fuel (IntKind.i64.wrap (e+1)) (b ++ [x7_2]))else(if(bif(bif(bif(decide (a<0))then(!decide (a=(-9223372036854775808)))else false)then(decide (x7_1=(IntKind.i64.wrap (0-a))))else false)then(decide (x7_2=d))else false)=true then(grd ((b.length + [x7_0].length)*8<=140737488355328)).bind λ_=>(a5 c a d fuel (IntKind.i64.wrap (e+1)) (b ++ [x7_0]))else(a5 c a d fuel (IntKind.i64.wrap (e+1)) b)))else some (b))
def I01(b:j0)(c:Int)(d:Int):Option (C0):=match b with|(p0_0,p0_1,p0_2)=>(a5 p0_2 d c Q0 0 ([]:C0)).bind (λa=>(grd (a.length<4611686018427387904)).bind λ_=>some (v04 eqI (n07 g00 a)))
def L7(b:j0)(c:Int)(d:Int):Option (Int):=match b with|(p0_0,p0_1,p0_2)=>(I01 (p0_0,p0_1,p0_2) c d).bind λa=>(if(decide (((a.length:Nat):Int)=0))=true then some (-1)else(gi a 0).bind λe=>some e)
def M7(b:M0)(d:Int)(c:Int)(e:Int):Nat->Int->Option ((Bool) ⊕ (Unit))
 |0,_=>none
 |fuel+1,a=>(if(decide (a<((b.length:Nat):Int)))=true then(gi b a).bind λf=>match f with|(x15_0,x15_1,x15_2)=>(if(bif(decide (d=x15_1))then(bif(decide (c=x15_0))then true else(decide (e=x15_2)))else false)=true then some (.inl false)else(M7 b d c e fuel (IntKind.i64.wrap (a+1))))else some (.inr ()))
def N7(a:M0):Nat->Int->Option ((Bool) ⊕ (Unit))
 |0,_=>none
 |fuel+1,b=>(if(decide (b<((a.length:Nat):Int)))=true then(gi a b).bind λd=>match d with|(x8_0,x8_1,x8_2)=>(j06 a (IntKind.i64.wrap (b+1)) (a.length:Int)).bind λe=>(M7 e x8_1 x8_0 x8_2 Q0 0).bind λc=>B0o c (λ_=>(N7 a fuel (IntKind.i64.wrap (b+1))))else some (.inr ()))
def i7(b:j0):Option (Bool):=match b with|(p0_0,p0_1,p0_2)=>(a8 (p0_0,p0_1,p0_2)).bind λc=>(if(!c)=true then some false else(N7 p0_2 Q0 0).bind λa=>g9 a (λ_=>some true))
def I6(b:C0)(e:Int)(f:Int)(g:M0):Nat->Int->Int->Option ((Int×Int) ⊕ (Int))
 |0,_,_=>none
 |fuel+1,c,a=>(if(decide (a<((b.length:Nat):Int)))=true then(gi b a).bind λh=>(L7 (e,f,g) c h).bind λd=>(grd (J0 d)).bind λ_=>(if(decide (d<0))=true then some (.inl (c,a))else(I6 b e f g fuel d (IntKind.i64.wrap (a+1))))else some (.inr (c)))
def l00(c:j0)(d:Int)(a:C0):Option (Int×Int):=match c with|(p0_0,p0_1,p0_2)=>(I6 a p0_0 p0_1 p0_2 Q0 d 0).bind λb=>g9 b (λe=>some (e,((a.length:Nat):Int)))
def c5(a:j0):Option (j0):=match a with|(p0_0,p0_1,p0_2)=>(grd ((([]:M0).length+p0_2.length)*24<=140737488355328)).bind λ_=>some (p0_0,p0_1,(([]:M0)++p0_2))
def Q4(e:M0)(a:Int)(b:Int)(c:Int):Nat->Bool->Int->(List K0)->Option (Bool×(List K0))
 |0,_,_,_=>none
 |fuel+1,h,f,d=>(if(decide (f<((e.length:Nat):Int)))=true then(gi e f).bind λm=>match m with|(x8_0,x8_1,x8_2)=>(b9 (a,b,c) (x8_0,x8_1,x8_2)).bind λg=>(grd (J0 g)).bind λ_=>(if(decide (g=0))=true then(if(bif(decide (g<0))then(!true)else false)=true then(grd ((d.length+([(a,b,c)]).length)*24<=140737488355328)).bind λ_=>(gi e f).bind λi=>match i with|(x14_0,x14_1,x14_2)=>(grd (((d ++ [(a,b,c)]).length+([(x14_0,x14_1,x14_2)]).length)*24<=140737488355328)).bind λ_=>(Q4 e a b c fuel true (IntKind.i64.wrap (f+1)) ((d ++ [(a,b,c)]) ++ [(x14_0,x14_1,x14_2)]))else(gi e f).bind λj=>match j with|(x16_0,x16_1,x16_2)=>(grd ((d.length+([(x16_0,x16_1,x16_2)]).length)*24<=140737488355328)).bind λ_=>(Q4 e a b c fuel true (IntKind.i64.wrap (f+1)) (d ++ [(x16_0,x16_1,x16_2)])))else(if(bif(decide (g<0))then(!h)else false)=true then(grd ((d.length+([(a,b,c)]).length)*24<=140737488355328)).bind λ_=>(gi e f).bind λk=>match k with|(x20_0,x20_1,x20_2)=>(grd (((d ++ [(a,b,c)]).length+([(x20_0,x20_1,x20_2)]).length)*24<=140737488355328)).bind λ_=>(Q4 e a b c fuel true (IntKind.i64.wrap (f+1)) ((d ++ [(a,b,c)]) ++ [(x20_0,x20_1,x20_2)]))else(gi e f).bind λl=>match l with|(x22_0,x22_1,x22_2)=>(grd ((d.length+([(x22_0,x22_1,x22_2)]).length)*24<=140737488355328)).bind λ_=>(Q4 e a b c fuel h (IntKind.i64.wrap (f+1)) (d ++ [(x22_0,x22_1,x22_2)]))))else some (h,d))
def f8(b:M0)(c:K0):Option (M0):=match c with|(p1_0,p1_1,p1_2)=>(Q4 b p1_0 p1_1 p1_2 Q0 false 0 ([]:M0)).bind (λa=>match a with|(y35,y36)=>(if(!y35)=true then(grd ((y36.length+([(p1_0,p1_1,p1_2)]).length)*24<=140737488355328)).bind λ_=>some (y36 ++ [(p1_0,p1_1,p1_2)])else some y36))
def M3(a:M0)(c:Int):Nat->Int->Int->Option (Int)
 |0,_,_=>none
 |fuel+1,d,b=>(if(decide (b<((a.length:Nat):Int)))=true then(gi a b).bind λf=>match f with|(x7_0,x7_1,x7_2)=>(if(decide (x7_0=c))=true then(gi a b).bind λg=>match g with|(x9_0,x9_1,x9_2)=>(if(decide (x9_2=c))=true then(M3 a c fuel (IntKind.i64.wrap ((IntKind.i64.wrap (d+1))+1)) (IntKind.i64.wrap (b+1)))else(M3 a c fuel (IntKind.i64.wrap (d+1)) (IntKind.i64.wrap (b+1))))else(gi a b).bind λe=>match e with|(x11_0,x11_1,x11_2)=>(if(decide (x11_2=c))=true then(M3 a c fuel (IntKind.i64.wrap (d+1)) (IntKind.i64.wrap (b+1)))else(M3 a c fuel d (IntKind.i64.wrap (b+1)))))else some (d))
def f01(a:j0)(b:Int):Option (Int):=match a with|(p0_0,p0_1,p0_2)=>(M3 p0_2 b Q0 0 0).bind (λc=>some c)
def U6(b:M0)(c:M0):Nat->Int->Option ((Bool) ⊕ (Unit))
 |0,_=>none
 |fuel+1,a=>(if(decide (a<((b.length:Nat):Int)))=true then(gi b a).bind λd=>match d with|(x7_0,x7_1,x7_2)=>(gi c a).bind λe=>match e with|(x8_0,x8_1,x8_2)=>(if(!eqE (x7_0,x7_1,x7_2) (x8_0,x8_1,x8_2))=true then some (.inl false)else(U6 b c fuel (IntKind.i64.wrap (a+1))))else some (.inr ()))
def H9(b:j0)(c:j0):Option (Bool):=match b with|(p0_0,p0_1,p0_2)=>match c with|(p1_0,p1_1,p1_2)=>(if(bif(bif(!decide (p0_0=p1_0))then true else(!decide (p0_1=p1_1)))then true else(!decide (((p0_2.length:Nat):Int)=((p1_2.length:Nat):Int))))=true then some false else(U6 p0_2 p1_2 Q0 0).bind λa=>g9 a (λ_=>some true))
def L3(a:M0):Nat->C0->Int->Option (C0)
 |0,_,_=>none
 |fuel+1,b,c=>(if(decide (c<((a.length:Nat):Int)))=true then(gi a c).bind λe=>match e with|(x24_0,x24_1,x24_2)=>(Q9 b x24_0).bind λf=>(if f=true then(P9 b x24_2).bind λd=>(Q9 d x24_2).bind λg=>(if g=true then(P9 d x24_0).bind λh=>(L3 a fuel h (IntKind.i64.wrap (c+1)))else(L3 a fuel d (IntKind.i64.wrap (c+1))))else(Q9 b x24_2).bind λi=>(if i=true then(P9 b x24_0).bind λj=>(L3 a fuel j (IntKind.i64.wrap (c+1)))else(L3 a fuel b (IntKind.i64.wrap (c+1)))))else some (b))
def Z5(a:M0):Nat->C0->Int->Option (C0)
 |0,_,_=>none
 |fuel+1,b,c=>(if(decide (c<(IntKind.i64.wrap (((a.length:Nat):Int)+1))))=true then(L3 a Q0 b 0).bind (λd=>(Z5 a fuel d (IntKind.i64.wrap (c+1))))else some (b))
def U00(c:j0)(a:Int):Option (C0):=match c with|(p0_0,p0_1,p0_2)=>(O4 (p0_0,p0_1,p0_2)).bind λb=>(chk (!(!b)) (R3 a 0 (IntKind.i64.wrap (p0_1-1))) false).bind λd=>(if(bif(!b)then true else(!d))=true then some ([]:C0)else(Z5 p0_2 Q0 [a] 0).bind (λe=>some e))
def n9(b:Int)(d:Int)(e:M0)(f:C0):Nat->Int->Option ((Int) ⊕ (Unit))
 |0,_=>none
 |fuel+1,a=>(if(decide (a<b))=true then(f01 (d,b,e) a).bind λc=>(grd (J0 c)).bind λ_=>(chk (!(decide (c<2))) (Q9 f a) false).bind λg=>(if(bif(decide (c<2))then true else(!g))=true then some (.inl a)else(n9 b d e f fuel (IntKind.i64.wrap (a+1))))else some (.inr ()))
def t02(b:j0):Option (Int):=match b with|(p0_0,p0_1,p0_2)=>(U00 (p0_0,p0_1,p0_2) 0).bind λc=>(n9 p0_1 p0_0 p0_2 c Q0 1).bind λa=>g9 a (λ_=>some (-1))
def T3(b:M0)(a:(List Int)):Nat->Int->Int->Int->M0->Option (Int×Int×M0)
 |0,_,_,_,_=>none
 |fuel+1,c,d,e,f=>(if(decide (c<((b.length:Nat):Int)))=true then(gi b c).bind λh=>match h with|(x31_0,x31_1,x31_2)=>(gi a x31_0).bind λg=>(chk (decide (g>0)) (gi a x31_2) 0).bind λi=>(if(bif(decide (g>0))then(decide (i>0))else false)=true then(gi a x31_0).bind λj=>(gi a x31_2).bind λk=>(f8 f ((IntKind.i64.wrap (j-1)),x31_1,(IntKind.i64.wrap (k-1)))).bind λl=>(T3 b a fuel (IntKind.i64.wrap (c+1)) d e l)else(T3 b a fuel (IntKind.i64.wrap (c+1)) d e f))else some (d,e,f))
def R4(a:C0)(c:Int)(e:Int)(f:M0):Nat->Int->(List Int)->Option ((j0×Bool) ⊕ ((List Int)))
 |0,_,_=>none
 |fuel+1,u8,b=>(if(decide (u8<((a.length:Nat):Int)))=true then(gi a u8).bind λh=>(R3 h 0 (IntKind.i64.wrap (c-1))).bind λd=>(chk (!(!d)) (gi a u8) 0).bind λi=>(chk (!(!d)) (gi b i) 0).bind λj=>(if(bif(!d)then true else(!decide (j=0)))=true then(c5 (e,c,f)).bind λk=>match k with|(x18_0,x18_1,x18_2)=>some (.inl ((x18_0,x18_1,x18_2),false))else(gi a u8).bind λg=>(gi b g).bind λl=>(R4 a c e f fuel (IntKind.i64.wrap (u8+1)) (b.set g.toNat (IntKind.i64.wrap (u8+1)))))else some (.inr (b)))
def V6(d:j0)(a:C0):Option (j0×Bool):=match d with|(p0_0,p0_1,p0_2)=>(O4 (p0_0,p0_1,p0_2)).bind λe=>(if(bif(bif(!e)then true else(decide (((a.length:Nat):Int)=0)))then true else(decide (((a.length:Nat):Int)>p0_1)))=true then(c5 (p0_0,p0_1,p0_2)).bind λf=>match f with|(x3_0,x3_1,x3_2)=>some ((x3_0,x3_1,x3_2),false)else(grd ((0:Int)<=p0_1/\p0_1<=p0_1/\p0_1*8<=140737488355328/\p0_1<=9223372036854775807)).bind λ_=>(R4 a p0_1 p0_0 p0_2 Q0 0 (List.replicate p0_1.toNat (0:Int))).bind λc=>g9 c (λg=>(T3 p0_2 g Q0 0 p0_0 ((a.length:Nat):Int) ([]:M0)).bind (λb=>match b with|(y94,y95,y96)=>some ((y94,y95,y96),true))))
def Y6(c:Int):Nat->Int->(List Int)->Option ((List Int))
 |0,_,_=>none
 |fuel+1,a,b=>(if(decide (a<=c))=true then(grd ((b.length + [a].length)*8<=140737488355328)).bind λ_=>(grd (((b ++ [a]).length+([(IntKind.i64.wrap (0-a))]).length)*8<=140737488355328)).bind λ_=>(Y6 c fuel (IntKind.i64.wrap (a+1)) ((b ++ [a]) ++ [(IntKind.i64.wrap (0-a))]))else some (b))
def o7(a:Int):Option (C0):=(Y6 a Q0 1 ([]:C0)).bind (λb=>some b)
def O3(d:C0)(h:Int)(e:Int)(f:Int)(g:M0):Nat->Int->(List Int)->Option ((List Int))
 |0,_,_=>none
 |fuel+1,c,a=>(if(decide (c<((d.length:Nat):Int)))=true then(gi a h).bind λi=>(gi d c).bind λj=>(R5 (e,f,g) i j).bind λb=>(grd (J0 b)).bind λ_=>(chk (decide (b ≥ 0)) (Q9 a b) false).bind λk=>(if(bif(decide (b ≥ 0))then(!k)else false)=true then(grd ((a.length + [b].length)*8<=140737488355328)).bind λ_=>(O3 d h e f g fuel (IntKind.i64.wrap (c+1)) (a ++ [b]))else(O3 d h e f g fuel (IntKind.i64.wrap (c+1)) a))else some (a))
def M5(g:C0)(d:Int)(e:Int)(f:M0):Nat->Int->(List Int)->Option ((List Int))
 |0,_,_=>none
 |fuel+1,a,b=>(some b.length).bind λc=>(grd (c<=9223372036854775807)).bind λ_=>(if(decide (a<((c:Nat):Int)))=true then(O3 g a d e f Q0 0 b).bind (λh=>(M5 g d e f fuel (IntKind.i64.wrap (a+1)) h))else some (b))
def B9(a:j0):Option (C0):=match a with|(p0_0,p0_1,p0_2)=>(Z3 (p0_0,p0_1,p0_2)).bind λb=>(if(!b)=true then some ([]:C0)else(o7 p0_0).bind λc=>(M5 c p0_0 p0_1 p0_2 Q0 0 [0]).bind (λd=>some d))
def V7(b:j0):Option (j0):=match b with|(p0_0,p0_1,p0_2)=>(B9 (p0_0,p0_1,p0_2)).bind λa=>(if(decide (((a.length:Nat):Int)=0))=true then(c5 (p0_0,p0_1,p0_2)).bind λc=>match c with|(x5_0,x5_1,x5_2)=>some (x5_0,x5_1,x5_2)else(V6 (p0_0,p0_1,p0_2) a).bind λd=>match d with|(x8_0,x8_1)=>match x8_0 with|(x8_0_0,x8_0_1,x8_0_2)=>some (x8_0_0,x8_0_1,x8_0_2))
def C01(c:j0):Option (Bool):=match c with|(p0_0,p0_1,p0_2)=>(Z3 (p0_0,p0_1,p0_2)).bind λa=>(chk a (t02 (p0_0,p0_1,p0_2)) 0).bind λb=>(grd (J0 b)).bind λf=>(chk (bif a then(decide (b<0))else false) (V7 (p0_0,p0_1,p0_2)) (0,0,[])).bind λd=>match d with|(x10_0,x10_1,x10_2)=>(chk (bif a then(decide (b<0))else false) (H9 (x10_0,x10_1,x10_2) (p0_0,p0_1,p0_2)) false).bind λe=>some (bif(bif a then(decide (b<0))else false)then e else false)
def l3(a:j0):Option (Bool):=match a with|(p0_0,p0_1,p0_2)=>(C01 (p0_0,p0_1,p0_2)).bind λb=>some b
def K4(a:j0):Option (j0):=match a with|(p0_0,p0_1,p0_2)=>(grd ((([]:M0).length+p0_2.length)*24<=140737488355328)).bind λ_=>some (p0_0,p0_1,(([]:M0)++p0_2))
def T5(b:M0)(a:Int):Nat->Int->Int->Option (Int)
 |0,_,_=>none
 |fuel+1,d,c=>(if(decide (c<((b.length:Nat):Int)))=true then(gi b c).bind λe=>match e with|(x7_0,x7_1,x7_2)=>(if(decide (x7_0=a))=true then(if(decide (x7_2=a))=true then(T5 b a fuel (IntKind.i64.wrap ((IntKind.i64.wrap (d+1))+1)) (IntKind.i64.wrap (c+1)))else(T5 b a fuel (IntKind.i64.wrap (d+1)) (IntKind.i64.wrap (c+1))))else(if(decide (x7_2=a))=true then(T5 b a fuel (IntKind.i64.wrap (d+1)) (IntKind.i64.wrap (c+1)))else(T5 b a fuel d (IntKind.i64.wrap (c+1)))))else some (d))
def g02(a:j0)(b:Int):Option (Int):=match a with|(p0_0,p0_1,p0_2)=>(T5 p0_2 b Q0 0 0).bind (λc=>some c)
def O1(b:M0)(c:M0):Nat->Int->Option ((Bool) ⊕ (Unit))
 |0,_=>none
 |fuel+1,a=>(if(decide (a<((b.length:Nat):Int)))=true then(gi b a).bind λd=>match d with|(x7_0,x7_1,x7_2)=>(gi c a).bind λe=>match e with|(x8_0,x8_1,x8_2)=>(if(!eqE (x7_0,x7_1,x7_2) (x8_0,x8_1,x8_2))=true then some (.inl false)else(O1 b c fuel (IntKind.i64.wrap (a+1))))else some (.inr ()))
def Y2(a:M0)(b:M0):Option (Bool):=(if(!decide (((a.length:Nat):Int)=((b.length:Nat):Int)))=true then some false else(O1 a b Q0 0).bind λc=>g9 c (λ_=>some true))
def I9(a:j0)(b:j0):Option (Bool):=match a with|(p0_0,p0_1,p0_2)=>match b with|(p1_0,p1_1,p1_2)=>(chk (bif(decide (p0_0=p1_0))then(decide (p0_1=p1_1))else false) (Y2 p0_2 p1_2) false).bind λc=>some (bif(bif(decide (p0_0=p1_0))then(decide (p0_1=p1_1))else false)then c else false)
def j4(b:M0):Nat->Bool->Int->(List Bool)->Option (Bool×(List Bool))
 |0,_,_,_=>none
 |fuel+1,d,c,a=>(if(decide (c<((b.length:Nat):Int)))=true then(gi b c).bind λe=>match e with|(x16_0,x16_1,x16_2)=>(gi a x16_0).bind λf=>(gi a x16_2).bind λg=>(if(!(f == g))=true then(gi a x16_0).bind λh=>(gi (a.set x16_0.toNat true) x16_2).bind λi=>(j4 b fuel true (IntKind.i64.wrap (c+1)) ((a.set x16_0.toNat true).set x16_2.toNat true))else(j4 b fuel d (IntKind.i64.wrap (c+1)) a))else some (d,a))
def p5(a:M0):Nat->Bool->(List Bool)->Option ((List Bool))
 |0,_,_=>none
 |fuel+1,d,b=>(if d=true then(j4 a Q0 false 0 b).bind (λc=>match c with|(y23,y24)=>(p5 a fuel y23 y24))else some (b))
def v00(b:j0)(a:Int):Option ((List Bool)):=match b with|(p0_0,p0_1,p0_2)=>(grd ((0:Int)<=p0_1/\p0_1<=p0_1/\p0_1*1<=140737488355328/\p0_1<=9223372036854775807)).bind λ_=>(gi (List.replicate p0_1.toNat (false:Bool)) a).bind λd=>(p5 p0_2 Q0 true ((List.replicate p0_1.toNat (false:Bool)).set a.toNat true)).bind (λc=>some c)
def t8(c:Int):Nat->Int->(List Int)->Option ((List Int))
 |0,_,_=>none
 |fuel+1,a,b=>(if(decide (a<=c))=true then(grd ((b.length+([a,(IntKind.i64.wrap (0-a))]).length)*8<=140737488355328)).bind λ_=>(t8 c fuel (IntKind.i64.wrap (a+1)) (b ++ [a,(IntKind.i64.wrap (0-a))]))else some (b))
def Y9(a:Int):Option (C0):=(t8 a Q0 1 ([]:C0)).bind (λb=>some b)
def G00(a:M0):Option (M0):=(grd ((([]:M0).length+a.length)*24<=140737488355328)).bind λ_=>(grd ((([]:M0)++a).length<4611686018427387904)).bind λ_=>some (v04 eqE (n07 P0 (([]:M0)++a)))
def R9(b:M0)(a:(List Int)):Nat->Int->Int->Int->(List K0)->Option (Int×Int×(List K0))
 |0,_,_,_,_=>none
 |fuel+1,c,e,f,d=>(if(decide (c<((b.length:Nat):Int)))=true then(gi b c).bind λj=>match j with|(x27_0,x27_1,x27_2)=>(gi a x27_0).bind λg=>(chk (decide (g ≥ 0)) (gi a x27_2) 0).bind λk=>(if(bif(decide (g ≥ 0))then(decide (k ≥ 0))else false)=true then(gi a x27_0).bind λh=>(gi a x27_2).bind λi=>(grd ((d.length+([(h,x27_1,i)]).length)*24<=140737488355328)).bind λ_=>(R9 b a fuel (IntKind.i64.wrap (c+1)) e f (d ++ [(h,x27_1,i)]))else(R9 b a fuel (IntKind.i64.wrap (c+1)) e f d))else some (e,f,d))
def H00(b:C0):Nat->Int->(List Int)->Option ((List Int))
 |0,_,_=>none
 |fuel+1,a,c=>(if(decide (a<((b.length:Nat):Int)))=true then(gi b a).bind λd=>(gi c d).bind λe=>(H00 b fuel (IntKind.i64.wrap (a+1)) (c.set d.toNat a))else some (c))
def I00(c:Nat):Nat->Int->(List Int)->Option ((List Int))
 |0,_,_=>none
 |fuel+1,a,b=>(if(decide (a<((c:Nat):Int)))=true then(gi b a).bind λd=>(I00 c fuel (IntKind.i64.wrap (a+1)) (b.set a.toNat (-1)))else some (b))
def L02(d:j0)(b:C0):Option (j0):=match d with|(p0_0,p0_1,p0_2)=>(grd ((0:Int)<=p0_1/\p0_1<=p0_1/\p0_1*8<=140737488355328/\p0_1<=9223372036854775807)).bind λ_=>(some (List.replicate p0_1.toNat (0:Int)).length).bind λa=>(grd (a<=9223372036854775807)).bind λ_=>(I00 a Q0 0 (List.replicate p0_1.toNat (0:Int))).bind (λf=>(H00 b Q0 0 f).bind (λg=>(R9 p0_2 g Q0 0 p0_0 ((b.length:Nat):Int) ([]:M0)).bind (λc=>match c with|(y203,y204,y205)=>(G00 y205).bind λe=>some (y203,y204,e))))
def h02(a:C0):Option (C0):=(grd ((([]:C0).length+a.length)*8<=140737488355328)).bind λ_=>some (([]:C0)++a)
def I3(f:C0)(g:Int)(h:Int)(i:M0)(e:Int):Nat->Int->(List (Option C0))->(List Int)->Option ((List (Option C0))×(List Int))
 |0,_,_,_=>none
 |fuel+1,c,b,d=>(if(decide (c<((f.length:Nat):Int)))=true then(gi f c).bind λj=>(L7 (g,h,i) e j).bind λa=>(grd (J0 a)).bind λ_=>(chk (decide (a ≥ 0)) (gi b a) (none:Option C0)).bind λl=>(if(bif(decide (a ≥ 0))then l.isNone else false)=true then(gi b e).bind λm=>(h02 (m.getD [])).bind λk=>(grd ((k.length + [j].length)*8<=140737488355328)).bind λ_=>(gi b a).bind λn=>(grd ((d.length + [a].length)*8<=140737488355328)).bind λ_=>(I3 f g h i e fuel (IntKind.i64.wrap (c+1)) (b.set a.toNat (some (k ++ [j]))) (d ++ [a]))else(I3 f g h i e fuel (IntKind.i64.wrap (c+1)) b d))else some (b,d))
def E5(b:Int)(d:Int)(e:M0):Nat->Int->(List (Option C0))->(List Int)->Option ((List (Option C0))×(List Int))
 |0,_,_,_=>none
 |fuel+1,u8,f,a=>(some a.length).bind λc=>(grd (c<=9223372036854775807)).bind λ_=>(if(decide (u8<((c:Nat):Int)))=true then(gi a u8).bind λh=>(Y9 b).bind λi=>(I3 i b d e h Q0 0 f a).bind (λg=>match g with|(y41,y42)=>(E5 b d e fuel (IntKind.i64.wrap (u8+1)) y41 y42))else some (f,a))
def O7(c:j0)(a:Int):Option (C0×U1):=match c with|(p0_0,p0_1,p0_2)=>(grd ((0:Int)<=p0_1/\p0_1<=p0_1/\p0_1*24<=140737488355328/\p0_1<=9223372036854775807)).bind λ_=>(gi (List.replicate p0_1.toNat (none:Option C0)) a).bind λd=>(E5 p0_0 p0_1 p0_2 Q0 0 ((List.replicate p0_1.toNat (none:Option C0)).set a.toNat (some ([]:C0))) [a]).bind (λb=>match b with|(y54,y55)=>some (y55,(List.map (λo:Option C0=>o.getD ([]:C0)) y54)))
def C9(a:j0):Option (C0):=match a with|(p0_0,p0_1,p0_2)=>(i7 (p0_0,p0_1,p0_2)).bind λb=>(if(!b)=true then some ([]:C0)else(O7 (p0_0,p0_1,p0_2) 0).bind λc=>match c with|(x7_0,x7_1)=>some x7_0)
def Y7(a:j0):Option (j0):=match a with|(p0_0,p0_1,p0_2)=>(i7 (p0_0,p0_1,p0_2)).bind λb=>(if(!b)=true then(K4 (p0_0,p0_1,p0_2)).bind λd=>match d with|(x3_0,x3_1,x3_2)=>some (x3_0,x3_1,x3_2)else(C9 (p0_0,p0_1,p0_2)).bind λe=>(L02 (p0_0,p0_1,p0_2) e).bind λc=>match c with|(x10_0,x10_1,x10_2)=>some (x10_0,x10_1,x10_2))
def l6(c:Int)(d:Int):Nat->Int->(List Int)->Option ((List Int))
 |0,_,_=>none
 |fuel+1,a,b=>(if(decide (a<c))=true then(if(!decide (a=d))=true then(grd ((b.length + [a].length)*8<=140737488355328)).bind λ_=>(l6 c d fuel (IntKind.i64.wrap (a+1)) (b ++ [a]))else(l6 c d fuel (IntKind.i64.wrap (a+1)) b))else some (b))
def i4(b:Int)(c:Int)(d:M0)(f:(List Bool)):Nat->Int->Int->Option (Int)
 |0,_,_=>none
 |fuel+1,e,a=>(if(bif(decide (a<b))then(decide (e=0))else false)=true then(g02 (c,b,d) a).bind λg=>(grd (J0 g)).bind λ_=>(chk (!(decide (g<2))) (gi f a) false).bind λh=>(if(bif(decide (g<2))then true else(!h))=true then(i4 b c d f fuel a (IntKind.i64.wrap (a+1)))else(i4 b c d f fuel e (IntKind.i64.wrap (a+1))))else some (e))
def o6:Nat->C0->Int->Int->M0->Option ((j0×C0) ⊕ (Int×Int×M0))
 |0,_,_,_,_=>none
 |fuel+1,b,c,a,d=>(v00 (c,a,d) 0).bind λi=>(i4 a c d i Q0 0 1).bind (λe=>(if(decide (e=0))=true then some (.inl ((c,a,d),b))else(l6 a e Q0 0 ([]:C0)).bind (λj=>(L02 (c,a,d) j).bind λh=>match h with|(x117_0,x117_1,x117_2)=>(j06 b 0 e).bind λf=>(j06 b (IntKind.i64.wrap (e+1)) (b.length:Int)).bind λg=>(grd ((f.length+g.length)*8<=140737488355328)).bind λ_=>(o6 fuel (f++g) x117_0 x117_1 x117_2))))
def Z6(c:Int):Nat->Int->(List Int)->Option ((List Int))
 |0,_,_=>none
 |fuel+1,a,b=>(if(decide (a<c))=true then(grd ((b.length + [a].length)*8<=140737488355328)).bind λ_=>(Z6 c fuel (IntKind.i64.wrap (a+1)) (b ++ [a]))else some (b))
def z8(b:j0):Option (j0×C0):=match b with|(p0_0,p0_1,p0_2)=>(K4 (p0_0,p0_1,p0_2)).bind λc=>match c with|(x1_0,x1_1,x1_2)=>(a8 (p0_0,p0_1,p0_2)).bind λd=>(if(!d)=true then some ((x1_0,x1_1,x1_2),([]:C0))else(Z6 p0_1 Q0 0 ([]:C0)).bind (λe=>(o6 Q0 e x1_0 x1_1 x1_2).bind λa=>g9 a (λ_=>none)))
def D6(a:j0):Option (Bool):=match a with|(p0_0,p0_1,p0_2)=>(i7 (p0_0,p0_1,p0_2)).bind λb=>(if(!b)=true then some false else(z8 (p0_0,p0_1,p0_2)).bind λd=>match d with|(x3_0,x3_1)=>match x3_0 with|(x3_0_0,x3_0_1,x3_0_2)=>(chk (decide (x3_0_1=p0_1)) (Y7 (p0_0,p0_1,p0_2)) (0,0,[])).bind λe=>match e with|(x8_0,x8_1,x8_2)=>(chk (decide (x3_0_1=p0_1)) (I9 (x8_0,x8_1,x8_2) (p0_0,p0_1,p0_2)) false).bind λc=>some (bif(decide (x3_0_1=p0_1))then c else false))
def i02(a:Int):Option (j0×Bool):=(R3 a 1 3).bind λb=>(if(!b)=true then some ((0,0,[]),false)else some ((a,1,[]),true))
def P5(a:C0)(d:Int):Nat->Int->Int->Int->Int->M0->Option (Int×Int×M0)
 |0,_,_,_,_,_=>none
 |fuel+1,g,b,e,c,f=>(if(decide (b<((a.length:Nat):Int)))=true then(if(decide ((IntKind.i64.wrap (b+1))<((a.length:Nat):Int)))=true then(gi a b).bind λh=>(if(decide (h>0))=true then(gi a b).bind λi=>(f8 f (g,i,c)).bind λj=>(P5 a d fuel c (IntKind.i64.wrap (b+1)) e (IntKind.i64.wrap (c+1)) j)else(gi a b).bind λk=>(f8 f (c,(IntKind.i64.wrap (0-k)),g)).bind λl=>(P5 a d fuel c (IntKind.i64.wrap (b+1)) e (IntKind.i64.wrap (c+1)) l))else(gi a b).bind λm=>(if(decide (m>0))=true then(gi a b).bind λn=>(f8 f (g,n,d)).bind λo=>(P5 a d fuel d (IntKind.i64.wrap (b+1)) e c o)else(gi a b).bind λp=>(f8 f (d,(IntKind.i64.wrap (0-p)),g)).bind λq=>(P5 a d fuel d (IntKind.i64.wrap (b+1)) e c q)))else some (e,c,f))
def L01(h:j0)(d:Int)(a:C0)(e:Int):Option (j0×Bool):=match h with|(p0_0,p0_1,p0_2)=>(c5 (p0_0,p0_1,p0_2)).bind λi=>match i with|(x1_0,x1_1,x1_2)=>(O4 (p0_0,p0_1,p0_2)).bind λb=>(chk (!(!b)) (R3 d 0 (IntKind.i64.wrap (p0_1-1))) false).bind λc=>(chk (!(bif(!b)then true else(!c))) (R3 e 0 (IntKind.i64.wrap (p0_1-1))) false).bind λf=>(chk (!(bif(bif(!b)then true else(!c))then true else(!f))) (E00 p0_0 a) false).bind λj=>(if(bif(bif(bif(bif(bif(bif(!b)then true else(!c))then true else(!f))then true else(!j))then true else(decide (((a.length:Nat):Int)=0)))then true else(decide ((IntKind.i64.wrap ((IntKind.i64.wrap (p0_1+((a.length:Nat):Int)))-1))>40)))then true else(decide ((IntKind.i64.wrap (((p0_2.length:Nat):Int)+((a.length:Nat):Int)))>120)))=true then some ((x1_0,x1_1,x1_2),false)else(P5 a e Q0 d 0 x1_0 x1_1 x1_2).bind (λg=>match g with|(y68,y69,y70)=>some ((y68,y69,y70),true)))
def j02(a:j0)(b:C0):Option (j0×Bool):=match a with|(p0_0,p0_1,p0_2)=>(L01 (p0_0,p0_1,p0_2) 0 b 0).bind λc=>match c with|(x1_0,x1_1)=>match x1_0 with|(x1_0_0,x1_0_1,x1_0_2)=>some ((x1_0_0,x1_0_1,x1_0_2),x1_1)
def P7(a:U1):Nat->Int->Int->Int->M0->Option (Int×Int×M0)
 |0,_,_,_,_=>none
 |fuel+1,b,u8,d,c=>(if(decide (b<((a.length:Nat):Int)))=true then(gi a b).bind λe=>(j02 (u8,d,c) e).bind λf=>match f with|(x19_0,x19_1)=>match x19_0 with|(x19_0_0,x19_0_1,x19_0_2)=>(P7 a fuel (IntKind.i64.wrap (b+1)) x19_0_0 x19_0_1 x19_0_2)else some (u8,d,c))
def k02(a:Int)(b:U1):Option (j0×Bool):=(c01 a b).bind λd=>(if(!d)=true then some ((0,0,[]),false)else(i02 a).bind λe=>match e with|(x3_0,x3_1)=>match x3_0 with|(x3_0_0,x3_0_1,x3_0_2)=>(P7 b Q0 0 x3_0_0 x3_0_1 x3_0_2).bind (λc=>match c with|(y35,y36,y37)=>some ((y35,y36,y37),true)))
def L4(b:M0)(c:Int):Nat->Int->(List H6)->Option ((List H6))
 |0,_,_=>none
 |fuel+1,u8,a=>(if(decide (u8<((b.length:Nat):Int)))=true then(gi b c).bind λd=>match d with|(x13_0,x13_1,x13_2)=>(gi b u8).bind λe=>match e with|(x14_0,x14_1,x14_2)=>(if(bif(decide (x13_1=x14_1))then(decide (x13_0=x14_0))else false)=true then(grd ((a.length+([((if x14_2<x13_2 then x14_2 else x13_2),(if x14_2>x13_2 then x14_2 else x13_2))]).length)*16<=140737488355328)).bind λ_=>(if(bif(decide (x13_1=x14_1))then(decide (x13_2=x14_2))else false)=true then(grd (((a ++ [((if x14_2<x13_2 then x14_2 else x13_2),(if x14_2>x13_2 then x14_2 else x13_2))]).length+([((if x14_0<x13_0 then x14_0 else x13_0),(if x14_0>x13_0 then x14_0 else x13_0))]).length)*16<=140737488355328)).bind λ_=>(L4 b c fuel (IntKind.i64.wrap (u8+1)) ((a ++ [((if x14_2<x13_2 then x14_2 else x13_2),(if x14_2>x13_2 then x14_2 else x13_2))]) ++ [((if x14_0<x13_0 then x14_0 else x13_0),(if x14_0>x13_0 then x14_0 else x13_0))]))else(L4 b c fuel (IntKind.i64.wrap (u8+1)) (a ++ [((if x14_2<x13_2 then x14_2 else x13_2),(if x14_2>x13_2 then x14_2 else x13_2))])))else(if(bif(decide (x13_1=x14_1))then(decide (x13_2=x14_2))else false)=true then(grd ((a.length+([((if x14_0<x13_0 then x14_0 else x13_0),(if x14_0>x13_0 then x14_0 else x13_0))]).length)*16<=140737488355328)).bind λ_=>(L4 b c fuel (IntKind.i64.wrap (u8+1)) (a ++ [((if x14_0<x13_0 then x14_0 else x13_0),(if x14_0>x13_0 then x14_0 else x13_0))]))else(L4 b c fuel (IntKind.i64.wrap (u8+1)) a)))else some (a))
def A8(b:M0):Nat->Int->(List H6)->Option ((List H6))
 |0,_,_=>none
 |fuel+1,a,c=>(if(decide (a<((b.length:Nat):Int)))=true then(L4 b a Q0 (IntKind.i64.wrap (a+1)) c).bind (λd=>(A8 b fuel (IntKind.i64.wrap (a+1)) d))else some (c))
def O02(a:j0):Option (T9):=match a with|(p0_0,p0_1,p0_2)=>(A8 p0_2 Q0 0 ([]:T9)).bind (λb=>some b)
def N00(b:j0):Option (H6×Bool):=match b with|(p0_0,p0_1,p0_2)=>(O4 (p0_0,p0_1,p0_2)).bind λc=>(if(!c)=true then some ((0,0),false)else(O02 (p0_0,p0_1,p0_2)).bind λa=>(if(decide (((a.length:Nat):Int)=0))=true then some ((0,0),false)else(gi a 0).bind λd=>match d with|(x7_0,x7_1)=>some ((x7_0,x7_1),true)))
def f03(a:Int)(b:H6):Option (Int):=match b with|(p1_0,p1_1)=>(if(decide (a=p1_1))=true then(if(decide (p1_0>p1_1))=true then some (IntKind.i64.wrap (p1_0-1))else some p1_0)else(if(decide (a>p1_1))=true then some (IntKind.i64.wrap (a-1))else some a))
def T4(a:M0)(b:Int)(c:Int):Nat->Int->Int->Int->M0->Option (Int×Int×M0)
 |0,_,_,_,_=>none
 |fuel+1,d,u8,f,e=>(if(decide (d<((a.length:Nat):Int)))=true then(gi a d).bind λi=>match i with|(x14_0,x14_1,x14_2)=>(f03 x14_0 (b,c)).bind λg=>(grd (J0 g)).bind λk=>(f03 x14_2 (b,c)).bind λh=>(grd (J0 h)).bind λl=>(f8 e (g,x14_1,h)).bind λj=>(T4 a b c fuel (IntKind.i64.wrap (d+1)) u8 f j)else some (u8,f,e))
def B8(b:j0)(c:H6):Option (j0×Bool):=match b with|(p0_0,p0_1,p0_2)=>match c with|(p1_0,p1_1)=>(O4 (p0_0,p0_1,p0_2)).bind λd=>(if(bif(bif(bif(!d)then true else(decide (p1_0<0)))then true else(decide (p1_0 ≥ p1_1)))then true else(decide (p1_1 ≥ p0_1)))=true then(c5 (p0_0,p0_1,p0_2)).bind λe=>match e with|(x3_0,x3_1,x3_2)=>some ((x3_0,x3_1,x3_2),false)else(T4 p0_2 p1_0 p1_1 Q0 0 p0_0 (IntKind.i64.wrap (p0_1-1)) ([]:M0)).bind (λa=>match a with|(y29,y30,y31)=>some ((y29,y30,y31),true)))
def l02(a:j0):Option (j0×H6×Bool):=match a with|(p0_0,p0_1,p0_2)=>(N00 (p0_0,p0_1,p0_2)).bind λb=>match b with|(x1_0,x1_1)=>match x1_0 with|(x1_0_0,x1_0_1)=>(if(!x1_1)=true then(c5 (p0_0,p0_1,p0_2)).bind λc=>match c with|(x5_0,x5_1,x5_2)=>some ((x5_0,x5_1,x5_2),(0,0),false)else(B8 (p0_0,p0_1,p0_2) (x1_0_0,x1_0_1)).bind λd=>match d with|(x8_0,x8_1)=>match x8_0 with|(x8_0_0,x8_0_1,x8_0_2)=>some ((x8_0_0,x8_0_1,x8_0_2),(x1_0_0,x1_0_1),true))
def p7:Nat->Int->Int->Int->M0->(List H6)->Option ((j0×T9) ⊕ (Int×Int×M0×(List H6)))
 |0,_,_,_,_,_=>none
 |fuel+1,d,b,c,u8,a=>(if(decide (d<40))=true then(l02 (b,c,u8)).bind λe=>match e with|(x13_0,x13_1,x13_2)=>match x13_0 with|(x13_0_0,x13_0_1,x13_0_2)=>match x13_1 with|(x13_1_0,x13_1_1)=>(if(!x13_2)=true then some (.inl ((b,c,u8),a))else(grd ((a.length+([(x13_1_0,x13_1_1)]).length)*16<=140737488355328)).bind λ_=>(p7 fuel (IntKind.i64.wrap (d+1)) x13_0_0 x13_0_1 x13_0_2 (a ++ [(x13_1_0,x13_1_1)])))else some (.inr (b,c,u8,a)))
def P02(c:j0):Option (j0×T9):=match c with|(p0_0,p0_1,p0_2)=>(c5 (p0_0,p0_1,p0_2)).bind λd=>match d with|(x1_0,x1_1,x1_2)=>(p7 Q0 0 x1_0 x1_1 x1_2 ([]:T9)).bind λb=>g9 b (λa=>match a with|(y27,y28,y29,y30)=>some ((y27,y28,y29),y30))
def M01(a:j0):Option (j0×Bool):=match a with|(p0_0,p0_1,p0_2)=>(c5 (p0_0,p0_1,p0_2)).bind λb=>match b with|(x1_0,x1_1,x1_2)=>(O4 (p0_0,p0_1,p0_2)).bind λc=>(if(bif(!c)then true else(decide (p0_1 ≥ 40)))=true then some ((x1_0,x1_1,x1_2),false)else some ((x1_0,(IntKind.i64.wrap (p0_1+1)),x1_2),true))
def P3(c:C0)(e:Int)(f:Int)(g:M0)(b:Int):Nat->Int->(List K0)->Option ((List K0))
 |0,_,_=>none
 |fuel+1,a,d=>(if(decide (a<((c.length:Nat):Int)))=true then(gi c a).bind λj=>(R5 (e,f,g) b j).bind λh=>(grd (J0 h)).bind λ_=>(if(decide (h<0))=true then(gi c a).bind λi=>(grd ((d.length+([(b,i,(-1))]).length)*24<=140737488355328)).bind λ_=>(P3 c e f g b fuel (IntKind.i64.wrap (a+1)) (d ++ [(b,i,(-1))]))else(P3 c e f g b fuel (IntKind.i64.wrap (a+1)) d))else some (d))
def s5(a:Int)(b:Int)(d:M0):Nat->Int->(List K0)->Option ((List K0))
 |0,_,_=>none
 |fuel+1,c,e=>(chk (decide (c<a)) (Z3 (b,a,d)) false).bind λf=>(if(bif(decide (c<a))then f else false)=true then(o7 b).bind λg=>(P3 g b a d c Q0 0 e).bind (λh=>(s5 a b d fuel (IntKind.i64.wrap (c+1)) h))else some (e))
def c9(a:j0):Option (M0):=match a with|(p0_0,p0_1,p0_2)=>(s5 p0_1 p0_0 p0_2 Q0 0 ([]:M0)).bind (λb=>some b)
def Q02(b:Int)(a:Int)(c:Int):Option (K0):=(if(decide (a<0))=true then some (c,(IntKind.i64.wrap (0-a)),b)else some (b,a,c))
def V1(b:M0)(c:Int)(d:Int)(e:Int):Nat->Int->Option ((Int) ⊕ (Unit))
 |0,_=>none
 |fuel+1,a=>(if(decide (a<((b.length:Nat):Int)))=true then(gi b a).bind λf=>match f with|(x6_0,x6_1,x6_2)=>(if(eqE (c,d,e) (x6_0,x6_1,x6_2))=true then some (.inl a)else(V1 b c d e fuel (IntKind.i64.wrap (a+1))))else some (.inr ()))
def n5(b:M0)(c:K0):Option (Int):=match c with|(p1_0,p1_1,p1_2)=>(V1 b p1_0 p1_1 p1_2 Q0 0).bind λa=>g9 a (λ_=>some (-1))
def D3(b:M0)(c:K0):Option (Bool):=match c with|(p1_0,p1_1,p1_2)=>(n5 b (p1_0,p1_1,p1_2)).bind λa=>(grd (J0 a)).bind λ_=>some (decide (a ≥ 0))
def r7(a:Int)(b:H6):Option (Int):=match b with|(p1_0,p1_1)=>(if(decide (a=p1_1))=true then some p1_0 else(if(decide (a>p1_1))=true then some (IntKind.i64.wrap (a-1))else some a))
def t7(a:C0)(e:Int):Nat->Int->Int->Int->Int->M0->Option (Int×Int×M0)
 |0,_,_,_,_,_=>none
 |fuel+1,g,b,f,c,d=>(if(decide (b<((a.length:Nat):Int)))=true then(gi a b).bind λh=>(if(decide (b<(IntKind.i64.wrap (((a.length:Nat):Int)-1))))=true then(Q02 g h c).bind λi=>match i with|(x21_0,x21_1,x21_2)=>(grd ((d.length+([(x21_0,x21_1,x21_2)]).length)*24<=140737488355328)).bind λ_=>(t7 a e fuel c (IntKind.i64.wrap (b+1)) f (IntKind.i64.wrap (c+1)) (d ++ [(x21_0,x21_1,x21_2)]))else(Q02 g h e).bind λj=>match j with|(x26_0,x26_1,x26_2)=>(grd ((d.length+([(x26_0,x26_1,x26_2)]).length)*24<=140737488355328)).bind λ_=>(t7 a e fuel e (IntKind.i64.wrap (b+1)) f c (d ++ [(x26_0,x26_1,x26_2)])))else some (f,c,d))
def N01(h:j0)(d:Int)(a:C0)(e:Int):Option (j0×Bool):=match h with|(p0_0,p0_1,p0_2)=>(K4 (p0_0,p0_1,p0_2)).bind λi=>match i with|(x1_0,x1_1,x1_2)=>(a8 (p0_0,p0_1,p0_2)).bind λb=>(chk (!(!b)) (J4 (p0_0,p0_1,p0_2) d) false).bind λc=>(chk (!(bif(!b)then true else(!c))) (J4 (p0_0,p0_1,p0_2) e) false).bind λf=>(chk (!(bif(bif(bif(!b)then true else(!c))then true else(!f))then true else(decide (((a.length:Nat):Int)=0)))) (F00 p0_0 a) false).bind λk=>(if(bif(bif(bif(bif(bif(bif(!b)then true else(!c))then true else(!f))then true else(decide (((a.length:Nat):Int)=0)))then true else(!k))then true else(decide ((IntKind.i64.wrap ((IntKind.i64.wrap (p0_1+((a.length:Nat):Int)))-1))>40)))then true else(decide ((IntKind.i64.wrap (((p0_2.length:Nat):Int)+((a.length:Nat):Int)))>120)))=true then some ((x1_0,x1_1,x1_2),false)else(t7 a e Q0 d 0 x1_0 x1_1 x1_2).bind (λg=>match g with|(y35,y36,y37)=>(G00 y37).bind λj=>some ((y35,y36,j),true)))
def m02(a:Int):Option (j0×Bool):=(C6 a 1 3).bind λb=>(if(!b)=true then some ((0,0,[]),false)else some ((a,1,[]),true))
def n02(a:j0)(b:C0):Option (j0×Bool):=match a with|(p0_0,p0_1,p0_2)=>(N01 (p0_0,p0_1,p0_2) 0 b 0).bind λc=>match c with|(x1_0,x1_1)=>match x1_0 with|(x1_0_0,x1_0_1,x1_0_2)=>some ((x1_0_0,x1_0_1,x1_0_2),x1_1)
def O6(a:U1):Nat->Int->Int->Int->M0->Option (Int×Int×M0)
 |0,_,_,_,_=>none
 |fuel+1,u8,d,b,c=>(if(decide (u8<((a.length:Nat):Int)))=true then(gi a u8).bind λe=>(if(decide (((e.length:Nat):Int)>0))=true then(n02 (d,b,c) e).bind λf=>match f with|(x17_0,x17_1)=>match x17_0 with|(x17_0_0,x17_0_1,x17_0_2)=>(O6 a fuel (IntKind.i64.wrap (u8+1)) x17_0_0 x17_0_1 x17_0_2)else(O6 a fuel (IntKind.i64.wrap (u8+1)) d b c))else some (d,b,c))
def o02(a:Int)(b:U1):Option (j0×Bool):=(d01 a b).bind λd=>(if(!d)=true then some ((0,0,[]),false)else(m02 a).bind λe=>match e with|(x3_0,x3_1)=>match x3_0 with|(x3_0_0,x3_0_1,x3_0_2)=>(O6 b Q0 0 x3_0_0 x3_0_1 x3_0_2).bind (λc=>match c with|(y22,y23,y24)=>some ((y22,y23,y24),true)))
def Q5(e:M0)(f:Int)(b:Int)(a:Int):Nat->Int->(List H6)->Option ((List H6))
 |0,_,_=>none
 |fuel+1,d,c=>(if(decide (d<((e.length:Nat):Int)))=true then(gi e d).bind λg=>match g with|(x15_0,x15_1,x15_2)=>(if(!decide (f=x15_1))=true then(Q5 e f b a fuel (IntKind.i64.wrap (d+1)) c)else(if(decide (b=x15_0))=true then(grd ((c.length+([((if x15_2<a then x15_2 else a),(if x15_2>a then x15_2 else a))]).length)*16<=140737488355328)).bind λ_=>(if(decide (a=x15_2))=true then(grd (((c ++ [((if x15_2<a then x15_2 else a),(if x15_2>a then x15_2 else a))]).length+([((if x15_0<b then x15_0 else b),(if x15_0>b then x15_0 else b))]).length)*16<=140737488355328)).bind λ_=>(Q5 e f b a fuel (IntKind.i64.wrap (d+1)) ((c ++ [((if x15_2<a then x15_2 else a),(if x15_2>a then x15_2 else a))]) ++ [((if x15_0<b then x15_0 else b),(if x15_0>b then x15_0 else b))]))else(Q5 e f b a fuel (IntKind.i64.wrap (d+1)) (c ++ [((if x15_2<a then x15_2 else a),(if x15_2>a then x15_2 else a))])))else(if(decide (a=x15_2))=true then(grd ((c.length+([((if x15_0<b then x15_0 else b),(if x15_0>b then x15_0 else b))]).length)*16<=140737488355328)).bind λ_=>(Q5 e f b a fuel (IntKind.i64.wrap (d+1)) (c ++ [((if x15_0<b then x15_0 else b),(if x15_0>b then x15_0 else b))]))else(Q5 e f b a fuel (IntKind.i64.wrap (d+1)) c))))else some (c))
def b00(a:M0):Nat->Int->(List H6)->Option ((List H6))
 |0,_,_=>none
 |fuel+1,b,c=>(if(decide (b<((a.length:Nat):Int)))=true then(gi a b).bind λd=>match d with|(x7_0,x7_1,x7_2)=>(j06 a (IntKind.i64.wrap (b+1)) (a.length:Int)).bind λe=>(Q5 e x7_1 x7_0 x7_2 Q0 0 c).bind (λf=>(b00 a fuel (IntKind.i64.wrap (b+1)) f))else some (c))
def l04(a:j0):Option (T9):=match a with|(p0_0,p0_1,p0_2)=>(b00 p0_2 Q0 0 ([]:T9)).bind (λb=>some b)
def O00(b:j0):Option (H6×Bool):=match b with|(p0_0,p0_1,p0_2)=>(a8 (p0_0,p0_1,p0_2)).bind λc=>(if(!c)=true then some ((0,0),false)else(l04 (p0_0,p0_1,p0_2)).bind λa=>(if(decide (((a.length:Nat):Int)=0))=true then some ((0,0),false)else(gi a 0).bind λd=>match d with|(x7_0,x7_1)=>some ((x7_0,x7_1),true)))
def U4(f:M0)(c:Int)(d:Int):Nat->Int->M0->Option (M0)
 |0,_,_=>none
 |fuel+1,a,b=>(if(decide (a<((f.length:Nat):Int)))=true then(gi b a).bind λh=>match h with|(x15_0,x15_1,x15_2)=>(r7 x15_0 (c,d)).bind λe=>(grd (J0 e)).bind λj=>(r7 x15_2 (c,d)).bind λg=>(grd (J0 g)).bind λk=>(gi b a).bind λi=>match i with|(x26_0,x26_1,x26_2)=>(U4 f c d fuel (IntKind.i64.wrap (a+1)) (b.set a.toNat (e,x15_1,g)))else some (b))
def C8(a:j0)(b:H6):Option (j0×Bool):=match a with|(p0_0,p0_1,p0_2)=>match b with|(p1_0,p1_1)=>(K4 (p0_0,p0_1,p0_2)).bind λc=>match c with|(x1_0,x1_1,x1_2)=>(a8 (p0_0,p0_1,p0_2)).bind λe=>(if(bif(bif(bif(!e)then true else(decide (p1_0<0)))then true else(decide (p1_0 ≥ p1_1)))then true else(decide (p1_1 ≥ p0_1)))=true then some ((x1_0,x1_1,x1_2),false)else(U4 x1_2 p1_0 p1_1 Q0 0 x1_2).bind (λf=>(G00 f).bind λd=>some ((x1_0,(IntKind.i64.wrap (x1_1-1)),d),true)))
def p02(a:j0):Option (j0×H6×Bool):=match a with|(p0_0,p0_1,p0_2)=>(O00 (p0_0,p0_1,p0_2)).bind λb=>match b with|(x1_0,x1_1)=>match x1_0 with|(x1_0_0,x1_0_1)=>(if(!x1_1)=true then(K4 (p0_0,p0_1,p0_2)).bind λc=>match c with|(x5_0,x5_1,x5_2)=>some ((x5_0,x5_1,x5_2),(0,0),false)else(C8 (p0_0,p0_1,p0_2) (x1_0_0,x1_0_1)).bind λd=>match d with|(x9_0,x9_1)=>match x9_0 with|(x9_0_0,x9_0_1,x9_0_2)=>some ((x9_0_0,x9_0_1,x9_0_2),(x1_0_0,x1_0_1),true))
def D8:Nat->Int->Int->M0->(List H6)->Option ((j0×T9) ⊕ (Int×Int×M0×(List H6)))
 |0,_,_,_,_=>none
 |fuel+1,b,c,u8,a=>(p02 (b,c,u8)).bind λd=>match d with|(x12_0,x12_1,x12_2)=>match x12_0 with|(x12_0_0,x12_0_1,x12_0_2)=>match x12_1 with|(x12_1_0,x12_1_1)=>(if(!x12_2)=true then some (.inl ((b,c,u8),a))else(grd ((a.length+([(x12_1_0,x12_1_1)]).length)*16<=140737488355328)).bind λ_=>(D8 fuel x12_0_0 x12_0_1 x12_0_2 (a ++ [(x12_1_0,x12_1_1)])))
def R02(b:j0):Option (j0×T9):=match b with|(p0_0,p0_1,p0_2)=>(K4 (p0_0,p0_1,p0_2)).bind λc=>match c with|(x1_0,x1_1,x1_2)=>(D8 Q0 x1_0 x1_1 x1_2 ([]:T9)).bind λa=>g9 a (λ_=>none)
def O01(a:j0):Option (j0×Bool):=match a with|(p0_0,p0_1,p0_2)=>(K4 (p0_0,p0_1,p0_2)).bind λb=>match b with|(x1_0,x1_1,x1_2)=>(a8 (p0_0,p0_1,p0_2)).bind λc=>(if(bif(!c)then true else(decide (p0_1=40)))=true then some ((x1_0,x1_1,x1_2),false)else some ((x1_0,(IntKind.i64.wrap (x1_1+1)),x1_2),true))
def Q3(c:C0)(d:Int)(e:Int)(f:M0)(u8:Int):Nat->Int->(List K0)->Option ((List K0))
 |0,_,_=>none
 |fuel+1,a,b=>(if(decide (a<((c.length:Nat):Int)))=true then(gi c a).bind λg=>(L7 (d,e,f) u8 g).bind λh=>(grd (J0 h)).bind λ_=>(if(decide (h<0))=true then(grd ((b.length+([(u8,g,(-1))]).length)*24<=140737488355328)).bind λ_=>(Q3 c d e f u8 fuel (IntKind.i64.wrap (a+1)) (b ++ [(u8,g,(-1))]))else(Q3 c d e f u8 fuel (IntKind.i64.wrap (a+1)) b))else some (b))
def A5(b:Int)(a:Int)(c:M0):Nat->Int->(List K0)->Option ((List K0))
 |0,_,_=>none
 |fuel+1,u8,d=>(if(decide (u8<b))=true then(Y9 a).bind λe=>(Q3 e a b c u8 Q0 0 d).bind (λf=>(A5 b a c fuel (IntKind.i64.wrap (u8+1)) f))else some (d))
def d9(a:j0):Option (M0):=match a with|(p0_0,p0_1,p0_2)=>(i7 (p0_0,p0_1,p0_2)).bind λb=>(if(!b)=true then some ([]:M0)else(A5 p0_1 p0_0 p0_2 Q0 0 ([]:M0)).bind (λc=>some c))
def p6(e:Int)(f:Int)(d:C0):Nat->Int->(List Int)->(List Int)->Option ((List Int)×(List Int))
 |0,_,_,_=>none
 |fuel+1,a,b,c=>(if(decide (a<e))=true then(if(!decide (a=f))=true then(grd ((b.length + [a].length)*8<=140737488355328)).bind λ_=>(gi d a).bind λg=>(grd ((c.length + [g].length)*8<=140737488355328)).bind λ_=>(p6 e f d fuel (IntKind.i64.wrap (a+1)) (b ++ [a]) (c ++ [g]))else(p6 e f d fuel (IntKind.i64.wrap (a+1)) b c))else some (b,c))
def a7(g:Int)(h:Int)(i:M0):Nat->C0->Int->Int->Int->M0->Option ((j0×C0) ⊕ (C0×Int×Int×M0))
 |0,_,_,_,_,_=>none
 |fuel+1,d,e,b,a,c=>(chk (decide (e<40)) (O4 (g,h,i)) false).bind λk=>(if(bif(decide (e<40))then k else false)=true then(t02 (b,a,c)).bind λf=>(grd (J0 f)).bind λ_=>(if(decide (f<0))=true then some (.inl ((b,a,c),d))else(p6 a f d Q0 0 ([]:C0) ([]:C0)).bind (λj=>match j with|(y52,y53)=>(V6 (b,a,c) y52).bind λl=>match l with|(x58_0,x58_1)=>match x58_0 with|(x58_0_0,x58_0_1,x58_0_2)=>(a7 g h i fuel y53 (IntKind.i64.wrap (e+1)) x58_0_0 x58_0_1 x58_0_2)))else some (.inr (d,b,a,c)))
def c7(b:Int)(d:Int)(e:M0):Nat->Int->(List Int)->Option ((List Int))
 |0,_,_=>none
 |fuel+1,a,c=>(chk (decide (a<b)) (O4 (d,b,e)) false).bind λf=>(if(bif(decide (a<b))then f else false)=true then(grd ((c.length + [a].length)*8<=140737488355328)).bind λ_=>(c7 b d e fuel (IntKind.i64.wrap (a+1)) (c ++ [a]))else some (c))
def Q01(c:j0):Option (j0×C0):=match c with|(p0_0,p0_1,p0_2)=>(c5 (p0_0,p0_1,p0_2)).bind λd=>match d with|(x1_0,x1_1,x1_2)=>(c7 p0_1 p0_0 p0_2 Q0 0 ([]:C0)).bind (λe=>(a7 p0_0 p0_1 p0_2 Q0 e 0 x1_0 x1_1 x1_2).bind λb=>g9 b (λa=>match a with|(y132,y133,y134,y135)=>some ((y133,y134,y135),y132)))
def E8(a:j0):Option (j0):=match a with|(p0_0,p0_1,p0_2)=>(P02 (p0_0,p0_1,p0_2)).bind λb=>match b with|(x1_0,x1_1)=>match x1_0 with|(x1_0_0,x1_0_1,x1_0_2)=>(Q01 (x1_0_0,x1_0_1,x1_0_2)).bind λc=>match c with|(x4_0,x4_1)=>match x4_0 with|(x4_0_0,x4_0_1,x4_0_2)=>(V7 (x4_0_0,x4_0_1,x4_0_2)).bind λd=>match d with|(x7_0,x7_1,x7_2)=>some (x7_0,x7_1,x7_2)
def H8(a:j0):Option (j0):=match a with|(p0_0,p0_1,p0_2)=>(R02 (p0_0,p0_1,p0_2)).bind λb=>match b with|(x1_0,x1_1)=>match x1_0 with|(x1_0_0,x1_0_1,x1_0_2)=>(z8 (x1_0_0,x1_0_1,x1_0_2)).bind λc=>match c with|(x5_0,x5_1)=>match x5_0 with|(x5_0_0,x5_0_1,x5_0_2)=>(Y7 (x5_0_0,x5_0_1,x5_0_2)).bind λd=>match d with|(x9_0,x9_1,x9_2)=>some (x9_0,x9_1,x9_2)
def C4(c:C0):Nat->Int->(List Int)->Option ((List Int))
 |0,_,_=>none
 |fuel+1,a,b=>(if(decide (a ≥ 0))=true then(gi c a).bind λd=>(grd ((b.length+([(IntKind.i64.wrap (0-d))]).length)*8<=140737488355328)).bind λ_=>(C4 c fuel (IntKind.i64.wrap (a-1)) (b ++ [(IntKind.i64.wrap (0-d))]))else some (b))
def Q7(a:C0):Option (C0):=(C4 a Q0 (IntKind.i64.wrap (((a.length:Nat):Int)-1)) ([]:C0)).bind (λb=>some b)
def U3(c:C0):Nat->Int->(List Int)->Option ((List Int))
 |0,_,_=>none
 |fuel+1,d,b=>(if(decide (d<((c.length:Nat):Int)))=true then(some b.length).bind λa=>(grd (a<=9223372036854775807)).bind λ_=>(chk (decide (((a:Nat):Int)>0)) (gi c d) 0).bind λe=>(chk (bif(decide (((a:Nat):Int)>0))then(!decide (e=0))else false) (gi b (IntKind.i64.wrap (((a:Nat):Int)-1))) 0).bind λf=>(chk (bif(decide (((a:Nat):Int)>0))then(!decide (e=0))else false) (gi c d) 0).bind λg=>(chk (bif(bif(decide (((a:Nat):Int)>0))then(!decide (e=0))else false)then(decide (f=(IntKind.i64.wrap (0-g))))else false) (gi b (IntKind.i64.wrap (((a:Nat):Int)-1))) 0).bind λi=>(chk (bif(bif(decide (((a:Nat):Int)>0))then(!decide (e=0))else false)then(decide (f=(IntKind.i64.wrap (0-g))))else false) (gi c d) 0).bind λj=>(if(bif(bif(bif(decide (((a:Nat):Int)>0))then(!decide (e=0))else false)then(decide (f=(IntKind.i64.wrap (0-g))))else false)then(!decide (i=j))else false)=true then(grd (0<=(IntKind.i64.wrap (((a:Nat):Int)-1))/\(IntKind.i64.wrap (((a:Nat):Int)-1))<=(b.length:Int))).bind λ_=>(U3 c fuel (IntKind.i64.wrap (d+1)) (b.take (IntKind.i64.wrap (((a:Nat):Int)-1)).toNat))else(gi c d).bind λh=>(grd ((b.length + [h].length)*8<=140737488355328)).bind λ_=>(U3 c fuel (IntKind.i64.wrap (d+1)) (b ++ [h])))else some (b))
def d7(b:C0):Option (C0):=(U3 b Q0 0 ([]:C0)).bind (λa=>(grd ((([]:C0).length+a.length)*8<=140737488355328)).bind λ_=>some (([]:C0)++a))
def c00(a:C0)(b:C0):Option (C0):=(grd ((([]:C0).length+a.length)*8<=140737488355328)).bind λ_=>(grd (((([]:C0)++a).length+b.length)*8<=140737488355328)).bind λ_=>(d7 ((([]:C0)++a)++b)).bind λc=>some c
def D7(c:C0):Nat->Int->(List Int)->Option ((List Int))
 |0,_,_=>none
 |fuel+1,a,b=>(if(decide (a ≥ 0))=true then(gi c a).bind λd=>(grd ((b.length+([(IntKind.i64.wrap (0-d))]).length)*8<=140737488355328)).bind λ_=>(D7 c fuel (IntKind.i64.wrap (a-1)) (b ++ [(IntKind.i64.wrap (0-d))]))else some (b))
def V8(a:C0):Option (C0):=(grd ((0:Int)<=0/\0<=((a.length:Nat):Int)/\((a.length:Nat):Int)*8<=140737488355328/\((a.length:Nat):Int)<=9223372036854775807)).bind λ_=>(D7 a Q0 (IntKind.i64.wrap (((a.length:Nat):Int)-1)) (List.replicate (0:Int).toNat (0:Int))).bind (λb=>some b)
def z7(e:C0):Nat->Int->(List Int)->Option ((List Int))
 |0,_,_=>none
 |fuel+1,d,a=>(if(decide (d<((e.length:Nat):Int)))=true then(gi e d).bind λf=>(some a.length).bind λb=>(grd (b<=9223372036854775807)).bind λ_=>(some a.length).bind λg=>(grd (g<=9223372036854775807)).bind λ_=>(chk (decide (((b:Nat):Int)>0)) (gi a (IntKind.i64.wrap (((g:Nat):Int)-1))) 0).bind λh=>(chk (decide (((b:Nat):Int)>0)) (k00 h f) false).bind λi=>(if(bif(decide (((b:Nat):Int)>0))then i else false)=true then(some a.length).bind λc=>(grd (c<=9223372036854775807)).bind λ_=>(grd (0<=(IntKind.i64.wrap (((c:Nat):Int)-1))/\(IntKind.i64.wrap (((c:Nat):Int)-1))<=(a.length:Int))).bind λ_=>(z7 e fuel (IntKind.i64.wrap (d+1)) (a.take (IntKind.i64.wrap (((c:Nat):Int)-1)).toNat))else(grd ((a.length + [f].length)*8<=140737488355328)).bind λ_=>(z7 e fuel (IntKind.i64.wrap (d+1)) (a ++ [f])))else some (a))
def I8(a:U1):Nat->Int->(List Int)->Option ((List Int))
 |0,_,_=>none
 |fuel+1,b,c=>(if(decide (b<((a.length:Nat):Int)))=true then(gi a b).bind λd=>(z7 d Q0 0 c).bind (λe=>(I8 a fuel (IntKind.i64.wrap (b+1)) e))else some (c))
def d00(a:U1):Option (C0):=(I8 a Q0 0 ([]:C0)).bind (λb=>some b)
def t00(a:j0)(b:C0):Option (Bool):=match a with|(p0_0,p0_1,p0_2)=>(d7 b).bind λc=>(e01 (p0_0,p0_1,p0_2) 0 c).bind λe=>match e with|(x4_0,x4_1)=>(grd (J0 x4_0)).bind λf=>(l3 (p0_0,p0_1,p0_2)).bind λd=>some (bif(bif d then x4_1 else false)then(decide (x4_0=0))else false)
def J9(b:j0)(a:C0):Option (Bool):=match b with|(p0_0,p0_1,p0_2)=>(l00 (p0_0,p0_1,p0_2) 0 a).bind λc=>match c with|(x1_0,x1_1)=>(grd (J0 x1_0)).bind λ_=>(grd (J0 x1_1)).bind λ_=>some (bif(decide (x1_1=((a.length:Nat):Int)))then(decide (x1_0=0))else false)
def J8(a:C0):Option (C0):=(d00 [a]).bind λb=>some b
def g7(d:C0)(k:U1)(e:Int)(f:Int)(g:M0):Nat->Int->(List K0)->Option ((List K0))
 |0,_,_=>none
 |fuel+1,a,b=>(if(decide (a<((d.length:Nat):Int)))=true then(gi d a).bind λc=>(gi k c).bind λh=>(gi h (IntKind.i64.wrap (((h.length:Nat):Int)-1))).bind λi=>(L7 (e,f,g) c (IntKind.i64.wrap (0-i))).bind λj=>(grd (J0 j)).bind λ_=>(Q02 j i c).bind λl=>match l with|(x16_0,x16_1,x16_2)=>(grd ((b.length+([(x16_0,x16_1,x16_2)]).length)*24<=140737488355328)).bind λ_=>(g7 d k e f g fuel (IntKind.i64.wrap (a+1)) (b ++ [(x16_0,x16_1,x16_2)]))else some (b))
def R01(a:j0):Option (M0):=match a with|(p0_0,p0_1,p0_2)=>(O7 (p0_0,p0_1,p0_2) 0).bind λb=>match b with|(x1_0,x1_1)=>(j06 x1_0 1 (x1_0.length:Int)).bind λd=>(g7 d x1_1 p0_0 p0_1 p0_2 Q0 0 ([]:M0)).bind (λe=>(G00 e).bind λc=>some c)
def H5(a:M0)(d:M0):Nat->Int->(List K0)->Option ((List K0))
 |0,_,_=>none
 |fuel+1,b,c=>(if(decide (b<((a.length:Nat):Int)))=true then(gi a b).bind λe=>match e with|(x16_0,x16_1,x16_2)=>(D3 d (x16_0,x16_1,x16_2)).bind λf=>(if(!f)=true then(grd ((c.length+([(x16_0,x16_1,x16_2)]).length)*24<=140737488355328)).bind λ_=>(H5 a d fuel (IntKind.i64.wrap (b+1)) (c ++ [(x16_0,x16_1,x16_2)]))else(H5 a d fuel (IntKind.i64.wrap (b+1)) c))else some (c))
def q01(a:j0):Option (M0):=match a with|(p0_0,p0_1,p0_2)=>(i7 (p0_0,p0_1,p0_2)).bind λb=>(if(!b)=true then some ([]:M0)else(R01 (p0_0,p0_1,p0_2)).bind λc=>(H5 p0_2 c Q0 0 ([]:M0)).bind (λd=>some d))
def K8(c:M0)(d:U1):Nat->Int->(List C0)->Option ((List C0))
 |0,_,_=>none
 |fuel+1,a,b=>(if(decide (a<((c.length:Nat):Int)))=true then(gi c a).bind λf=>match f with|(x19_0,x19_1,x19_2)=>(gi d x19_0).bind λg=>(some [x19_1]).bind λh=>(gi d x19_2).bind λi=>(V8 i).bind λj=>(some [g,h,j]).bind λk=>(d00 k).bind λl=>(some [l]).bind λe=>(grd ((b.length+e.length)*24<=140737488355328)).bind λ_=>(K8 c d fuel (IntKind.i64.wrap (a+1)) (b++e))else some (b))
def T02(a:j0):Option (U1):=match a with|(p0_0,p0_1,p0_2)=>(D6 (p0_0,p0_1,p0_2)).bind λb=>(if(!b)=true then some ([]:U1)else(O7 (p0_0,p0_1,p0_2) 0).bind λd=>match d with|(x7_0,x7_1)=>(q01 (p0_0,p0_1,p0_2)).bind λc=>(K8 c x7_1 Q0 0 ([]:U1)).bind (λe=>some e))
def a6(a:U1)(c:Int)(d:Int)(e:M0):Nat->Int->Option ((Bool) ⊕ (Unit))
 |0,_=>none
 |fuel+1,b=>(if(decide (b<((a.length:Nat):Int)))=true then(gi a b).bind λg=>(J8 g).bind λh=>(J9 (c,d,e) h).bind λf=>(if(!f)=true then some (.inl false)else(a6 a c d e fuel (IntKind.i64.wrap (b+1))))else some (.inr ()))
def K9(b:j0)(c:U1):Option (Bool):=match b with|(p0_0,p0_1,p0_2)=>(D6 (p0_0,p0_1,p0_2)).bind λd=>(if(!d)=true then some false else(a6 c p0_0 p0_1 p0_2 Q0 0).bind λa=>g9 a (λ_=>some true))
def e00(c:j0):Option (Bool):=match c with|(p0_0,p0_1,p0_2)=>(l3 (p0_0,p0_1,p0_2)).bind λa=>(chk a (c9 (p0_0,p0_1,p0_2)) []).bind λb=>(grd (b.length<=9223372036854775807)).bind λd=>some (bif a then(decide (((b.length:Nat):Int)=0))else false)
def V4(b:Int)(c:Int):Nat->Int->(List Int)->Option ((List Int))
 |0,_,_=>none
 |fuel+1,u8,a=>(if(decide (u8<b))=true then(if(!decide (u8=c))=true then(grd ((a.length + [u8].length)*8<=140737488355328)).bind λ_=>(V4 b c fuel (IntKind.i64.wrap (u8+1)) (a ++ [u8]))else(V4 b c fuel (IntKind.i64.wrap (u8+1)) a))else some (a))
def g8(c:j0)(a:Int):Option (j0×Bool):=match c with|(p0_0,p0_1,p0_2)=>(Z3 (p0_0,p0_1,p0_2)).bind λb=>(chk (!(!b)) (R3 a 0 (IntKind.i64.wrap (p0_1-1))) false).bind λd=>(if(bif(!b)then true else(!d))=true then(c5 (p0_0,p0_1,p0_2)).bind λg=>match g with|(x4_0,x4_1,x4_2)=>some ((x4_0,x4_1,x4_2),false)else(V4 p0_1 a Q0 0 [a]).bind (λh=>(V6 (p0_0,p0_1,p0_2) h).bind λe=>match e with|(x31_0,x31_1)=>match x31_0 with|(x31_0_0,x31_0_1,x31_0_2)=>(E8 (x31_0_0,x31_0_1,x31_0_2)).bind λf=>match f with|(x34_0,x34_1,x34_2)=>some ((x34_0,x34_1,x34_2),true)))
def f00(c:j0):Option (Bool):=match c with|(p0_0,p0_1,p0_2)=>(D6 (p0_0,p0_1,p0_2)).bind λa=>(chk a (d9 (p0_0,p0_1,p0_2)) []).bind λb=>(grd (b.length<=9223372036854775807)).bind λd=>some (bif a then(decide (((b.length:Nat):Int)=0))else false)
def R7(c:Int)(d:Int):Nat->Int->(List Int)->Option ((List Int))
 |0,_,_=>none
 |fuel+1,a,b=>(if(decide (a<c))=true then(if(!decide (a=d))=true then(grd ((b.length + [a].length)*8<=140737488355328)).bind λ_=>(R7 c d fuel (IntKind.i64.wrap (a+1)) (b ++ [a]))else(R7 c d fuel (IntKind.i64.wrap (a+1)) b))else some (b))
def o9(c:j0)(a:Int):Option (j0×Bool):=match c with|(p0_0,p0_1,p0_2)=>(i7 (p0_0,p0_1,p0_2)).bind λb=>(chk (!(!b)) (J4 (p0_0,p0_1,p0_2) a) false).bind λd=>(if(bif(!b)then true else(!d))=true then(K4 (p0_0,p0_1,p0_2)).bind λg=>match g with|(x4_0,x4_1,x4_2)=>some ((x4_0,x4_1,x4_2),false)else(R7 p0_1 a Q0 0 [a]).bind (λh=>(L02 (p0_0,p0_1,p0_2) h).bind λe=>match e with|(x34_0,x34_1,x34_2)=>(H8 (x34_0,x34_1,x34_2)).bind λf=>match f with|(x38_0,x38_1,x38_2)=>some ((x38_0,x38_1,x38_2),true)))
def P6(f:C0)(g:Int)(h:Int)(i:Int)(j:M0):Nat->Int->(List Bool)->(List C0)->(List Int)->Option ((List Bool)×(List C0)×(List Int))
 |0,_,_,_,_=>none
 |fuel+1,c,d,e,b=>(if(decide (c<((f.length:Nat):Int)))=true then(gi b g).bind λm=>(gi f c).bind λn=>(R5 (h,i,j) m n).bind λa=>(grd (J0 a)).bind λ_=>(chk (decide (a ≥ 0)) (gi d a) false).bind λo=>(if(bif(decide (a ≥ 0))then(!o)else false)=true then(gi d a).bind λt=>(gi b g).bind λp=>(gi e p).bind λk=>(grd (k.length*8<=140737488355328)).bind λs=>(gi f c).bind λq=>(some [q]).bind λl=>(grd ((k.length+l.length)*8<=140737488355328)).bind λ_=>(gi e a).bind λu=>(grd ((b.length + [a].length)*8<=140737488355328)).bind λ_=>(P6 f g h i j fuel (IntKind.i64.wrap (c+1)) (d.set a.toNat true) (e.set a.toNat (k++l)) (b ++ [a]))else(P6 f g h i j fuel (IntKind.i64.wrap (c+1)) d e b))else some (d,e,b))
def Y8(i:C0)(d:Int)(e:Int)(f:M0):Nat->Int->(List Bool)->(List C0)->(List Int)->Option ((List Bool)×(List C0)×(List Int))
 |0,_,_,_,_=>none
 |fuel+1,a,g,h,b=>(some b.length).bind λc=>(grd (c<=9223372036854775807)).bind λ_=>(if(decide (a<((c:Nat):Int)))=true then(P6 i a d e f Q0 0 g h b).bind (λj=>match j with|(y73,y74,y75)=>(Y8 i d e f fuel (IntKind.i64.wrap (a+1)) y73 y74 y75))else some (g,h,b))
def q02(c:j0)(a:Int):Option ((List Bool)×U1):=match c with|(p0_0,p0_1,p0_2)=>(grd ((0:Int)<=p0_1/\p0_1<=p0_1/\p0_1*1<=140737488355328/\p0_1<=9223372036854775807)).bind λ_=>(grd ((0:Int)<=p0_1/\p0_1<=p0_1/\p0_1*24<=140737488355328/\p0_1<=9223372036854775807)).bind λ_=>(gi (List.replicate p0_1.toNat (false:Bool)) a).bind λe=>(gi (List.replicate p0_1.toNat ([]:C0)) a).bind λf=>(o7 p0_0).bind λd=>(Y8 d p0_0 p0_1 p0_2 Q0 0 ((List.replicate p0_1.toNat (false:Bool)).set a.toNat true) ((List.replicate p0_1.toNat ([]:C0)).set a.toNat ([]:C0)) [a]).bind (λb=>match b with|(y87,y88,y89)=>some (y87,y88))
def p9(f:j0)(c:Int)(a:Int):Option (C0×Bool):=match f with|(p0_0,p0_1,p0_2)=>(Z3 (p0_0,p0_1,p0_2)).bind λb=>(chk (!(!b)) (R3 c 0 (IntKind.i64.wrap (p0_1-1))) false).bind λe=>(chk (!(bif(!b)then true else(!e))) (R3 a 0 (IntKind.i64.wrap (p0_1-1))) false).bind λh=>(if(bif(bif(!b)then true else(!e))then true else(!h))=true then some (([]:C0),false)else(q02 (p0_0,p0_1,p0_2) c).bind λi=>match i with|(x9_0,x9_1)=>(gi x9_0 a).bind λg=>(if(!g)=true then some (([]:C0),false)else(gi x9_1 a).bind λd=>(grd ((([]:C0).length+d.length)*8<=140737488355328)).bind λ_=>some ((([]:C0)++d),true)))
def g01(a:j0)(b:Int):Option (C0):=match a with|(p0_0,p0_1,p0_2)=>(p9 (p0_0,p0_1,p0_2) 0 b).bind λc=>match c with|(x1_0,x1_1)=>some x1_0
def E6(d:C0)(e:Int)(f:Int)(g:Int)(h:M0):Nat->M0->Int->(List Int)->Option (M0×(List Int))
 |0,_,_,_=>none
 |fuel+1,i,c,b=>(if(decide (c<((d.length:Nat):Int)))=true then(gi b e).bind λj=>(gi d c).bind λk=>(R5 (f,g,h) j k).bind λa=>(grd (J0 a)).bind λ_=>(chk (!(decide (a<0))) (Q9 b a) false).bind λl=>(if(bif(decide (a<0))then true else l)=true then(E6 d e f g h fuel i (IntKind.i64.wrap (c+1)) b)else(grd ((b.length + [a].length)*8<=140737488355328)).bind λ_=>(gi d c).bind λm=>(if(decide (m>0))=true then(gi (b ++ [a]) e).bind λn=>(gi d c).bind λo=>(f8 i (n,o,a)).bind λp=>(E6 d e f g h fuel p (IntKind.i64.wrap (c+1)) (b ++ [a]))else(gi d c).bind λq=>(gi (b ++ [a]) e).bind λs=>(f8 i (a,(IntKind.i64.wrap (0-q)),s)).bind λt=>(E6 d e f g h fuel t (IntKind.i64.wrap (c+1)) (b ++ [a]))))else some (i,b))
def L9(h:C0)(d:Int)(e:Int)(f:M0):Nat->M0->Int->(List Int)->Option (M0×(List Int))
 |0,_,_,_=>none
 |fuel+1,g,a,b=>(some b.length).bind λc=>(grd (c<=9223372036854775807)).bind λ_=>(if(decide (a<((c:Nat):Int)))=true then(E6 h a d e f Q0 g 0 b).bind (λi=>match i with|(y80,y81)=>(L9 h d e f fuel y80 (IntKind.i64.wrap (a+1)) y81))else some (g,b))
def U02(b:j0):Option (M0):=match b with|(p0_0,p0_1,p0_2)=>(Z3 (p0_0,p0_1,p0_2)).bind λc=>(if(!c)=true then some ([]:M0)else(o7 p0_0).bind λd=>(L9 d p0_0 p0_1 p0_2 Q0 ([]:M0) 0 [0]).bind (λa=>match a with|(y85,y86)=>some y85))
def J6(c:M0)(d:M0)(e:Int):Nat->Bool->Int->Option (Bool)
 |0,_,_=>none
 |fuel+1,a,b=>(if(decide (b<((c.length:Nat):Int)))=true then(chk (!a) (gi c b) (0,0,0)).bind λf=>match f with|(x17_0,x17_1,x17_2)=>(chk (!a) (gi d e) (0,0,0)).bind λg=>match g with|(x18_0,x18_1,x18_2)=>(J6 c d e fuel (bif a then true else(eqE (x17_0,x17_1,x17_2) (x18_0,x18_1,x18_2))) (IntKind.i64.wrap (b+1)))else some (a))
def I5(a:M0)(d:Int)(e:Int)(f:M0):Nat->Int->(List K0)->Option ((List K0))
 |0,_,_=>none
 |fuel+1,b,c=>(chk (decide (b<((a.length:Nat):Int))) (Z3 (d,e,a)) false).bind λh=>(if(bif(decide (b<((a.length:Nat):Int)))then h else false)=true then(J6 f a b Q0 false 0).bind (λi=>(if(!i)=true then(gi a b).bind λg=>match g with|(x25_0,x25_1,x25_2)=>(grd ((c.length+([(x25_0,x25_1,x25_2)]).length)*24<=140737488355328)).bind λ_=>(I5 a d e f fuel (IntKind.i64.wrap (b+1)) (c ++ [(x25_0,x25_1,x25_2)]))else(I5 a d e f fuel (IntKind.i64.wrap (b+1)) c)))else some (c))
def r01(a:j0):Option (M0):=match a with|(p0_0,p0_1,p0_2)=>(U02 (p0_0,p0_1,p0_2)).bind λb=>(I5 p0_2 p0_0 p0_1 b Q0 0 ([]:M0)).bind (λc=>some c)
def r9(a:M0)(d:Int)(e:Int)(f:Int):Nat->Bool->Int->Option (Bool)
 |0,_,_=>none
 |fuel+1,b,c=>(if(decide (c<((a.length:Nat):Int)))=true then(chk (!b) (gi a c) (0,0,0)).bind λg=>match g with|(x7_0,x7_1,x7_2)=>(r9 a d e f fuel (bif b then true else(eqE (x7_0,x7_1,x7_2) (d,e,f))) (IntKind.i64.wrap (c+1)))else some (b))
def y03(b:j0)(c:K0):Option (C0):=match b with|(p0_0,p0_1,p0_2)=>match c with|(p1_0,p1_1,p1_2)=>(r9 p0_2 p1_0 p1_1 p1_2 Q0 false 0).bind (λh=>(Z3 (p0_0,p0_1,p0_2)).bind λd=>(if(bif(!d)then true else(!h))=true then some ([]:C0)else(g01 (p0_0,p0_1,p0_2) p1_0).bind λa=>(grd ((a.length + [p1_1].length)*8<=140737488355328)).bind λ_=>(g01 (p0_0,p0_1,p0_2) p1_2).bind λe=>(Q7 e).bind λf=>(c00 (a ++ [p1_1]) f).bind λg=>some g))
def L8(c:M0)(d:Int)(e:Int)(f:M0):Nat->Int->(List C0)->Option ((List C0))
 |0,_,_=>none
 |fuel+1,a,b=>(if(decide (a<((c.length:Nat):Int)))=true then(gi c a).bind λh=>match h with|(x16_0,x16_1,x16_2)=>(y03 (d,e,f) (x16_0,x16_1,x16_2)).bind λg=>(grd ((b.length + [g].length)*24<=140737488355328)).bind λ_=>(L8 c d e f fuel (IntKind.i64.wrap (a+1)) (b ++ [g]))else some (b))
def V02(a:j0):Option (U1):=match a with|(p0_0,p0_1,p0_2)=>(l3 (p0_0,p0_1,p0_2)).bind λb=>(if(!b)=true then some ([]:U1)else(r01 (p0_0,p0_1,p0_2)).bind λc=>(L8 c p0_0 p0_1 p0_2 Q0 0 ([]:U1)).bind (λd=>some d))
def K6(b:C0)(d:Int)(e:Int)(f:M0):Nat->Int->Int->Option ((Int) ⊕ (Unit))
 |0,_,_=>none
 |fuel+1,g,a=>(if(decide (a<((b.length:Nat):Int)))=true then(gi b a).bind λh=>(R5 (d,e,f) g h).bind λc=>(grd (J0 c)).bind λ_=>(if(decide (c<0))=true then some (.inl a)else(K6 b d e f fuel c (IntKind.i64.wrap (a+1))))else some (.inr ()))
def t01(e:j0)(a:Int)(b:C0):Option (Int):=match e with|(p0_0,p0_1,p0_2)=>(Z3 (p0_0,p0_1,p0_2)).bind λc=>(chk (!(!c)) (R3 a 0 (IntKind.i64.wrap (p0_1-1))) false).bind λf=>(if(bif(!c)then true else(!f))=true then some 0 else(K6 b p0_0 p0_1 p0_2 Q0 a 0).bind λd=>g9 d (λ_=>some ((b.length:Nat):Int)))
def d5(d:j0)(a:C0):Option (j0×Bool):=match d with|(p0_0,p0_1,p0_2)=>(l3 (p0_0,p0_1,p0_2)).bind λc=>(chk (!(!c)) (E00 p0_0 a) false).bind λe=>(if(bif(!c)then true else(!e))=true then some ((0,0,[]),false)else(t01 (p0_0,p0_1,p0_2) 0 a).bind λb=>(grd (J0 b)).bind λ_=>(j06 a 0 b).bind λl=>(e01 (p0_0,p0_1,p0_2) 0 l).bind λm=>match m with|(x9_0,x9_1)=>(grd (J0 x9_0)).bind λn=>(c5 (p0_0,p0_1,p0_2)).bind λf=>match f with|(x21_0,x21_1,x21_2)=>(if(decide (b<((a.length:Nat):Int)))=true then(M01 (p0_0,p0_1,p0_2)).bind λg=>match g with|(x25_0,x25_1)=>match x25_0 with|(x25_0_0,x25_0_1,x25_0_2)=>(if(!x25_1)=true then some ((0,0,[]),false)else(j06 a b (a.length:Int)).bind λh=>(L01 (x25_0_0,x25_0_1,x25_0_2) x9_0 h p0_1).bind λi=>match i with|(x32_0,x32_1)=>match x32_0 with|(x32_0_0,x32_0_1,x32_0_2)=>(if(!x32_1)=true then some ((0,0,[]),false)else(g8 (x32_0_0,x32_0_1,x32_0_2) p0_1).bind λj=>match j with|(x49_0,x49_1)=>match x49_0 with|(x49_0_0,x49_0_1,x49_0_2)=>some ((x49_0_0,x49_0_1,x49_0_2),x49_1)))else(g8 (x21_0,x21_1,x21_2) x9_0).bind λk=>match k with|(x52_0,x52_1)=>match x52_0 with|(x52_0_0,x52_0_1,x52_0_2)=>some ((x52_0_0,x52_0_1,x52_0_2),x52_1)))
def D4(b:C0)(c:C0):Nat->Int->Option ((Bool) ⊕ (Unit))
 |0,_=>none
 |fuel+1,a=>(if(decide (a<((b.length:Nat):Int)))=true then(gi b a).bind λd=>(gi c a).bind λe=>(if(!decide (d=e))=true then some (.inl false)else(D4 b c fuel (IntKind.i64.wrap (a+1))))else some (.inr ()))
def m00(a:C0)(b:C0):Option (Bool):=(if(!decide (((a.length:Nat):Int)=((b.length:Nat):Int)))=true then some false else(D4 a b Q0 0).bind λc=>g9 c (λ_=>some true))
def E7(b:C0)(c:C0):Nat->Int->Option ((Bool) ⊕ (Unit))
 |0,_=>none
 |fuel+1,a=>(if(decide (a<((b.length:Nat):Int)))=true then(gi b a).bind λd=>(gi c a).bind λe=>(if(!decide (d=e))=true then some (.inl false)else(E7 b c fuel (IntKind.i64.wrap (a+1))))else some (.inr ()))
def u01(a:C0)(b:C0):Option (Bool):=(if(!decide (((a.length:Nat):Int)=((b.length:Nat):Int)))=true then some false else(E7 a b Q0 0).bind λc=>g9 c (λ_=>some true))
def U5(b:C0)(c:U1):Nat->Int->(List Int)->Option ((List Int))
 |0,_,_=>none
 |fuel+1,a,d=>(if(bif(decide (a<((b.length:Nat):Int)))then(decide (a<200))else false)=true then(gi b a).bind λh=>(chk (decide (h>0)) (gi b a) 0).bind λm=>(if(bif(decide (h>0))then(decide (m<=((c.length:Nat):Int)))else false)=true then(gi b a).bind λi=>(gi c (IntKind.i64.wrap (i-1))).bind λe=>(grd ((d.length+e.length)*8<=140737488355328)).bind λ_=>(U5 b c fuel (IntKind.i64.wrap (a+1)) (d++e))else(gi b a).bind λf=>(chk (decide (f<0)) (gi b a) 0).bind λj=>(if(bif(decide (f<0))then(decide (j ≥ (IntKind.i64.wrap (0-((c.length:Nat):Int)))))else false)=true then(gi b a).bind λk=>(gi c (IntKind.i64.wrap ((IntKind.i64.wrap (0-k))-1))).bind λl=>(Q7 l).bind λg=>(grd ((d.length+g.length)*8<=140737488355328)).bind λ_=>(U5 b c fuel (IntKind.i64.wrap (a+1)) (d++g))else(U5 b c fuel (IntKind.i64.wrap (a+1)) d)))else some (d))
def r02(a:U1)(b:C0):Option (C0):=(U5 b a Q0 0 ([]:C0)).bind (λd=>(d7 d).bind λc=>some c)
def v01(a:Int)(b:U1):Option (j0×Bool):=(k02 a b).bind λc=>match c with|(x1_0,x1_1)=>match x1_0 with|(x1_0_0,x1_0_1,x1_0_2)=>(if(!x1_1)=true then some ((0,0,[]),false)else(E8 (x1_0_0,x1_0_1,x1_0_2)).bind λd=>match d with|(x5_0,x5_1,x5_2)=>some ((x5_0,x5_1,x5_2),true))
def J5(b:j0)(c:U1):Option (Bool):=match b with|(p0_0,p0_1,p0_2)=>(v01 p0_0 c).bind λd=>match d with|(x1_0,x1_1)=>match x1_0 with|(x1_0_0,x1_0_1,x1_0_2)=>(chk x1_1 (l3 (p0_0,p0_1,p0_2)) false).bind λa=>(chk (bif x1_1 then a else false) (H9 (p0_0,p0_1,p0_2) (x1_0_0,x1_0_1,x1_0_2)) false).bind λe=>some (bif(bif x1_1 then a else false)then e else false)
def d6(a:U1)(c:Int)(d:Int)(e:M0):Nat->Int->Option ((Bool) ⊕ (Unit))
 |0,_=>none
 |fuel+1,b=>(if(decide (b<((a.length:Nat):Int)))=true then(gi a b).bind λf=>(t00 (c,d,e) f).bind λg=>(if(!g)=true then some (.inl false)else(d6 a c d e fuel (IntKind.i64.wrap (b+1))))else some (.inr ()))
def W00(b:j0)(c:U1):Option (Bool):=match b with|(p0_0,p0_1,p0_2)=>(d6 c p0_0 p0_1 p0_2 Q0 0).bind λa=>g9 a (λ_=>(l3 (p0_0,p0_1,p0_2)).bind λd=>some d)
def v02(a:j0):Option (Int):=match a with|(p0_0,p0_1,p0_2)=>(l3 (p0_0,p0_1,p0_2)).bind λb=>(if(!b)=true then some (-1)else some (IntKind.i64.wrap ((IntKind.i64.wrap (((p0_2.length:Nat):Int)-p0_1))+1)))
def W02(a:j0):Option (Int):=match a with|(p0_0,p0_1,p0_2)=>(e00 (p0_0,p0_1,p0_2)).bind λb=>(if(!b)=true then some (-1)else some p0_1)
def n00(j:t9):Option (Bool):=match j with|(p0_0,p0_1,p0_2,p0_3,p0_4,(p0_5,p0_6,p0_7),p0_8)=>(c01 p0_1 p0_2).bind λb=>(chk (!(!b)) (E00 p0_1 p0_3) false).bind λc=>(chk (!(bif(bif(!b)then true else(!c))then true else(!decide (p0_5=p0_1)))) (l3 (p0_5,p0_6,p0_7)) false).bind λp=>(if(bif(bif(bif(!b)then true else(!c))then true else(!decide (p0_5=p0_1)))then true else(!p))=true then some false else(if(decide (p0_0=1))=true then(J5 (p0_5,p0_6,p0_7) p0_2).bind λa=>(chk a (V02 (p0_5,p0_6,p0_7)) []).bind λt=>(chk a (r02 t p0_4) []).bind λk=>(chk a (m00 k p0_3) false).bind λl=>some (bif a then l else false)else(if(decide (p0_0=2))=true then(W00 (p0_5,p0_6,p0_7) p0_2).bind λd=>(chk d (t00 (p0_5,p0_6,p0_7) p0_3) false).bind λm=>some (bif d then(!m)else false)else(if(decide (p0_0=3))=true then(J5 (p0_5,p0_6,p0_7) p0_2).bind λe=>(chk e (t00 (p0_5,p0_6,p0_7) p0_3) false).bind λn=>some (bif e then n else false)else(if(decide (p0_0=4))=true then(Q7 p0_3).bind λo=>(d5 (p0_5,p0_6,p0_7) o).bind λq=>match q with|(x32_0,x32_1)=>match x32_0 with|(x32_0_0,x32_0_1,x32_0_2)=>(chk x32_1 (J5 (x32_0_0,x32_0_1,x32_0_2) p0_2) false).bind λs=>some (bif x32_1 then s else false)else(if(decide (p0_0=5))=true then(J5 (p0_5,p0_6,p0_7) p0_2).bind λf=>(chk f (v02 (p0_5,p0_6,p0_7)) 0).bind λg=>(grd (J0 g)).bind λ_=>some (bif(bif f then(decide (g=((p0_2.length:Nat):Int)))else false)then(decide (p0_8=((p0_2.length:Nat):Int)))else false)else(if(decide (p0_0=6))=true then(J5 (p0_5,p0_6,p0_7) p0_2).bind λh=>(chk h (W02 (p0_5,p0_6,p0_7)) 0).bind λi=>(grd (J0 i)).bind λ_=>some (bif(bif h then(decide (i=p0_8))else false)then(decide (p0_8>0))else false)else some false)))))))
def V5(d:C0)(a:U1):Nat->Int->(List C0)->Option ((List C0))
 |0,_,_=>none
 |fuel+1,c,b=>(if(decide (c<((d.length:Nat):Int)))=true then(gi d c).bind λe=>(C6 e 1 ((a.length:Nat):Int)).bind λj=>(if j=true then(gi a (IntKind.i64.wrap (e-1))).bind λf=>(grd ((b.length + [f].length)*24<=140737488355328)).bind λ_=>(V5 d a fuel (IntKind.i64.wrap (c+1)) (b ++ [f]))else(C6 e (IntKind.i64.wrap (0-((a.length:Nat):Int))) (-1)).bind λh=>(if h=true then(gi a (IntKind.i64.wrap ((IntKind.i64.wrap (0-e))-1))).bind λi=>(V8 i).bind λg=>(grd ((b.length + [g].length)*24<=140737488355328)).bind λ_=>(V5 d a fuel (IntKind.i64.wrap (c+1)) (b ++ [g]))else(V5 d a fuel (IntKind.i64.wrap (c+1)) b)))else some (b))
def s02(b:U1)(a:C0):Option (C0):=(j06 a 0 (if 200<((a.length:Nat):Int)then 200 else((a.length:Nat):Int))).bind λc=>(V5 c b Q0 0 ([]:U1)).bind (λe=>(d00 e).bind λd=>some d)
def w01(a:Int)(b:U1):Option (j0×Bool):=(o02 a b).bind λc=>match c with|(x1_0,x1_1)=>match x1_0 with|(x1_0_0,x1_0_1,x1_0_2)=>(if(!x1_1)=true then some ((0,0,[]),false)else(H8 (x1_0_0,x1_0_1,x1_0_2)).bind λd=>match d with|(x6_0,x6_1,x6_2)=>some ((x6_0,x6_1,x6_2),true))
def K5(a:j0)(b:U1):Option (Bool):=match a with|(p0_0,p0_1,p0_2)=>(D6 (p0_0,p0_1,p0_2)).bind λc=>(if(!c)=true then some false else(w01 p0_0 b).bind λd=>match d with|(x3_0,x3_1)=>match x3_0 with|(x3_0_0,x3_0_1,x3_0_2)=>(chk x3_1 (I9 (p0_0,p0_1,p0_2) (x3_0_0,x3_0_1,x3_0_2)) false).bind λe=>some (bif x3_1 then e else false))
def h01(b:j0)(c:C0):Option (Bool):=match b with|(p0_0,p0_1,p0_2)=>(D6 (p0_0,p0_1,p0_2)).bind λa=>(chk a (J8 c) []).bind λd=>(chk a (J9 (p0_0,p0_1,p0_2) d) false).bind λe=>some (bif a then e else false)
def Q04(b:j0)(a:C0):Option (j0×Int×Bool):=match b with|(p0_0,p0_1,p0_2)=>(l00 (p0_0,p0_1,p0_2) 0 a).bind λc=>match c with|(x1_0,x1_1)=>(grd (J0 x1_0)).bind λ_=>(grd (J0 x1_1)).bind λ_=>(if(decide (x1_1=((a.length:Nat):Int)))=true then some ((p0_0,p0_1,p0_2),x1_0,true)else(O01 (p0_0,p0_1,p0_2)).bind λe=>match e with|(x5_0,x5_1)=>match x5_0 with|(x5_0_0,x5_0_1,x5_0_2)=>(if(!x5_1)=true then some ((0,0,[]),0,false)else(j06 a x1_1 (a.length:Int)).bind λf=>(N01 (x5_0_0,x5_0_1,x5_0_2) x1_0 f p0_1).bind λd=>match d with|(x12_0,x12_1)=>match x12_0 with|(x12_0_0,x12_0_1,x12_0_2)=>(if(!x12_1)=true then some ((0,0,[]),0,false)else some ((x12_0_0,x12_0_1,x12_0_2),p0_1,true))))
def i5(c:j0)(a:C0):Option (j0×Bool):=match c with|(p0_0,p0_1,p0_2)=>(D6 (p0_0,p0_1,p0_2)).bind λb=>(chk (!(!b)) (F00 p0_0 a) false).bind λd=>(if(bif(!b)then true else(!d))=true then some ((0,0,[]),false)else(Q04 (p0_0,p0_1,p0_2) a).bind λe=>match e with|(x4_0,x4_1,x4_2)=>match x4_0 with|(x4_0_0,x4_0_1,x4_0_2)=>(grd (J0 x4_1)).bind λ_=>(if(!x4_2)=true then some ((0,0,[]),false)else(o9 (x4_0_0,x4_0_1,x4_0_2) x4_1).bind λf=>match f with|(x9_0,x9_1)=>match x9_0 with|(x9_0_0,x9_0_1,x9_0_2)=>some ((x9_0_0,x9_0_1,x9_0_2),x9_1)))
def w02(a:j0):Option (Int):=match a with|(p0_0,p0_1,p0_2)=>(D6 (p0_0,p0_1,p0_2)).bind λb=>(if(!b)=true then some (-1)else some (IntKind.i64.wrap ((IntKind.i64.wrap (((p0_2.length:Nat):Int)-p0_1))+1)))
def X02(a:j0):Option (Int):=match a with|(p0_0,p0_1,p0_2)=>(f00 (p0_0,p0_1,p0_2)).bind λb=>(if(!b)=true then some (-1)else some p0_1)
def o00(j:t9):Option (Bool):=match j with|(p0_0,p0_1,p0_2,p0_3,p0_4,(p0_5,p0_6,p0_7),p0_8)=>(d01 p0_1 p0_2).bind λb=>(chk (!(!b)) (F00 p0_1 p0_3) false).bind λc=>(chk (!(bif(!b)then true else(!c))) (D6 (p0_5,p0_6,p0_7)) false).bind λp=>(if(bif(bif(bif(!b)then true else(!c))then true else(!p))then true else(!decide (p0_5=p0_1)))=true then some false else(if(decide (p0_0=1))=true then(K5 (p0_5,p0_6,p0_7) p0_2).bind λa=>(chk a (T02 (p0_5,p0_6,p0_7)) []).bind λt=>(chk a (s02 t p0_4) []).bind λk=>(chk a (u01 k p0_3) false).bind λl=>some (bif a then l else false)else(if(decide (p0_0=2))=true then(K9 (p0_5,p0_6,p0_7) p0_2).bind λd=>(chk d (h01 (p0_5,p0_6,p0_7) p0_3) false).bind λm=>some (bif d then(!m)else false)else(if(decide (p0_0=3))=true then(K5 (p0_5,p0_6,p0_7) p0_2).bind λe=>(chk e (h01 (p0_5,p0_6,p0_7) p0_3) false).bind λn=>some (bif e then n else false)else(if(decide (p0_0=4))=true then(V8 p0_3).bind λo=>(i5 (p0_5,p0_6,p0_7) o).bind λq=>match q with|(x32_0,x32_1)=>match x32_0 with|(x32_0_0,x32_0_1,x32_0_2)=>(chk x32_1 (K5 (x32_0_0,x32_0_1,x32_0_2) p0_2) false).bind λs=>some (bif x32_1 then s else false)else(if(decide (p0_0=5))=true then(K5 (p0_5,p0_6,p0_7) p0_2).bind λf=>(chk f (w02 (p0_5,p0_6,p0_7)) 0).bind λg=>(grd (J0 g)).bind λ_=>some (bif(bif f then(decide (g=((p0_2.length:Nat):Int)))else false)then(decide (p0_8=((p0_2.length:Nat):Int)))else false)else(if(decide (p0_0=6))=true then(K5 (p0_5,p0_6,p0_7) p0_2).bind λh=>(chk (bif h then(decide (p0_8>0))else false) (X02 (p0_5,p0_6,p0_7)) 0).bind λi=>(grd (J0 i)).bind λ_=>some (bif(bif h then(decide (p0_8>0))else false)then(decide (i=p0_8))else false)else some false)))))))
def Y4(c:Y00)(b:Int):Nat->Int->(List Int)->Option ((List Int))
 |0,_,_=>none
 |fuel+1,a,d=>(if(decide (a<((c.length:Nat):Int)))=true then(gi c a).bind λe=>match e with|(x7_0,x7_1,x7_2,x7_3,x7_4,(x7_5,x7_6,x7_7),x7_8)=>(chk (!(!decide (x7_1=b))) (gi c a) (0,0,[],[],[],(0,0,[]),0)).bind λf=>match f with|(x8_0,x8_1,x8_2,x8_3,x8_4,(x8_5,x8_6,x8_7),x8_8)=>(chk (!(!decide (x7_1=b))) (n00 (x8_0,x8_1,x8_2,x8_3,x8_4,(x8_5,x8_6,x8_7),x8_8)) false).bind λg=>(if(bif(!decide (x7_1=b))then true else(!g))=true then(grd ((d.length + [a].length)*8<=140737488355328)).bind λ_=>(Y4 c b fuel (IntKind.i64.wrap (a+1)) (d ++ [a]))else(Y4 c b fuel (IntKind.i64.wrap (a+1)) d))else some (d))
def b02(a:A4):Option (C0):=match a with|(p0_0,p0_1)=>(Y4 p0_1 p0_0 Q0 0 ([]:C0)).bind (λb=>some b)
def Z4(c:Y00)(b:Int):Nat->Int->(List Int)->Option ((List Int))
 |0,_,_=>none
 |fuel+1,a,d=>(if(decide (a<((c.length:Nat):Int)))=true then(gi c a).bind λe=>match e with|(x7_0,x7_1,x7_2,x7_3,x7_4,(x7_5,x7_6,x7_7),x7_8)=>(chk (!(!decide (x7_1=b))) (o00 (x7_0,x7_1,x7_2,x7_3,x7_4,(x7_5,x7_6,x7_7),x7_8)) false).bind λf=>(if(bif(!decide (x7_1=b))then true else(!f))=true then(grd ((d.length + [a].length)*8<=140737488355328)).bind λ_=>(Z4 c b fuel (IntKind.i64.wrap (a+1)) (d ++ [a]))else(Z4 c b fuel (IntKind.i64.wrap (a+1)) d))else some (d))
def c02(a:A4):Option (C0):=match a with|(p0_0,p0_1)=>(Z4 p0_1 p0_0 Q0 0 ([]:C0)).bind (λb=>some b)
end Go.Proofs.YtkjhghloldgioaaGreat
