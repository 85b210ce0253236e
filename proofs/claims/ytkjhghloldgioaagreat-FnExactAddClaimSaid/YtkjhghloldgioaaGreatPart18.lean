/- Texts of the claim, joined: What functions of the program compute, in plain words: batch and others. -/
import Derived.Test.YtkjhghloldgioaaGreatPart17
import Derived.Test.YtkjhghloldgioaaGreatH36
namespace Go.Proofs.YtkjhghloldgioaaGreat
open Go.H
set_option linter.unusedVariables false
set_option linter.unusedSimpArgs false
set_option maxRecDepth 10000
def V3(a:Int)(b:Int)(c:Int):Option (Bool):=some (bif(decide (a ≥ b))then(decide (a<=c))else false)
def M9(b:B0)(d:Int):Nat->Int->Option ((Bool) ⊕ (Unit))
 |0,_=>none
 |fuel+1,a=>(if(decide (a<((b.length:Nat):Int)))=true then(gi b a).bind λc=>(chk (!(decide (c=0))) (gi b a) 0).bind λg=>(chk (!(decide (c=0))) (V3 g (IntKind.i64.wrap (0-d)) d) false).bind λe=>(chk ((decide (a>0))&&(!(bif(decide (c=0))then true else(!e)))) (gi b a) 0).bind λh=>(chk ((decide (a>0))&&(!(bif(decide (c=0))then true else(!e)))) (gi b (IntKind.i64.wrap (a-1))) 0).bind λf=>(if(bif(bif(decide (c=0))then true else(!e))then true else(bif(decide (a>0))then(decide (h=(IntKind.i64.wrap (0-f))))else false))=true then some (.inl false)else(M9 b d fuel (IntKind.i64.wrap (a+1))))else some (.inr ()))
def V00(a:Int)(b:B0):Option (Bool):=(M9 b a T0 0).bind λc=>K9 c (λ_=>(V3 a 1 3).bind λd=>some (bif d then(decide (((b.length:Nat):Int)<=24))else false))
def E4(a:Y1):Nat->Int->Int->Option (Int)
 |0,_,_=>none
 |fuel+1,c,b=>(if(decide (b<((a.length:Nat):Int)))=true then(gi a b).bind λd=>(E4 a fuel (IntKind.i64.wrap (c+((d.length:Nat):Int))) (IntKind.i64.wrap (b+1)))else some (c))
def b00(a:Y1):Option (Int):=(E4 a T0 0 0).bind (λb=>some b)
def d8(a:Y1)(c:Int):Nat->Int->Option ((Bool) ⊕ (Unit))
 |0,_=>none
 |fuel+1,b=>(if(decide (b<((a.length:Nat):Int)))=true then(gi a b).bind λd=>(V00 c d).bind λe=>(if(!e)=true then some (.inl false)else(d8 a c fuel (IntKind.i64.wrap (b+1))))else some (.inr ()))
def v01(b:Int)(a:Y1):Option (Bool):=(d8 a b T0 0).bind λe=>K9 e (λ_=>(V3 b 1 3).bind λc=>(chk (bif c then(decide (((a.length:Nat):Int)<=6))else false) (b00 a) 0).bind λd=>(grd (J0 d)).bind λ_=>some (bif(bif c then(decide (((a.length:Nat):Int)<=6))else false)then(decide (d<40))else false))
def o6(a:Int)(b:Int)(c:Int):Option (Bool):=some (bif(decide (a ≥ b))then(decide (a<=c))else false)
def F02(b:Int)(a:Int):Option (Bool):=(chk (!decide (a=0)) (o6 a (IntKind.i64.wrap (0-b)) b) false).bind λc=>some (bif(!decide (a=0))then c else false)
def D00(a:Int)(b:Int):Option (Bool):=some (bif(bif(!decide (a=0))then(!decide (a=(-9223372036854775808)))else false)then(decide (b=(IntKind.i64.wrap (0-a))))else false)
def N9(b:B0)(d:Int):Nat->Int->Option ((Bool) ⊕ (Unit))
 |0,_=>none
 |fuel+1,a=>(if(decide (a<((b.length:Nat):Int)))=true then(gi b a).bind λe=>(F02 d e).bind λc=>(chk ((decide (a>0))&&(!(!c))) (gi b (IntKind.i64.wrap (a-1))) 0).bind λf=>(chk ((decide (a>0))&&(!(!c))) (D00 f e) false).bind λg=>(if(bif(!c)then true else(bif(decide (a>0))then g else false))=true then some (.inl false)else(N9 b d fuel (IntKind.i64.wrap (a+1))))else some (.inr ()))
def W00(a:Int)(b:B0):Option (Bool):=(o6 a 1 3).bind λd=>(if(bif(!d)then true else(decide (((b.length:Nat):Int)>24)))=true then some false else(N9 b a T0 0).bind λc=>K9 c (λ_=>some true))
def n7(a:Y1):Nat->Int->Int->Option (Int)
 |0,_,_=>none
 |fuel+1,c,b=>(if(decide (b<((a.length:Nat):Int)))=true then(gi a b).bind λd=>(n7 a fuel (IntKind.i64.wrap (c+((d.length:Nat):Int))) (IntKind.i64.wrap (b+1)))else some (c))
def k01(a:Y1):Option (Int):=(n7 a T0 0 0).bind (λb=>some b)
def f8(a:Y1)(c:Int):Nat->Int->Option ((Bool) ⊕ (Unit))
 |0,_=>none
 |fuel+1,b=>(if(decide (b<((a.length:Nat):Int)))=true then(gi a b).bind λd=>(W00 c d).bind λe=>(if(!e)=true then some (.inl false)else(f8 a c fuel (IntKind.i64.wrap (b+1))))else some (.inr ()))
def w01(b:Int)(a:Y1):Option (Bool):=(o6 b 1 3).bind λe=>(if(bif(!e)then true else(decide (((a.length:Nat):Int)>6)))=true then some false else(f8 a b T0 0).bind λd=>K9 d (λ_=>(k01 a).bind λc=>(grd (J0 c)).bind λ_=>some (decide (c<40))))
def N8(a:Int)(b:Int):Option (Int):=(if(decide (a<b))=true then some (-1)else(if(decide (a>b))=true then some 1 else some 0))
def V03(c:j0)(d:N0):Option (Bool):=match c with|(p0_0,p0_1,p0_2)=>match d with|(p1_0,p1_1,p1_2)=>(V3 p1_0 0 (IntKind.i64.wrap (p0_1-1))).bind λa=>(chk a (V3 p1_2 0 (IntKind.i64.wrap (p0_1-1))) false).bind λb=>(chk (bif a then b else false) (V3 p1_1 1 p0_0) false).bind λe=>some (bif(bif a then b else false)then e else false)
def B8(b:Int)(c:Int)(d:Int)(e:Int)(f:Int)(g:Int):Nat->Int->Option ((Int) ⊕ (Unit))
 |0,_=>none
 |fuel+1,a=>(if(decide (a<3))=true then(gi [b,c,d] a).bind λi=>(gi [e,f,g] a).bind λj=>(if(decide (i<j))=true then some (.inl (-1))else(gi [b,c,d] a).bind λk=>(gi [e,f,g] a).bind λh=>(if(decide (k>h))=true then some (.inl 1)else(B8 b c d e f g fuel (IntKind.i64.wrap (a+1)))))else some (.inr ()))
def H9(b:N0)(c:N0):Option (Int):=match b with|(p0_0,p0_1,p0_2)=>match c with|(p1_0,p1_1,p1_2)=>(B8 p0_0 p0_1 p0_2 p1_0 p1_1 p1_2 T0 0).bind λa=>K9 a (λ_=>some 0)
def R8(b:K0)(d:Int)(e:Int):Nat->Int->Option ((Bool) ⊕ (Unit))
 |0,_=>none
 |fuel+1,a=>(if(decide (a<((b.length:Nat):Int)))=true then(gi b a).bind λg=>match g with|(x6_0,x6_1,x6_2)=>(V03 (d,e,b) (x6_0,x6_1,x6_2)).bind λc=>(chk ((decide (a>0))&&(!(!c))) (gi b (IntKind.i64.wrap (a-1))) (0,0,0)).bind λh=>match h with|(x8_0,x8_1,x8_2)=>(chk ((decide (a>0))&&(!(!c))) (gi b a) (0,0,0)).bind λi=>match i with|(x9_0,x9_1,x9_2)=>(chk ((decide (a>0))&&(!(!c))) (H9 (x8_0,x8_1,x8_2) (x9_0,x9_1,x9_2)) 0).bind λf=>(grd (J0 f)).bind λ_=>(if(bif(!c)then true else(bif(decide (a>0))then(decide (f ≥ 0))else false))=true then some (.inl false)else(R8 b d e fuel (IntKind.i64.wrap (a+1))))else some (.inr ()))
def a5(c:j0):Option (Bool):=match c with|(p0_0,p0_1,p0_2)=>(R8 p0_2 p0_0 p0_1 T0 0).bind λb=>K9 b (λ_=>(V3 p0_0 1 3).bind λa=>(chk a (V3 p0_1 1 40) false).bind λd=>some (bif(bif a then d else false)then(decide (((p0_2.length:Nat):Int)<=120))else false))
def V4(a:j0)(b:Int):Option (Bool):=match a with|(p0_0,p0_1,p0_2)=>(o6 b 0 (IntKind.i64.wrap (p0_1-1))).bind λc=>some c
def r00(c:j0)(d:N0):Option (Bool):=match c with|(p0_0,p0_1,p0_2)=>match d with|(p1_0,p1_1,p1_2)=>(V4 (p0_0,p0_1,p0_2) p1_0).bind λa=>(chk a (V4 (p0_0,p0_1,p0_2) p1_2) false).bind λb=>(chk (bif a then b else false) (o6 p1_1 1 p0_0) false).bind λe=>some (bif(bif a then b else false)then e else false)
def L00(d:N0)(e:N0):Option (Int):=match d with|(p0_0,p0_1,p0_2)=>match e with|(p1_0,p1_1,p1_2)=>(N8 p0_0 p1_0).bind λa=>(grd (J0 a)).bind λ_=>(if(!decide (a=0))=true then some a else(N8 p0_1 p1_1).bind λb=>(grd (J0 b)).bind λ_=>(if(!decide (b=0))=true then some b else(N8 p0_2 p1_2).bind λc=>(grd (J0 c)).bind λ_=>some c))
def S8(b:K0)(d:Int)(e:Int):Nat->Int->Option ((Bool) ⊕ (Unit))
 |0,_=>none
 |fuel+1,a=>(if(decide (a<((b.length:Nat):Int)))=true then(gi b a).bind λh=>match h with|(x9_0,x9_1,x9_2)=>(r00 (d,e,b) (x9_0,x9_1,x9_2)).bind λc=>(chk ((decide (a>0))&&(!(!c))) (gi b (IntKind.i64.wrap (a-1))) (0,0,0)).bind λg=>match g with|(x11_0,x11_1,x11_2)=>(chk ((decide (a>0))&&(!(!c))) (L00 (x11_0,x11_1,x11_2) (x9_0,x9_1,x9_2)) 0).bind λf=>(grd (J0 f)).bind λ_=>(if(bif(!c)then true else(bif(decide (a>0))then(decide (f ≥ 0))else false))=true then some (.inl false)else(S8 b d e fuel (IntKind.i64.wrap (a+1))))else some (.inr ()))
def H8(c:j0):Option (Bool):=match c with|(p0_0,p0_1,p0_2)=>(o6 p0_0 1 3).bind λa=>(chk (!(!a)) (o6 p0_1 1 40) false).bind λd=>(if(bif(bif(!a)then true else(!d))then true else(decide (((p0_2.length:Nat):Int)>120)))=true then some false else(S8 p0_2 p0_0 p0_1 T0 0).bind λb=>K9 b (λ_=>some true))
def d5(b:B0)(a:Int):Nat->Bool->Int->(List Int)->Option (Bool×(List Int))
 |0,_,_,_=>none
 |fuel+1,e,c,d=>(if(decide (c<((b.length:Nat):Int)))=true then(gi b c).bind λl=>(if(decide (l=a))=true then(gi b c).bind λj=>(if(bif(decide (j>a))then(!true)else false)=true then(grd ((d.length + [a].length)*8<=140737488355328)).bind λ_=>(gi b c).bind λf=>(grd (((d ++ [a]).length + [f].length)*8<=140737488355328)).bind λ_=>(d5 b a fuel true (IntKind.i64.wrap (c+1)) ((d ++ [a]) ++ [f]))else(gi b c).bind λg=>(grd ((d.length + [g].length)*8<=140737488355328)).bind λ_=>(d5 b a fuel true (IntKind.i64.wrap (c+1)) (d ++ [g])))else(gi b c).bind λk=>(if(bif(decide (k>a))then(!e)else false)=true then(grd ((d.length + [a].length)*8<=140737488355328)).bind λ_=>(gi b c).bind λh=>(grd (((d ++ [a]).length + [h].length)*8<=140737488355328)).bind λ_=>(d5 b a fuel true (IntKind.i64.wrap (c+1)) ((d ++ [a]) ++ [h]))else(gi b c).bind λi=>(grd ((d.length + [i].length)*8<=140737488355328)).bind λ_=>(d5 b a fuel e (IntKind.i64.wrap (c+1)) (d ++ [i]))))else some (e,d))
def l00(c:B0)(a:Int):Option (B0):=(d5 c a T0 false 0 ([]:B0)).bind (λb=>match b with|(y35,y36)=>(if(!y35)=true then(grd ((y36.length + [a].length)*8<=140737488355328)).bind λ_=>some (y36 ++ [a])else some y36))
def s00(a:B0)(c:Int):Nat->Int->Option ((Bool) ⊕ (Unit))
 |0,_=>none
 |fuel+1,b=>(if(decide (b<((a.length:Nat):Int)))=true then(gi a b).bind λd=>(if(decide (d=c))=true then some (.inl true)else(s00 a c fuel (IntKind.i64.wrap (b+1))))else some (.inr ()))
def m00(b:B0)(c:Int):Option (Bool):=(s00 b c T0 0).bind λa=>K9 a (λ_=>some false)
def L4(c:K0)(a:Int)(b:Int):Nat->B0->Int->Option (B0)
 |0,_,_=>none
 |fuel+1,e,d=>(if(decide (d<((c.length:Nat):Int)))=true then(gi c d).bind λg=>match g with|(x11_0,x11_1,x11_2)=>(if(bif(bif(decide (a>0))then(decide (x11_1=a))else false)then(decide (x11_0=b))else false)=true then(l00 e x11_2).bind λf=>(if(bif(bif(decide (a<0))then(decide (x11_1=(IntKind.i64.wrap (0-a))))else false)then(decide (x11_2=b))else false)=true then(l00 f x11_0).bind λh=>(L4 c a b fuel h (IntKind.i64.wrap (d+1)))else(L4 c a b fuel f (IntKind.i64.wrap (d+1))))else(if(bif(bif(decide (a<0))then(decide (x11_1=(IntKind.i64.wrap (0-a))))else false)then(decide (x11_2=b))else false)=true then(l00 e x11_0).bind λi=>(L4 c a b fuel i (IntKind.i64.wrap (d+1)))else(L4 c a b fuel e (IntKind.i64.wrap (d+1)))))else some (e))
def f02(a:j0)(b:Int)(c:Int):Option (B0):=match a with|(p0_0,p0_1,p0_2)=>(L4 p0_2 c b T0 ([]:B0) 0).bind (λd=>some d)
def p6(b:j0)(c:Int)(d:Int):Option (Int):=match b with|(p0_0,p0_1,p0_2)=>(f02 (p0_0,p0_1,p0_2) c d).bind λa=>(if(decide (((a.length:Nat):Int)=0))=true then some (-1)else(gi a 0).bind λe=>some e)
def g8(b:Int)(a:K0):Nat->Int->Option ((Bool) ⊕ (Unit))
 |0,_=>none
 |fuel+1,u8=>(if(decide (u8<b))=true then(gi a b).bind λc=>match c with|(x12_0,x12_1,x12_2)=>(gi a u8).bind λd=>match d with|(x13_0,x13_1,x13_2)=>(if(bif(decide (x12_1=x13_1))then(bif(decide (x12_0=x13_0))then true else(decide (x12_2=x13_2)))else false)=true then some (.inl false)else(g8 b a fuel (IntKind.i64.wrap (u8+1))))else some (.inr ()))
def r6(a:K0)(c:Int)(d:Int):Nat->Int->Option ((Bool) ⊕ (Unit))
 |0,_=>none
 |fuel+1,b=>(chk (decide (b<((a.length:Nat):Int))) (a5 (c,d,a)) false).bind λf=>(if(bif(decide (b<((a.length:Nat):Int)))then f else false)=true then(g8 b a T0 0).bind λe=>I0p e (λ_=>(r6 a c d fuel (IntKind.i64.wrap (b+1))))else some (.inr ()))
def J4(b:j0):Option (Bool):=match b with|(p0_0,p0_1,p0_2)=>(r6 p0_2 p0_0 p0_1 T0 0).bind λa=>K9 a (λ_=>(a5 (p0_0,p0_1,p0_2)).bind λc=>some c)
def i8(a:B0)(d:Int)(e:Int)(f:K0):Nat->Int->Int->Option ((Int×Bool) ⊕ (Int))
 |0,_,_=>none
 |fuel+1,g,b=>(if(decide (b<((a.length:Nat):Int)))=true then(gi a b).bind λh=>(p6 (d,e,f) g h).bind λc=>(grd (J0 c)).bind λ_=>(if(decide (c<0))=true then some (.inl ((-1),false))else(i8 a d e f fuel c (IntKind.i64.wrap (b+1))))else some (.inr (g)))
def x01(d:j0)(a:Int)(e:B0):Option (Int×Bool):=match d with|(p0_0,p0_1,p0_2)=>(J4 (p0_0,p0_1,p0_2)).bind λb=>(chk (!(!b)) (V3 a 0 (IntKind.i64.wrap (p0_1-1))) false).bind λf=>(if(bif(!b)then true else(!f))=true then some ((-1),false)else(i8 e p0_0 p0_1 p0_2 T0 a 0).bind λc=>K9 c (λg=>some (g,true)))
def D5(c:K0)(a:Int)(d:Int):Nat->Int->(List Int)->Option ((List Int))
 |0,_,_=>none
 |fuel+1,e,b=>(if(decide (e<((c.length:Nat):Int)))=true then(gi c e).bind λf=>match f with|(x7_0,x7_1,x7_2)=>(if(bif(bif(decide (a>0))then(decide (x7_1=a))else false)then(decide (x7_0=d))else false)=true then(grd ((b.length + [x7_2].length)*8<=140737488355328)).bind λ_=>(D5 c a d fuel (IntKind.i64.wrap (e+1)) (b ++ [x7_2]))else(if(bif(bif(bif(decide (a<0))then(!decide (a=(-9223372036854775808)))else false)then(decide (x7_1=(IntKind.i64.wrap (0-a))))else false)then(decide (x7_2=d))else false)=true then(grd ((b.length + [x7_0].length)*8<=140737488355328)).bind λ_=>(D5 c a d fuel (IntKind.i64.wrap (e+1)) (b ++ [x7_0]))else(D5 c a d fuel (IntKind.i64.wrap (e+1)) b)))else some (b))
def g02(b:j0)(c:Int)(d:Int):Option (B0):=match b with|(p0_0,p0_1,p0_2)=>(D5 p0_2 d c T0 0 ([]:B0)).bind (λa=>(grd (a.length<4611686018427387904)).bind λ_=>some (X04 eqI (Y07 B00 a)))
def j8(b:j0)(c:Int)(d:Int):Option (Int):=match b with|(p0_0,p0_1,p0_2)=>(g02 (p0_0,p0_1,p0_2) c d).bind λa=>(if(decide (((a.length:Nat):Int)=0))=true then some (-1)else(gi a 0).bind λe=>some e)
def l8(b:K0)(d:Int)(c:Int)(e:Int):Nat->Int->Option ((Bool) ⊕ (Unit))
 |0,_=>none
 |fuel+1,a=>(if(decide (a<((b.length:Nat):Int)))=true then(gi b a).bind λf=>match f with|(x15_0,x15_1,x15_2)=>(if(bif(decide (d=x15_1))then(bif(decide (c=x15_0))then true else(decide (e=x15_2)))else false)=true then some (.inl false)else(l8 b d c e fuel (IntKind.i64.wrap (a+1))))else some (.inr ()))
def n8(a:K0):Nat->Int->Option ((Bool) ⊕ (Unit))
 |0,_=>none
 |fuel+1,b=>(if(decide (b<((a.length:Nat):Int)))=true then(gi a b).bind λd=>match d with|(x8_0,x8_1,x8_2)=>(S06 a (IntKind.i64.wrap (b+1)) (a.length:Int)).bind λe=>(l8 e x8_1 x8_0 x8_2 T0 0).bind λc=>I0p c (λ_=>(n8 a fuel (IntKind.i64.wrap (b+1))))else some (.inr ()))
def E7(b:j0):Option (Bool):=match b with|(p0_0,p0_1,p0_2)=>(H8 (p0_0,p0_1,p0_2)).bind λc=>(if(!c)=true then some false else(n8 p0_2 T0 0).bind λa=>K9 a (λ_=>some true))
def U6(b:B0)(e:Int)(f:Int)(g:K0):Nat->Int->Int->Option ((Int×Int) ⊕ (Int))
 |0,_,_=>none
 |fuel+1,c,a=>(if(decide (a<((b.length:Nat):Int)))=true then(gi b a).bind λh=>(j8 (e,f,g) c h).bind λd=>(grd (J0 d)).bind λ_=>(if(decide (d<0))=true then some (.inl (c,a))else(U6 b e f g fuel d (IntKind.i64.wrap (a+1))))else some (.inr (c)))
def E00(c:j0)(d:Int)(a:B0):Option (Int×Int):=match c with|(p0_0,p0_1,p0_2)=>(U6 a p0_0 p0_1 p0_2 T0 d 0).bind λb=>K9 b (λe=>some (e,((a.length:Nat):Int)))
def Q4(a:j0):Option (j0):=match a with|(p0_0,p0_1,p0_2)=>(grd ((([]:K0).length+p0_2.length)*24<=140737488355328)).bind λ_=>some (p0_0,p0_1,(([]:K0)++p0_2))
def i5(e:K0)(a:Int)(b:Int)(c:Int):Nat->Bool->Int->(List N0)->Option (Bool×(List N0))
 |0,_,_,_=>none
 |fuel+1,h,f,d=>(if(decide (f<((e.length:Nat):Int)))=true then(gi e f).bind λm=>match m with|(x8_0,x8_1,x8_2)=>(H9 (a,b,c) (x8_0,x8_1,x8_2)).bind λg=>(grd (J0 g)).bind λ_=>(if(decide (g=0))=true then(if(bif(decide (g<0))then(!true)else false)=true then(grd ((d.length+([(a,b,c)]).length)*24<=140737488355328)).bind λ_=>(gi e f).bind λi=>match i with|(x14_0,x14_1,x14_2)=>(grd (((d ++ [(a,b,c)]).length+([(x14_0,x14_1,x14_2)]).length)*24<=140737488355328)).bind λ_=>(i5 e a b c fuel true (IntKind.i64.wrap (f+1)) ((d ++ [(a,b,c)]) ++ [(x14_0,x14_1,x14_2)]))else(gi e f).bind λj=>match j with|(x16_0,x16_1,x16_2)=>(grd ((d.length+([(x16_0,x16_1,x16_2)]).length)*24<=140737488355328)).bind λ_=>(i5 e a b c fuel true (IntKind.i64.wrap (f+1)) (d ++ [(x16_0,x16_1,x16_2)])))else(if(bif(decide (g<0))then(!h)else false)=true then(grd ((d.length+([(a,b,c)]).length)*24<=140737488355328)).bind λ_=>(gi e f).bind λk=>match k with|(x20_0,x20_1,x20_2)=>(grd (((d ++ [(a,b,c)]).length+([(x20_0,x20_1,x20_2)]).length)*24<=140737488355328)).bind λ_=>(i5 e a b c fuel true (IntKind.i64.wrap (f+1)) ((d ++ [(a,b,c)]) ++ [(x20_0,x20_1,x20_2)]))else(gi e f).bind λl=>match l with|(x22_0,x22_1,x22_2)=>(grd ((d.length+([(x22_0,x22_1,x22_2)]).length)*24<=140737488355328)).bind λ_=>(i5 e a b c fuel h (IntKind.i64.wrap (f+1)) (d ++ [(x22_0,x22_1,x22_2)]))))else some (h,d))
def L8(b:K0)(c:N0):Option (K0):=match c with|(p1_0,p1_1,p1_2)=>(i5 b p1_0 p1_1 p1_2 T0 false 0 ([]:K0)).bind (λa=>match a with|(y35,y36)=>(if(!y35)=true then(grd ((y36.length+([(p1_0,p1_1,p1_2)]).length)*24<=140737488355328)).bind λ_=>some (y36 ++ [(p1_0,p1_1,p1_2)])else some y36))
def Z3(a:K0)(c:Int):Nat->Int->Int->Option (Int)
 |0,_,_=>none
 |fuel+1,d,b=>(if(decide (b<((a.length:Nat):Int)))=true then(gi a b).bind λf=>match f with|(x7_0,x7_1,x7_2)=>(if(decide (x7_0=c))=true then(gi a b).bind λg=>match g with|(x9_0,x9_1,x9_2)=>(if(decide (x9_2=c))=true then(Z3 a c fuel (IntKind.i64.wrap ((IntKind.i64.wrap (d+1))+1)) (IntKind.i64.wrap (b+1)))else(Z3 a c fuel (IntKind.i64.wrap (d+1)) (IntKind.i64.wrap (b+1))))else(gi a b).bind λe=>match e with|(x11_0,x11_1,x11_2)=>(if(decide (x11_2=c))=true then(Z3 a c fuel (IntKind.i64.wrap (d+1)) (IntKind.i64.wrap (b+1)))else(Z3 a c fuel d (IntKind.i64.wrap (b+1)))))else some (d))
def y01(a:j0)(b:Int):Option (Int):=match a with|(p0_0,p0_1,p0_2)=>(Z3 p0_2 b T0 0 0).bind (λc=>some c)
def o7(b:K0)(c:K0):Nat->Int->Option ((Bool) ⊕ (Unit))
 |0,_=>none
 |fuel+1,a=>(if(decide (a<((b.length:Nat):Int)))=true then(gi b a).bind λd=>match d with|(x7_0,x7_1,x7_2)=>(gi c a).bind λe=>match e with|(x8_0,x8_1,x8_2)=>(if(!eqE (x7_0,x7_1,x7_2) (x8_0,x8_1,x8_2))=true then some (.inl false)else(o7 b c fuel (IntKind.i64.wrap (a+1))))else some (.inr ()))
def c00(b:j0)(c:j0):Option (Bool):=match b with|(p0_0,p0_1,p0_2)=>match c with|(p1_0,p1_1,p1_2)=>(if(bif(bif(!decide (p0_0=p1_0))then true else(!decide (p0_1=p1_1)))then true else(!decide (((p0_2.length:Nat):Int)=((p1_2.length:Nat):Int))))=true then some false else(o7 p0_2 p1_2 T0 0).bind λa=>K9 a (λ_=>some true))
def Y3(a:K0):Nat->B0->Int->Option (B0)
 |0,_,_=>none
 |fuel+1,b,c=>(if(decide (c<((a.length:Nat):Int)))=true then(gi a c).bind λe=>match e with|(x24_0,x24_1,x24_2)=>(m00 b x24_0).bind λf=>(if f=true then(l00 b x24_2).bind λd=>(m00 d x24_2).bind λg=>(if g=true then(l00 d x24_0).bind λh=>(Y3 a fuel h (IntKind.i64.wrap (c+1)))else(Y3 a fuel d (IntKind.i64.wrap (c+1))))else(m00 b x24_2).bind λi=>(if i=true then(l00 b x24_0).bind λj=>(Y3 a fuel j (IntKind.i64.wrap (c+1)))else(Y3 a fuel b (IntKind.i64.wrap (c+1)))))else some (b))
def D6(a:K0):Nat->B0->Int->Option (B0)
 |0,_,_=>none
 |fuel+1,b,c=>(if(decide (c<(IntKind.i64.wrap (((a.length:Nat):Int)+1))))=true then(Y3 a T0 b 0).bind (λd=>(D6 a fuel d (IntKind.i64.wrap (c+1))))else some (b))
def l01(c:j0)(a:Int):Option (B0):=match c with|(p0_0,p0_1,p0_2)=>(a5 (p0_0,p0_1,p0_2)).bind λb=>(chk (!(!b)) (V3 a 0 (IntKind.i64.wrap (p0_1-1))) false).bind λd=>(if(bif(!b)then true else(!d))=true then some ([]:B0)else(D6 p0_2 T0 [a] 0).bind (λe=>some e))
def O9(b:Int)(d:Int)(e:K0)(f:B0):Nat->Int->Option ((Int) ⊕ (Unit))
 |0,_=>none
 |fuel+1,a=>(if(decide (a<b))=true then(y01 (d,b,e) a).bind λc=>(grd (J0 c)).bind λ_=>(chk (!(decide (c<2))) (m00 f a) false).bind λg=>(if(bif(decide (c<2))then true else(!g))=true then some (.inl a)else(O9 b d e f fuel (IntKind.i64.wrap (a+1))))else some (.inr ()))
def U02(b:j0):Option (Int):=match b with|(p0_0,p0_1,p0_2)=>(l01 (p0_0,p0_1,p0_2) 0).bind λc=>(O9 p0_1 p0_0 p0_2 c T0 1).bind λa=>K9 a (λ_=>some (-1))
def C4(b:K0)(a:(List Int)):Nat->Int->Int->Int->K0->Option (Int×Int×K0)
 |0,_,_,_,_=>none
 |fuel+1,c,d,e,f=>(if(decide (c<((b.length:Nat):Int)))=true then(gi b c).bind λh=>match h with|(x31_0,x31_1,x31_2)=>(gi a x31_0).bind λg=>(chk (decide (g>0)) (gi a x31_2) 0).bind λi=>(if(bif(decide (g>0))then(decide (i>0))else false)=true then(gi a x31_0).bind λj=>(gi a x31_2).bind λk=>(L8 f ((IntKind.i64.wrap (j-1)),x31_1,(IntKind.i64.wrap (k-1)))).bind λl=>(C4 b a fuel (IntKind.i64.wrap (c+1)) d e l)else(C4 b a fuel (IntKind.i64.wrap (c+1)) d e f))else some (d,e,f))
def j5(a:B0)(c:Int)(e:Int)(f:K0):Nat->Int->(List Int)->Option ((j0×Bool) ⊕ ((List Int)))
 |0,_,_=>none
 |fuel+1,u8,b=>(if(decide (u8<((a.length:Nat):Int)))=true then(gi a u8).bind λh=>(V3 h 0 (IntKind.i64.wrap (c-1))).bind λd=>(chk (!(!d)) (gi a u8) 0).bind λi=>(chk (!(!d)) (gi b i) 0).bind λj=>(if(bif(!d)then true else(!decide (j=0)))=true then(Q4 (e,c,f)).bind λk=>match k with|(x18_0,x18_1,x18_2)=>some (.inl ((x18_0,x18_1,x18_2),false))else(gi a u8).bind λg=>(gi b g).bind λl=>(j5 a c e f fuel (IntKind.i64.wrap (u8+1)) (b.set g.toNat (IntKind.i64.wrap (u8+1)))))else some (.inr (b)))
def p7(d:j0)(a:B0):Option (j0×Bool):=match d with|(p0_0,p0_1,p0_2)=>(a5 (p0_0,p0_1,p0_2)).bind λe=>(if(bif(bif(!e)then true else(decide (((a.length:Nat):Int)=0)))then true else(decide (((a.length:Nat):Int)>p0_1)))=true then(Q4 (p0_0,p0_1,p0_2)).bind λf=>match f with|(x3_0,x3_1,x3_2)=>some ((x3_0,x3_1,x3_2),false)else(grd ((0:Int)<=p0_1/\p0_1<=p0_1/\p0_1*8<=140737488355328/\p0_1<=9223372036854775807)).bind λ_=>(j5 a p0_1 p0_0 p0_2 T0 0 (List.replicate p0_1.toNat (0:Int))).bind λc=>K9 c (λg=>(C4 p0_2 g T0 0 p0_0 ((a.length:Nat):Int) ([]:K0)).bind (λb=>match b with|(y94,y95,y96)=>some ((y94,y95,y96),true))))
def r7(c:Int):Nat->Int->(List Int)->Option ((List Int))
 |0,_,_=>none
 |fuel+1,a,b=>(if(decide (a<=c))=true then(grd ((b.length + [a].length)*8<=140737488355328)).bind λ_=>(grd (((b ++ [a]).length+([(IntKind.i64.wrap (0-a))]).length)*8<=140737488355328)).bind λ_=>(r7 c fuel (IntKind.i64.wrap (a+1)) ((b ++ [a]) ++ [(IntKind.i64.wrap (0-a))]))else some (b))
def M7(a:Int):Option (B0):=(r7 a T0 1 ([]:B0)).bind (λb=>some b)
def d4(d:B0)(h:Int)(e:Int)(f:Int)(g:K0):Nat->Int->(List Int)->Option ((List Int))
 |0,_,_=>none
 |fuel+1,c,a=>(if(decide (c<((d.length:Nat):Int)))=true then(gi a h).bind λi=>(gi d c).bind λj=>(p6 (e,f,g) i j).bind λb=>(grd (J0 b)).bind λ_=>(chk (decide (b ≥ 0)) (m00 a b) false).bind λk=>(if(bif(decide (b ≥ 0))then(!k)else false)=true then(grd ((a.length + [b].length)*8<=140737488355328)).bind λ_=>(d4 d h e f g fuel (IntKind.i64.wrap (c+1)) (a ++ [b]))else(d4 d h e f g fuel (IntKind.i64.wrap (c+1)) a))else some (a))
def i6(g:B0)(d:Int)(e:Int)(f:K0):Nat->Int->(List Int)->Option ((List Int))
 |0,_,_=>none
 |fuel+1,a,b=>(some b.length).bind λc=>(grd (c<=9223372036854775807)).bind λ_=>(if(decide (a<((c:Nat):Int)))=true then(d4 g a d e f T0 0 b).bind (λh=>(i6 g d e f fuel (IntKind.i64.wrap (a+1)) h))else some (b))
def V9(a:j0):Option (B0):=match a with|(p0_0,p0_1,p0_2)=>(J4 (p0_0,p0_1,p0_2)).bind λb=>(if(!b)=true then some ([]:B0)else(M7 p0_0).bind λc=>(i6 c p0_0 p0_1 p0_2 T0 0 [0]).bind (λd=>some d))
def C8(b:j0):Option (j0):=match b with|(p0_0,p0_1,p0_2)=>(V9 (p0_0,p0_1,p0_2)).bind λa=>(if(decide (((a.length:Nat):Int)=0))=true then(Q4 (p0_0,p0_1,p0_2)).bind λc=>match c with|(x5_0,x5_1,x5_2)=>some (x5_0,x5_1,x5_2)else(p7 (p0_0,p0_1,p0_2) a).bind λd=>match d with|(x8_0,x8_1)=>match x8_0 with|(x8_0_0,x8_0_1,x8_0_2)=>some (x8_0_0,x8_0_1,x8_0_2))
def X01(c:j0):Option (Bool):=match c with|(p0_0,p0_1,p0_2)=>(J4 (p0_0,p0_1,p0_2)).bind λa=>(chk a (U02 (p0_0,p0_1,p0_2)) 0).bind λb=>(grd (J0 b)).bind λf=>(chk (bif a then(decide (b<0))else false) (C8 (p0_0,p0_1,p0_2)) (0,0,[])).bind λd=>match d with|(x10_0,x10_1,x10_2)=>(chk (bif a then(decide (b<0))else false) (c00 (x10_0,x10_1,x10_2) (p0_0,p0_1,p0_2)) false).bind λe=>some (bif(bif a then(decide (b<0))else false)then e else false)
def L3(a:j0):Option (Bool):=match a with|(p0_0,p0_1,p0_2)=>(X01 (p0_0,p0_1,p0_2)).bind λb=>some b
def H4(a:j0):Option (j0):=match a with|(p0_0,p0_1,p0_2)=>(grd ((([]:K0).length+p0_2.length)*24<=140737488355328)).bind λ_=>some (p0_0,p0_1,(([]:K0)++p0_2))
def t6(b:K0)(a:Int):Nat->Int->Int->Option (Int)
 |0,_,_=>none
 |fuel+1,d,c=>(if(decide (c<((b.length:Nat):Int)))=true then(gi b c).bind λe=>match e with|(x7_0,x7_1,x7_2)=>(if(decide (x7_0=a))=true then(if(decide (x7_2=a))=true then(t6 b a fuel (IntKind.i64.wrap ((IntKind.i64.wrap (d+1))+1)) (IntKind.i64.wrap (c+1)))else(t6 b a fuel (IntKind.i64.wrap (d+1)) (IntKind.i64.wrap (c+1))))else(if(decide (x7_2=a))=true then(t6 b a fuel (IntKind.i64.wrap (d+1)) (IntKind.i64.wrap (c+1)))else(t6 b a fuel d (IntKind.i64.wrap (c+1)))))else some (d))
def G02(a:j0)(b:Int):Option (Int):=match a with|(p0_0,p0_1,p0_2)=>(t6 p0_2 b T0 0 0).bind (λc=>some c)
def T1(b:K0)(c:K0):Nat->Int->Option ((Bool) ⊕ (Unit))
 |0,_=>none
 |fuel+1,a=>(if(decide (a<((b.length:Nat):Int)))=true then(gi b a).bind λd=>match d with|(x7_0,x7_1,x7_2)=>(gi c a).bind λe=>match e with|(x8_0,x8_1,x8_2)=>(if(!eqE (x7_0,x7_1,x7_2) (x8_0,x8_1,x8_2))=true then some (.inl false)else(T1 b c fuel (IntKind.i64.wrap (a+1))))else some (.inr ()))
def E3(a:K0)(b:K0):Option (Bool):=(if(!decide (((a.length:Nat):Int)=((b.length:Nat):Int)))=true then some false else(T1 a b T0 0).bind λc=>K9 c (λ_=>some true))
def d00(a:j0)(b:j0):Option (Bool):=match a with|(p0_0,p0_1,p0_2)=>match b with|(p1_0,p1_1,p1_2)=>(chk (bif(decide (p0_0=p1_0))then(decide (p0_1=p1_1))else false) (E3 p0_2 p1_2) false).bind λc=>some (bif(bif(decide (p0_0=p1_0))then(decide (p0_1=p1_1))else false)then c else false)
def O4(b:K0):Nat->Bool->Int->(List Bool)->Option (Bool×(List Bool))
 |0,_,_,_=>none
 |fuel+1,d,c,a=>(if(decide (c<((b.length:Nat):Int)))=true then(gi b c).bind λe=>match e with|(x16_0,x16_1,x16_2)=>(gi a x16_0).bind λf=>(gi a x16_2).bind λg=>(if(!(f == g))=true then(gi a x16_0).bind λh=>(gi (a.set x16_0.toNat true) x16_2).bind λi=>(O4 b fuel true (IntKind.i64.wrap (c+1)) ((a.set x16_0.toNat true).set x16_2.toNat true))else(O4 b fuel d (IntKind.i64.wrap (c+1)) a))else some (d,a))
def O5(a:K0):Nat->Bool->(List Bool)->Option ((List Bool))
 |0,_,_=>none
 |fuel+1,d,b=>(if d=true then(O4 a T0 false 0 b).bind (λc=>match c with|(y23,y24)=>(O5 a fuel y23 y24))else some (b))
def M00(b:j0)(a:Int):Option ((List Bool)):=match b with|(p0_0,p0_1,p0_2)=>(grd ((0:Int)<=p0_1/\p0_1<=p0_1/\p0_1*1<=140737488355328/\p0_1<=9223372036854775807)).bind λ_=>(gi (List.replicate p0_1.toNat (false:Bool)) a).bind λd=>(O5 p0_2 T0 true ((List.replicate p0_1.toNat (false:Bool)).set a.toNat true)).bind (λc=>some c)
def T8(c:Int):Nat->Int->(List Int)->Option ((List Int))
 |0,_,_=>none
 |fuel+1,a,b=>(if(decide (a<=c))=true then(grd ((b.length+([a,(IntKind.i64.wrap (0-a))]).length)*8<=140737488355328)).bind λ_=>(T8 c fuel (IntKind.i64.wrap (a+1)) (b ++ [a,(IntKind.i64.wrap (0-a))]))else some (b))
def t00(a:Int):Option (B0):=(T8 a T0 1 ([]:B0)).bind (λb=>some b)
def X00(a:K0):Option (K0):=(grd ((([]:K0).length+a.length)*24<=140737488355328)).bind λ_=>(grd ((([]:K0)++a).length<4611686018427387904)).bind λ_=>some (X04 eqE (Y07 S0 (([]:K0)++a)))
def n00(b:K0)(a:(List Int)):Nat->Int->Int->Int->(List N0)->Option (Int×Int×(List N0))
 |0,_,_,_,_=>none
 |fuel+1,c,e,f,d=>(if(decide (c<((b.length:Nat):Int)))=true then(gi b c).bind λj=>match j with|(x27_0,x27_1,x27_2)=>(gi a x27_0).bind λg=>(chk (decide (g ≥ 0)) (gi a x27_2) 0).bind λk=>(if(bif(decide (g ≥ 0))then(decide (k ≥ 0))else false)=true then(gi a x27_0).bind λh=>(gi a x27_2).bind λi=>(grd ((d.length+([(h,x27_1,i)]).length)*24<=140737488355328)).bind λ_=>(n00 b a fuel (IntKind.i64.wrap (c+1)) e f (d ++ [(h,x27_1,i)]))else(n00 b a fuel (IntKind.i64.wrap (c+1)) e f d))else some (e,f,d))
def Y00(b:B0):Nat->Int->(List Int)->Option ((List Int))
 |0,_,_=>none
 |fuel+1,a,c=>(if(decide (a<((b.length:Nat):Int)))=true then(gi b a).bind λd=>(gi c d).bind λe=>(Y00 b fuel (IntKind.i64.wrap (a+1)) (c.set d.toNat a))else some (c))
def Z00(c:Nat):Nat->Int->(List Int)->Option ((List Int))
 |0,_,_=>none
 |fuel+1,a,b=>(if(decide (a<((c:Nat):Int)))=true then(gi b a).bind λd=>(Z00 c fuel (IntKind.i64.wrap (a+1)) (b.set a.toNat (-1)))else some (b))
def l03(d:j0)(b:B0):Option (j0):=match d with|(p0_0,p0_1,p0_2)=>(grd ((0:Int)<=p0_1/\p0_1<=p0_1/\p0_1*8<=140737488355328/\p0_1<=9223372036854775807)).bind λ_=>(some (List.replicate p0_1.toNat (0:Int)).length).bind λa=>(grd (a<=9223372036854775807)).bind λ_=>(Z00 a T0 0 (List.replicate p0_1.toNat (0:Int))).bind (λf=>(Y00 b T0 0 f).bind (λg=>(n00 p0_2 g T0 0 p0_0 ((b.length:Nat):Int) ([]:K0)).bind (λc=>match c with|(y203,y204,y205)=>(X00 y205).bind λe=>some (y203,y204,e))))
def H7(a:B0):Option (B0):=(grd ((([]:B0).length+a.length)*8<=140737488355328)).bind λ_=>some (([]:B0)++a)
def S3(f:B0)(g:Int)(h:Int)(i:K0)(e:Int):Nat->Int->(List (Option B0))->(List Int)->Option ((List (Option B0))×(List Int))
 |0,_,_,_=>none
 |fuel+1,c,b,d=>(if(decide (c<((f.length:Nat):Int)))=true then(gi f c).bind λj=>(j8 (g,h,i) e j).bind λa=>(grd (J0 a)).bind λ_=>(chk (decide (a ≥ 0)) (gi b a) (none:Option B0)).bind λl=>(if(bif(decide (a ≥ 0))then l.isNone else false)=true then(gi b e).bind λm=>(H7 (m.getD [])).bind λk=>(grd ((k.length + [j].length)*8<=140737488355328)).bind λ_=>(gi b a).bind λn=>(grd ((d.length + [a].length)*8<=140737488355328)).bind λ_=>(S3 f g h i e fuel (IntKind.i64.wrap (c+1)) (b.set a.toNat (some (k ++ [j]))) (d ++ [a]))else(S3 f g h i e fuel (IntKind.i64.wrap (c+1)) b d))else some (b,d))
def T5(b:Int)(d:Int)(e:K0):Nat->Int->(List (Option B0))->(List Int)->Option ((List (Option B0))×(List Int))
 |0,_,_,_=>none
 |fuel+1,u8,f,a=>(some a.length).bind λc=>(grd (c<=9223372036854775807)).bind λ_=>(if(decide (u8<((c:Nat):Int)))=true then(gi a u8).bind λh=>(t00 b).bind λi=>(S3 i b d e h T0 0 f a).bind (λg=>match g with|(y41,y42)=>(T5 b d e fuel (IntKind.i64.wrap (u8+1)) y41 y42))else some (f,a))
def o8(c:j0)(a:Int):Option (B0×Y1):=match c with|(p0_0,p0_1,p0_2)=>(grd ((0:Int)<=p0_1/\p0_1<=p0_1/\p0_1*24<=140737488355328/\p0_1<=9223372036854775807)).bind λ_=>(gi (List.replicate p0_1.toNat (none:Option B0)) a).bind λd=>(T5 p0_0 p0_1 p0_2 T0 0 ((List.replicate p0_1.toNat (none:Option B0)).set a.toNat (some ([]:B0))) [a]).bind (λb=>match b with|(y54,y55)=>some (y55,(List.map (λo:Option B0=>o.getD ([]:B0)) y54)))
def Y9(a:j0):Option (B0):=match a with|(p0_0,p0_1,p0_2)=>(E7 (p0_0,p0_1,p0_2)).bind λb=>(if(!b)=true then some ([]:B0)else(o8 (p0_0,p0_1,p0_2) 0).bind λc=>match c with|(x7_0,x7_1)=>some x7_0)
def D8(a:j0):Option (j0):=match a with|(p0_0,p0_1,p0_2)=>(E7 (p0_0,p0_1,p0_2)).bind λb=>(if(!b)=true then(H4 (p0_0,p0_1,p0_2)).bind λd=>match d with|(x3_0,x3_1,x3_2)=>some (x3_0,x3_1,x3_2)else(Y9 (p0_0,p0_1,p0_2)).bind λe=>(l03 (p0_0,p0_1,p0_2) e).bind λc=>match c with|(x10_0,x10_1,x10_2)=>some (x10_0,x10_1,x10_2))
def J6(c:Int)(d:Int):Nat->Int->(List Int)->Option ((List Int))
 |0,_,_=>none
 |fuel+1,a,b=>(if(decide (a<c))=true then(if(!decide (a=d))=true then(grd ((b.length + [a].length)*8<=140737488355328)).bind λ_=>(J6 c d fuel (IntKind.i64.wrap (a+1)) (b ++ [a]))else(J6 c d fuel (IntKind.i64.wrap (a+1)) b))else some (b))
def M4(b:Int)(c:Int)(d:K0)(f:(List Bool)):Nat->Int->Int->Option (Int)
 |0,_,_=>none
 |fuel+1,e,a=>(if(bif(decide (a<b))then(decide (e=0))else false)=true then(G02 (c,b,d) a).bind λg=>(grd (J0 g)).bind λ_=>(chk (!(decide (g<2))) (gi f a) false).bind λh=>(if(bif(decide (g<2))then true else(!h))=true then(M4 b c d f fuel a (IntKind.i64.wrap (a+1)))else(M4 b c d f fuel e (IntKind.i64.wrap (a+1))))else some (e))
def K6:Nat->B0->Int->Int->K0->Option ((j0×B0) ⊕ (Int×Int×K0))
 |0,_,_,_,_=>none
 |fuel+1,b,c,a,d=>(M00 (c,a,d) 0).bind λi=>(M4 a c d i T0 0 1).bind (λe=>(if(decide (e=0))=true then some (.inl ((c,a,d),b))else(J6 a e T0 0 ([]:B0)).bind (λj=>(l03 (c,a,d) j).bind λh=>match h with|(x117_0,x117_1,x117_2)=>(S06 b 0 e).bind λf=>(S06 b (IntKind.i64.wrap (e+1)) (b.length:Int)).bind λg=>(grd ((f.length+g.length)*8<=140737488355328)).bind λ_=>(K6 fuel (f++g) x117_0 x117_1 x117_2))))
def t7(c:Int):Nat->Int->(List Int)->Option ((List Int))
 |0,_,_=>none
 |fuel+1,a,b=>(if(decide (a<c))=true then(grd ((b.length + [a].length)*8<=140737488355328)).bind λ_=>(t7 c fuel (IntKind.i64.wrap (a+1)) (b ++ [a]))else some (b))
def U8(b:j0):Option (j0×B0):=match b with|(p0_0,p0_1,p0_2)=>(H4 (p0_0,p0_1,p0_2)).bind λc=>match c with|(x1_0,x1_1,x1_2)=>(H8 (p0_0,p0_1,p0_2)).bind λd=>(if(!d)=true then some ((x1_0,x1_1,x1_2),([]:B0))else(t7 p0_1 T0 0 ([]:B0)).bind (λe=>(K6 T0 e x1_0 x1_1 x1_2).bind λa=>K9 a (λ_=>none)))
def R6(a:j0):Option (Bool):=match a with|(p0_0,p0_1,p0_2)=>(E7 (p0_0,p0_1,p0_2)).bind λb=>(if(!b)=true then some false else(U8 (p0_0,p0_1,p0_2)).bind λd=>match d with|(x3_0,x3_1)=>match x3_0 with|(x3_0_0,x3_0_1,x3_0_2)=>(chk (decide (x3_0_1=p0_1)) (D8 (p0_0,p0_1,p0_2)) (0,0,[])).bind λe=>match e with|(x8_0,x8_1,x8_2)=>(chk (decide (x3_0_1=p0_1)) (d00 (x8_0,x8_1,x8_2) (p0_0,p0_1,p0_2)) false).bind λc=>some (bif(decide (x3_0_1=p0_1))then c else false))
def H02(a:Int):Option (j0×Bool):=(V3 a 1 3).bind λb=>(if(!b)=true then some ((0,0,[]),false)else some ((a,1,[]),true))
def j6(a:B0)(d:Int):Nat->Int->Int->Int->Int->K0->Option (Int×Int×K0)
 |0,_,_,_,_,_=>none
 |fuel+1,g,b,e,c,f=>(if(decide (b<((a.length:Nat):Int)))=true then(if(decide ((IntKind.i64.wrap (b+1))<((a.length:Nat):Int)))=true then(gi a b).bind λh=>(if(decide (h>0))=true then(gi a b).bind λi=>(L8 f (g,i,c)).bind λj=>(j6 a d fuel c (IntKind.i64.wrap (b+1)) e (IntKind.i64.wrap (c+1)) j)else(gi a b).bind λk=>(L8 f (c,(IntKind.i64.wrap (0-k)),g)).bind λl=>(j6 a d fuel c (IntKind.i64.wrap (b+1)) e (IntKind.i64.wrap (c+1)) l))else(gi a b).bind λm=>(if(decide (m>0))=true then(gi a b).bind λn=>(L8 f (g,n,d)).bind λo=>(j6 a d fuel d (IntKind.i64.wrap (b+1)) e c o)else(gi a b).bind λp=>(L8 f (d,(IntKind.i64.wrap (0-p)),g)).bind λq=>(j6 a d fuel d (IntKind.i64.wrap (b+1)) e c q)))else some (e,c,f))
def j02(h:j0)(d:Int)(a:B0)(e:Int):Option (j0×Bool):=match h with|(p0_0,p0_1,p0_2)=>(Q4 (p0_0,p0_1,p0_2)).bind λi=>match i with|(x1_0,x1_1,x1_2)=>(a5 (p0_0,p0_1,p0_2)).bind λb=>(chk (!(!b)) (V3 d 0 (IntKind.i64.wrap (p0_1-1))) false).bind λc=>(chk (!(bif(!b)then true else(!c))) (V3 e 0 (IntKind.i64.wrap (p0_1-1))) false).bind λf=>(chk (!(bif(bif(!b)then true else(!c))then true else(!f))) (V00 p0_0 a) false).bind λj=>(if(bif(bif(bif(bif(bif(bif(!b)then true else(!c))then true else(!f))then true else(!j))then true else(decide (((a.length:Nat):Int)=0)))then true else(decide ((IntKind.i64.wrap ((IntKind.i64.wrap (p0_1+((a.length:Nat):Int)))-1))>40)))then true else(decide ((IntKind.i64.wrap (((p0_2.length:Nat):Int)+((a.length:Nat):Int)))>120)))=true then some ((x1_0,x1_1,x1_2),false)else(j6 a e T0 d 0 x1_0 x1_1 x1_2).bind (λg=>match g with|(y68,y69,y70)=>some ((y68,y69,y70),true)))
def I02(a:j0)(b:B0):Option (j0×Bool):=match a with|(p0_0,p0_1,p0_2)=>(j02 (p0_0,p0_1,p0_2) 0 b 0).bind λc=>match c with|(x1_0,x1_1)=>match x1_0 with|(x1_0_0,x1_0_1,x1_0_2)=>some ((x1_0_0,x1_0_1,x1_0_2),x1_1)
def p8(a:Y1):Nat->Int->Int->Int->K0->Option (Int×Int×K0)
 |0,_,_,_,_=>none
 |fuel+1,b,u8,d,c=>(if(decide (b<((a.length:Nat):Int)))=true then(gi a b).bind λe=>(I02 (u8,d,c) e).bind λf=>match f with|(x19_0,x19_1)=>match x19_0 with|(x19_0_0,x19_0_1,x19_0_2)=>(p8 a fuel (IntKind.i64.wrap (b+1)) x19_0_0 x19_0_1 x19_0_2)else some (u8,d,c))
def J02(a:Int)(b:Y1):Option (j0×Bool):=(v01 a b).bind λd=>(if(!d)=true then some ((0,0,[]),false)else(H02 a).bind λe=>match e with|(x3_0,x3_1)=>match x3_0 with|(x3_0_0,x3_0_1,x3_0_2)=>(p8 b T0 0 x3_0_0 x3_0_1 x3_0_2).bind (λc=>match c with|(y35,y36,y37)=>some ((y35,y36,y37),true)))
def Y4(b:K0)(c:Int):Nat->Int->(List T6)->Option ((List T6))
 |0,_,_=>none
 |fuel+1,u8,a=>(if(decide (u8<((b.length:Nat):Int)))=true then(gi b c).bind λd=>match d with|(x13_0,x13_1,x13_2)=>(gi b u8).bind λe=>match e with|(x14_0,x14_1,x14_2)=>(if(bif(decide (x13_1=x14_1))then(decide (x13_0=x14_0))else false)=true then(grd ((a.length+([((if x14_2<x13_2 then x14_2 else x13_2),(if x14_2>x13_2 then x14_2 else x13_2))]).length)*16<=140737488355328)).bind λ_=>(if(bif(decide (x13_1=x14_1))then(decide (x13_2=x14_2))else false)=true then(grd (((a ++ [((if x14_2<x13_2 then x14_2 else x13_2),(if x14_2>x13_2 then x14_2 else x13_2))]).length+([((if x14_0<x13_0 then x14_0 else x13_0),(if x14_0>x13_0 then x14_0 else x13_0))]).length)*16<=140737488355328)).bind λ_=>(Y4 b c fuel (IntKind.i64.wrap (u8+1)) ((a ++ [((if x14_2<x13_2 then x14_2 else x13_2),(if x14_2>x13_2 then x14_2 else x13_2))]) ++ [((if x14_0<x13_0 then x14_0 else x13_0),(if x14_0>x13_0 then x14_0 else x13_0))]))else(Y4 b c fuel (IntKind.i64.wrap (u8+1)) (a ++ [((if x14_2<x13_2 then x14_2 else x13_2),(if x14_2>x13_2 then x14_2 else x13_2))])))else(if(bif(decide (x13_1=x14_1))then(decide (x13_2=x14_2))else false)=true then(grd ((a.length+([((if x14_0<x13_0 then x14_0 else x13_0),(if x14_0>x13_0 then x14_0 else x13_0))]).length)*16<=140737488355328)).bind λ_=>(Y4 b c fuel (IntKind.i64.wrap (u8+1)) (a ++ [((if x14_0<x13_0 then x14_0 else x13_0),(if x14_0>x13_0 then x14_0 else x13_0))]))else(Y4 b c fuel (IntKind.i64.wrap (u8+1)) a)))else some (a))
def V8(b:K0):Nat->Int->(List T6)->Option ((List T6))
 |0,_,_=>none
 |fuel+1,a,c=>(if(decide (a<((b.length:Nat):Int)))=true then(Y4 b a T0 (IntKind.i64.wrap (a+1)) c).bind (λd=>(V8 b fuel (IntKind.i64.wrap (a+1)) d))else some (c))
def o03(a:j0):Option (q00):=match a with|(p0_0,p0_1,p0_2)=>(V8 p0_2 T0 0 ([]:q00)).bind (λb=>some b)
def d01(b:j0):Option (T6×Bool):=match b with|(p0_0,p0_1,p0_2)=>(a5 (p0_0,p0_1,p0_2)).bind λc=>(if(!c)=true then some ((0,0),false)else(o03 (p0_0,p0_1,p0_2)).bind λa=>(if(decide (((a.length:Nat):Int)=0))=true then some ((0,0),false)else(gi a 0).bind λd=>match d with|(x7_0,x7_1)=>some ((x7_0,x7_1),true)))
def G03(a:Int)(b:T6):Option (Int):=match b with|(p1_0,p1_1)=>(if(decide (a=p1_1))=true then(if(decide (p1_0>p1_1))=true then some (IntKind.i64.wrap (p1_0-1))else some p1_0)else(if(decide (a>p1_1))=true then some (IntKind.i64.wrap (a-1))else some a))
def n5(a:K0)(b:Int)(c:Int):Nat->Int->Int->Int->K0->Option (Int×Int×K0)
 |0,_,_,_,_=>none
 |fuel+1,d,u8,f,e=>(if(decide (d<((a.length:Nat):Int)))=true then(gi a d).bind λi=>match i with|(x14_0,x14_1,x14_2)=>(G03 x14_0 (b,c)).bind λg=>(grd (J0 g)).bind λk=>(G03 x14_2 (b,c)).bind λh=>(grd (J0 h)).bind λl=>(L8 e (g,x14_1,h)).bind λj=>(n5 a b c fuel (IntKind.i64.wrap (d+1)) u8 f j)else some (u8,f,e))
def Y8(b:j0)(c:T6):Option (j0×Bool):=match b with|(p0_0,p0_1,p0_2)=>match c with|(p1_0,p1_1)=>(a5 (p0_0,p0_1,p0_2)).bind λd=>(if(bif(bif(bif(!d)then true else(decide (p1_0<0)))then true else(decide (p1_0 ≥ p1_1)))then true else(decide (p1_1 ≥ p0_1)))=true then(Q4 (p0_0,p0_1,p0_2)).bind λe=>match e with|(x3_0,x3_1,x3_2)=>some ((x3_0,x3_1,x3_2),false)else(n5 p0_2 p1_0 p1_1 T0 0 p0_0 (IntKind.i64.wrap (p0_1-1)) ([]:K0)).bind (λa=>match a with|(y29,y30,y31)=>some ((y29,y30,y31),true)))
def K02(a:j0):Option (j0×T6×Bool):=match a with|(p0_0,p0_1,p0_2)=>(d01 (p0_0,p0_1,p0_2)).bind λb=>match b with|(x1_0,x1_1)=>match x1_0 with|(x1_0_0,x1_0_1)=>(if(!x1_1)=true then(Q4 (p0_0,p0_1,p0_2)).bind λc=>match c with|(x5_0,x5_1,x5_2)=>some ((x5_0,x5_1,x5_2),(0,0),false)else(Y8 (p0_0,p0_1,p0_2) (x1_0_0,x1_0_1)).bind λd=>match d with|(x8_0,x8_1)=>match x8_0 with|(x8_0_0,x8_0_1,x8_0_2)=>some ((x8_0_0,x8_0_1,x8_0_2),(x1_0_0,x1_0_1),true))
def N7:Nat->Int->Int->Int->K0->(List T6)->Option ((j0×q00) ⊕ (Int×Int×K0×(List T6)))
 |0,_,_,_,_,_=>none
 |fuel+1,d,b,c,u8,a=>(if(decide (d<40))=true then(K02 (b,c,u8)).bind λe=>match e with|(x13_0,x13_1,x13_2)=>match x13_0 with|(x13_0_0,x13_0_1,x13_0_2)=>match x13_1 with|(x13_1_0,x13_1_1)=>(if(!x13_2)=true then some (.inl ((b,c,u8),a))else(grd ((a.length+([(x13_1_0,x13_1_1)]).length)*16<=140737488355328)).bind λ_=>(N7 fuel (IntKind.i64.wrap (d+1)) x13_0_0 x13_0_1 x13_0_2 (a ++ [(x13_1_0,x13_1_1)])))else some (.inr (b,c,u8,a)))
def p03(c:j0):Option (j0×q00):=match c with|(p0_0,p0_1,p0_2)=>(Q4 (p0_0,p0_1,p0_2)).bind λd=>match d with|(x1_0,x1_1,x1_2)=>(N7 T0 0 x1_0 x1_1 x1_2 ([]:q00)).bind λb=>K9 b (λa=>match a with|(y27,y28,y29,y30)=>some ((y27,y28,y29),y30))
def k02(a:j0):Option (j0×Bool):=match a with|(p0_0,p0_1,p0_2)=>(Q4 (p0_0,p0_1,p0_2)).bind λb=>match b with|(x1_0,x1_1,x1_2)=>(a5 (p0_0,p0_1,p0_2)).bind λc=>(if(bif(!c)then true else(decide (p0_1 ≥ 40)))=true then some ((x1_0,x1_1,x1_2),false)else some ((x1_0,(IntKind.i64.wrap (p0_1+1)),x1_2),true))
def f4(c:B0)(e:Int)(f:Int)(g:K0)(b:Int):Nat->Int->(List N0)->Option ((List N0))
 |0,_,_=>none
 |fuel+1,a,d=>(if(decide (a<((c.length:Nat):Int)))=true then(gi c a).bind λj=>(p6 (e,f,g) b j).bind λh=>(grd (J0 h)).bind λ_=>(if(decide (h<0))=true then(gi c a).bind λi=>(grd ((d.length+([(b,i,(-1))]).length)*24<=140737488355328)).bind λ_=>(f4 c e f g b fuel (IntKind.i64.wrap (a+1)) (d ++ [(b,i,(-1))]))else(f4 c e f g b fuel (IntKind.i64.wrap (a+1)) d))else some (d))
def P5(a:Int)(b:Int)(d:K0):Nat->Int->(List N0)->Option ((List N0))
 |0,_,_=>none
 |fuel+1,c,e=>(chk (decide (c<a)) (J4 (b,a,d)) false).bind λf=>(if(bif(decide (c<a))then f else false)=true then(M7 b).bind λg=>(f4 g b a d c T0 0 e).bind (λh=>(P5 a b d fuel (IntKind.i64.wrap (c+1)) h))else some (e))
def I9(a:j0):Option (K0):=match a with|(p0_0,p0_1,p0_2)=>(P5 p0_1 p0_0 p0_2 T0 0 ([]:K0)).bind (λb=>some b)
def q03(b:Int)(a:Int)(c:Int):Option (N0):=(if(decide (a<0))=true then some (c,(IntKind.i64.wrap (0-a)),b)else some (b,a,c))
def D2(b:K0)(c:Int)(d:Int)(e:Int):Nat->Int->Option ((Int) ⊕ (Unit))
 |0,_=>none
 |fuel+1,a=>(if(decide (a<((b.length:Nat):Int)))=true then(gi b a).bind λf=>match f with|(x6_0,x6_1,x6_2)=>(if(eqE (c,d,e) (x6_0,x6_1,x6_2))=true then some (.inl a)else(D2 b c d e fuel (IntKind.i64.wrap (a+1))))else some (.inr ()))
def K5(b:K0)(c:N0):Option (Int):=match c with|(p1_0,p1_1,p1_2)=>(D2 b p1_0 p1_1 p1_2 T0 0).bind λa=>K9 a (λ_=>some (-1))
def Q3(b:K0)(c:N0):Option (Bool):=match c with|(p1_0,p1_1,p1_2)=>(K5 b (p1_0,p1_1,p1_2)).bind λa=>(grd (J0 a)).bind λ_=>some (decide (a ≥ 0))
def O7(a:Int)(b:T6):Option (Int):=match b with|(p1_0,p1_1)=>(if(decide (a=p1_1))=true then some p1_0 else(if(decide (a>p1_1))=true then some (IntKind.i64.wrap (a-1))else some a))
def P7(a:B0)(e:Int):Nat->Int->Int->Int->Int->K0->Option (Int×Int×K0)
 |0,_,_,_,_,_=>none
 |fuel+1,g,b,f,c,d=>(if(decide (b<((a.length:Nat):Int)))=true then(gi a b).bind λh=>(if(decide (b<(IntKind.i64.wrap (((a.length:Nat):Int)-1))))=true then(q03 g h c).bind λi=>match i with|(x21_0,x21_1,x21_2)=>(grd ((d.length+([(x21_0,x21_1,x21_2)]).length)*24<=140737488355328)).bind λ_=>(P7 a e fuel c (IntKind.i64.wrap (b+1)) f (IntKind.i64.wrap (c+1)) (d ++ [(x21_0,x21_1,x21_2)]))else(q03 g h e).bind λj=>match j with|(x26_0,x26_1,x26_2)=>(grd ((d.length+([(x26_0,x26_1,x26_2)]).length)*24<=140737488355328)).bind λ_=>(P7 a e fuel e (IntKind.i64.wrap (b+1)) f c (d ++ [(x26_0,x26_1,x26_2)])))else some (f,c,d))
def l02(h:j0)(d:Int)(a:B0)(e:Int):Option (j0×Bool):=match h with|(p0_0,p0_1,p0_2)=>(H4 (p0_0,p0_1,p0_2)).bind λi=>match i with|(x1_0,x1_1,x1_2)=>(H8 (p0_0,p0_1,p0_2)).bind λb=>(chk (!(!b)) (V4 (p0_0,p0_1,p0_2) d) false).bind λc=>(chk (!(bif(!b)then true else(!c))) (V4 (p0_0,p0_1,p0_2) e) false).bind λf=>(chk (!(bif(bif(bif(!b)then true else(!c))then true else(!f))then true else(decide (((a.length:Nat):Int)=0)))) (W00 p0_0 a) false).bind λk=>(if(bif(bif(bif(bif(bif(bif(!b)then true else(!c))then true else(!f))then true else(decide (((a.length:Nat):Int)=0)))then true else(!k))then true else(decide ((IntKind.i64.wrap ((IntKind.i64.wrap (p0_1+((a.length:Nat):Int)))-1))>40)))then true else(decide ((IntKind.i64.wrap (((p0_2.length:Nat):Int)+((a.length:Nat):Int)))>120)))=true then some ((x1_0,x1_1,x1_2),false)else(P7 a e T0 d 0 x1_0 x1_1 x1_2).bind (λg=>match g with|(y35,y36,y37)=>(X00 y37).bind λj=>some ((y35,y36,j),true)))
def L02(a:Int):Option (j0×Bool):=(o6 a 1 3).bind λb=>(if(!b)=true then some ((0,0,[]),false)else some ((a,1,[]),true))
def M02(a:j0)(b:B0):Option (j0×Bool):=match a with|(p0_0,p0_1,p0_2)=>(l02 (p0_0,p0_1,p0_2) 0 b 0).bind λc=>match c with|(x1_0,x1_1)=>match x1_0 with|(x1_0_0,x1_0_1,x1_0_2)=>some ((x1_0_0,x1_0_1,x1_0_2),x1_1)
def g7(a:Y1):Nat->Int->Int->Int->K0->Option (Int×Int×K0)
 |0,_,_,_,_=>none
 |fuel+1,u8,d,b,c=>(if(decide (u8<((a.length:Nat):Int)))=true then(gi a u8).bind λe=>(if(decide (((e.length:Nat):Int)>0))=true then(M02 (d,b,c) e).bind λf=>match f with|(x17_0,x17_1)=>match x17_0 with|(x17_0_0,x17_0_1,x17_0_2)=>(g7 a fuel (IntKind.i64.wrap (u8+1)) x17_0_0 x17_0_1 x17_0_2)else(g7 a fuel (IntKind.i64.wrap (u8+1)) d b c))else some (d,b,c))
def N02(a:Int)(b:Y1):Option (j0×Bool):=(w01 a b).bind λd=>(if(!d)=true then some ((0,0,[]),false)else(L02 a).bind λe=>match e with|(x3_0,x3_1)=>match x3_0 with|(x3_0_0,x3_0_1,x3_0_2)=>(g7 b T0 0 x3_0_0 x3_0_1 x3_0_2).bind (λc=>match c with|(y22,y23,y24)=>some ((y22,y23,y24),true)))
def l6(e:K0)(f:Int)(b:Int)(a:Int):Nat->Int->(List T6)->Option ((List T6))
 |0,_,_=>none
 |fuel+1,d,c=>(if(decide (d<((e.length:Nat):Int)))=true then(gi e d).bind λg=>match g with|(x15_0,x15_1,x15_2)=>(if(!decide (f=x15_1))=true then(l6 e f b a fuel (IntKind.i64.wrap (d+1)) c)else(if(decide (b=x15_0))=true then(grd ((c.length+([((if x15_2<a then x15_2 else a),(if x15_2>a then x15_2 else a))]).length)*16<=140737488355328)).bind λ_=>(if(decide (a=x15_2))=true then(grd (((c ++ [((if x15_2<a then x15_2 else a),(if x15_2>a then x15_2 else a))]).length+([((if x15_0<b then x15_0 else b),(if x15_0>b then x15_0 else b))]).length)*16<=140737488355328)).bind λ_=>(l6 e f b a fuel (IntKind.i64.wrap (d+1)) ((c ++ [((if x15_2<a then x15_2 else a),(if x15_2>a then x15_2 else a))]) ++ [((if x15_0<b then x15_0 else b),(if x15_0>b then x15_0 else b))]))else(l6 e f b a fuel (IntKind.i64.wrap (d+1)) (c ++ [((if x15_2<a then x15_2 else a),(if x15_2>a then x15_2 else a))])))else(if(decide (a=x15_2))=true then(grd ((c.length+([((if x15_0<b then x15_0 else b),(if x15_0>b then x15_0 else b))]).length)*16<=140737488355328)).bind λ_=>(l6 e f b a fuel (IntKind.i64.wrap (d+1)) (c ++ [((if x15_0<b then x15_0 else b),(if x15_0>b then x15_0 else b))]))else(l6 e f b a fuel (IntKind.i64.wrap (d+1)) c))))else some (c))
def w00(a:K0):Nat->Int->(List T6)->Option ((List T6))
 |0,_,_=>none
 |fuel+1,b,c=>(if(decide (b<((a.length:Nat):Int)))=true then(gi a b).bind λd=>match d with|(x7_0,x7_1,x7_2)=>(S06 a (IntKind.i64.wrap (b+1)) (a.length:Int)).bind λe=>(l6 e x7_1 x7_0 x7_2 T0 0 c).bind (λf=>(w00 a fuel (IntKind.i64.wrap (b+1)) f))else some (c))
def L04(a:j0):Option (q00):=match a with|(p0_0,p0_1,p0_2)=>(w00 p0_2 T0 0 ([]:q00)).bind (λb=>some b)
def e01(b:j0):Option (T6×Bool):=match b with|(p0_0,p0_1,p0_2)=>(H8 (p0_0,p0_1,p0_2)).bind λc=>(if(!c)=true then some ((0,0),false)else(L04 (p0_0,p0_1,p0_2)).bind λa=>(if(decide (((a.length:Nat):Int)=0))=true then some ((0,0),false)else(gi a 0).bind λd=>match d with|(x7_0,x7_1)=>some ((x7_0,x7_1),true)))
def o5(f:K0)(c:Int)(d:Int):Nat->Int->K0->Option (K0)
 |0,_,_=>none
 |fuel+1,a,b=>(if(decide (a<((f.length:Nat):Int)))=true then(gi b a).bind λh=>match h with|(x15_0,x15_1,x15_2)=>(O7 x15_0 (c,d)).bind λe=>(grd (J0 e)).bind λj=>(O7 x15_2 (c,d)).bind λg=>(grd (J0 g)).bind λk=>(gi b a).bind λi=>match i with|(x26_0,x26_1,x26_2)=>(o5 f c d fuel (IntKind.i64.wrap (a+1)) (b.set a.toNat (e,x15_1,g)))else some (b))
def Z8(a:j0)(b:T6):Option (j0×Bool):=match a with|(p0_0,p0_1,p0_2)=>match b with|(p1_0,p1_1)=>(H4 (p0_0,p0_1,p0_2)).bind λc=>match c with|(x1_0,x1_1,x1_2)=>(H8 (p0_0,p0_1,p0_2)).bind λe=>(if(bif(bif(bif(!e)then true else(decide (p1_0<0)))then true else(decide (p1_0 ≥ p1_1)))then true else(decide (p1_1 ≥ p0_1)))=true then some ((x1_0,x1_1,x1_2),false)else(o5 x1_2 p1_0 p1_1 T0 0 x1_2).bind (λf=>(X00 f).bind λd=>some ((x1_0,(IntKind.i64.wrap (x1_1-1)),d),true)))
def O02(a:j0):Option (j0×T6×Bool):=match a with|(p0_0,p0_1,p0_2)=>(e01 (p0_0,p0_1,p0_2)).bind λb=>match b with|(x1_0,x1_1)=>match x1_0 with|(x1_0_0,x1_0_1)=>(if(!x1_1)=true then(H4 (p0_0,p0_1,p0_2)).bind λc=>match c with|(x5_0,x5_1,x5_2)=>some ((x5_0,x5_1,x5_2),(0,0),false)else(Z8 (p0_0,p0_1,p0_2) (x1_0_0,x1_0_1)).bind λd=>match d with|(x9_0,x9_1)=>match x9_0 with|(x9_0_0,x9_0_1,x9_0_2)=>some ((x9_0_0,x9_0_1,x9_0_2),(x1_0_0,x1_0_1),true))
def a9:Nat->Int->Int->K0->(List T6)->Option ((j0×q00) ⊕ (Int×Int×K0×(List T6)))
 |0,_,_,_,_=>none
 |fuel+1,b,c,u8,a=>(O02 (b,c,u8)).bind λd=>match d with|(x12_0,x12_1,x12_2)=>match x12_0 with|(x12_0_0,x12_0_1,x12_0_2)=>match x12_1 with|(x12_1_0,x12_1_1)=>(if(!x12_2)=true then some (.inl ((b,c,u8),a))else(grd ((a.length+([(x12_1_0,x12_1_1)]).length)*16<=140737488355328)).bind λ_=>(a9 fuel x12_0_0 x12_0_1 x12_0_2 (a ++ [(x12_1_0,x12_1_1)])))
def r03(b:j0):Option (j0×q00):=match b with|(p0_0,p0_1,p0_2)=>(H4 (p0_0,p0_1,p0_2)).bind λc=>match c with|(x1_0,x1_1,x1_2)=>(a9 T0 x1_0 x1_1 x1_2 ([]:q00)).bind λa=>K9 a (λ_=>none)
def m02(a:j0):Option (j0×Bool):=match a with|(p0_0,p0_1,p0_2)=>(H4 (p0_0,p0_1,p0_2)).bind λb=>match b with|(x1_0,x1_1,x1_2)=>(H8 (p0_0,p0_1,p0_2)).bind λc=>(if(bif(!c)then true else(decide (p0_1=40)))=true then some ((x1_0,x1_1,x1_2),false)else some ((x1_0,(IntKind.i64.wrap (x1_1+1)),x1_2),true))
def i4(c:B0)(d:Int)(e:Int)(f:K0)(u8:Int):Nat->Int->(List N0)->Option ((List N0))
 |0,_,_=>none
 |fuel+1,a,b=>(if(decide (a<((c.length:Nat):Int)))=true then(gi c a).bind λg=>(j8 (d,e,f) u8 g).bind λh=>(grd (J0 h)).bind λ_=>(if(decide (h<0))=true then(grd ((b.length+([(u8,g,(-1))]).length)*24<=140737488355328)).bind λ_=>(i4 c d e f u8 fuel (IntKind.i64.wrap (a+1)) (b ++ [(u8,g,(-1))]))else(i4 c d e f u8 fuel (IntKind.i64.wrap (a+1)) b))else some (b))
def Q5(b:Int)(a:Int)(c:K0):Nat->Int->(List N0)->Option ((List N0))
 |0,_,_=>none
 |fuel+1,u8,d=>(if(decide (u8<b))=true then(t00 a).bind λe=>(i4 e a b c u8 T0 0 d).bind (λf=>(Q5 b a c fuel (IntKind.i64.wrap (u8+1)) f))else some (d))
def J9(a:j0):Option (K0):=match a with|(p0_0,p0_1,p0_2)=>(E7 (p0_0,p0_1,p0_2)).bind λb=>(if(!b)=true then some ([]:K0)else(Q5 p0_1 p0_0 p0_2 T0 0 ([]:K0)).bind (λc=>some c))
def L6(e:Int)(f:Int)(d:B0):Nat->Int->(List Int)->(List Int)->Option ((List Int)×(List Int))
 |0,_,_,_=>none
 |fuel+1,a,b,c=>(if(decide (a<e))=true then(if(!decide (a=f))=true then(grd ((b.length + [a].length)*8<=140737488355328)).bind λ_=>(gi d a).bind λg=>(grd ((c.length + [g].length)*8<=140737488355328)).bind λ_=>(L6 e f d fuel (IntKind.i64.wrap (a+1)) (b ++ [a]) (c ++ [g]))else(L6 e f d fuel (IntKind.i64.wrap (a+1)) b c))else some (b,c))
def z7(g:Int)(h:Int)(i:K0):Nat->B0->Int->Int->Int->K0->Option ((j0×B0) ⊕ (B0×Int×Int×K0))
 |0,_,_,_,_,_=>none
 |fuel+1,d,e,b,a,c=>(chk (decide (e<40)) (a5 (g,h,i)) false).bind λk=>(if(bif(decide (e<40))then k else false)=true then(U02 (b,a,c)).bind λf=>(grd (J0 f)).bind λ_=>(if(decide (f<0))=true then some (.inl ((b,a,c),d))else(L6 a f d T0 0 ([]:B0) ([]:B0)).bind (λj=>match j with|(y52,y53)=>(p7 (b,a,c) y52).bind λl=>match l with|(x58_0,x58_1)=>match x58_0 with|(x58_0_0,x58_0_1,x58_0_2)=>(z7 g h i fuel y53 (IntKind.i64.wrap (e+1)) x58_0_0 x58_0_1 x58_0_2)))else some (.inr (d,b,a,c)))
def A7(b:Int)(d:Int)(e:K0):Nat->Int->(List Int)->Option ((List Int))
 |0,_,_=>none
 |fuel+1,a,c=>(chk (decide (a<b)) (a5 (d,b,e)) false).bind λf=>(if(bif(decide (a<b))then f else false)=true then(grd ((c.length + [a].length)*8<=140737488355328)).bind λ_=>(A7 b d e fuel (IntKind.i64.wrap (a+1)) (c ++ [a]))else some (c))
def o02(c:j0):Option (j0×B0):=match c with|(p0_0,p0_1,p0_2)=>(Q4 (p0_0,p0_1,p0_2)).bind λd=>match d with|(x1_0,x1_1,x1_2)=>(A7 p0_1 p0_0 p0_2 T0 0 ([]:B0)).bind (λe=>(z7 p0_0 p0_1 p0_2 T0 e 0 x1_0 x1_1 x1_2).bind λb=>K9 b (λa=>match a with|(y132,y133,y134,y135)=>some ((y133,y134,y135),y132)))
def b9(a:j0):Option (j0):=match a with|(p0_0,p0_1,p0_2)=>(p03 (p0_0,p0_1,p0_2)).bind λb=>match b with|(x1_0,x1_1)=>match x1_0 with|(x1_0_0,x1_0_1,x1_0_2)=>(o02 (x1_0_0,x1_0_1,x1_0_2)).bind λc=>match c with|(x4_0,x4_1)=>match x4_0 with|(x4_0_0,x4_0_1,x4_0_2)=>(C8 (x4_0_0,x4_0_1,x4_0_2)).bind λd=>match d with|(x7_0,x7_1,x7_2)=>some (x7_0,x7_1,x7_2)
def c9(a:j0):Option (j0):=match a with|(p0_0,p0_1,p0_2)=>(r03 (p0_0,p0_1,p0_2)).bind λb=>match b with|(x1_0,x1_1)=>match x1_0 with|(x1_0_0,x1_0_1,x1_0_2)=>(U8 (x1_0_0,x1_0_1,x1_0_2)).bind λc=>match c with|(x5_0,x5_1)=>match x5_0 with|(x5_0_0,x5_0_1,x5_0_2)=>(D8 (x5_0_0,x5_0_1,x5_0_2)).bind λd=>match d with|(x9_0,x9_1,x9_2)=>some (x9_0,x9_1,x9_2)
def R4(c:B0):Nat->Int->(List Int)->Option ((List Int))
 |0,_,_=>none
 |fuel+1,a,b=>(if(decide (a ≥ 0))=true then(gi c a).bind λd=>(grd ((b.length+([(IntKind.i64.wrap (0-d))]).length)*8<=140737488355328)).bind λ_=>(R4 c fuel (IntKind.i64.wrap (a-1)) (b ++ [(IntKind.i64.wrap (0-d))]))else some (b))
def r8(a:B0):Option (B0):=(R4 a T0 (IntKind.i64.wrap (((a.length:Nat):Int)-1)) ([]:B0)).bind (λb=>some b)
def D4(c:B0):Nat->Int->(List Int)->Option ((List Int))
 |0,_,_=>none
 |fuel+1,d,b=>(if(decide (d<((c.length:Nat):Int)))=true then(some b.length).bind λa=>(grd (a<=9223372036854775807)).bind λ_=>(chk (decide (((a:Nat):Int)>0)) (gi c d) 0).bind λe=>(chk (bif(decide (((a:Nat):Int)>0))then(!decide (e=0))else false) (gi b (IntKind.i64.wrap (((a:Nat):Int)-1))) 0).bind λf=>(chk (bif(decide (((a:Nat):Int)>0))then(!decide (e=0))else false) (gi c d) 0).bind λg=>(chk (bif(bif(decide (((a:Nat):Int)>0))then(!decide (e=0))else false)then(decide (f=(IntKind.i64.wrap (0-g))))else false) (gi b (IntKind.i64.wrap (((a:Nat):Int)-1))) 0).bind λi=>(chk (bif(bif(decide (((a:Nat):Int)>0))then(!decide (e=0))else false)then(decide (f=(IntKind.i64.wrap (0-g))))else false) (gi c d) 0).bind λj=>(if(bif(bif(bif(decide (((a:Nat):Int)>0))then(!decide (e=0))else false)then(decide (f=(IntKind.i64.wrap (0-g))))else false)then(!decide (i=j))else false)=true then(grd (0<=(IntKind.i64.wrap (((a:Nat):Int)-1))/\(IntKind.i64.wrap (((a:Nat):Int)-1))<=(b.length:Int))).bind λ_=>(D4 c fuel (IntKind.i64.wrap (d+1)) (b.take (IntKind.i64.wrap (((a:Nat):Int)-1)).toNat))else(gi c d).bind λh=>(grd ((b.length + [h].length)*8<=140737488355328)).bind λ_=>(D4 c fuel (IntKind.i64.wrap (d+1)) (b ++ [h])))else some (b))
def B7(b:B0):Option (B0):=(D4 b T0 0 ([]:B0)).bind (λa=>(grd ((([]:B0).length+a.length)*8<=140737488355328)).bind λ_=>some (([]:B0)++a))
def x00(a:B0)(b:B0):Option (B0):=(grd ((([]:B0).length+a.length)*8<=140737488355328)).bind λ_=>(grd (((([]:B0)++a).length+b.length)*8<=140737488355328)).bind λ_=>(B7 ((([]:B0)++a)++b)).bind λc=>some c
def Y7(c:B0):Nat->Int->(List Int)->Option ((List Int))
 |0,_,_=>none
 |fuel+1,a,b=>(if(decide (a ≥ 0))=true then(gi c a).bind λd=>(grd ((b.length+([(IntKind.i64.wrap (0-d))]).length)*8<=140737488355328)).bind λ_=>(Y7 c fuel (IntKind.i64.wrap (a-1)) (b ++ [(IntKind.i64.wrap (0-d))]))else some (b))
def A9(a:B0):Option (B0):=(grd ((0:Int)<=0/\0<=((a.length:Nat):Int)/\((a.length:Nat):Int)*8<=140737488355328/\((a.length:Nat):Int)<=9223372036854775807)).bind λ_=>(Y7 a T0 (IntKind.i64.wrap (((a.length:Nat):Int)-1)) (List.replicate (0:Int).toNat (0:Int))).bind (λb=>some b)
def Q7(e:B0):Nat->Int->(List Int)->Option ((List Int))
 |0,_,_=>none
 |fuel+1,d,a=>(if(decide (d<((e.length:Nat):Int)))=true then(gi e d).bind λf=>(some a.length).bind λb=>(grd (b<=9223372036854775807)).bind λ_=>(some a.length).bind λg=>(grd (g<=9223372036854775807)).bind λ_=>(chk (decide (((b:Nat):Int)>0)) (gi a (IntKind.i64.wrap (((g:Nat):Int)-1))) 0).bind λh=>(chk (decide (((b:Nat):Int)>0)) (D00 h f) false).bind λi=>(if(bif(decide (((b:Nat):Int)>0))then i else false)=true then(some a.length).bind λc=>(grd (c<=9223372036854775807)).bind λ_=>(grd (0<=(IntKind.i64.wrap (((c:Nat):Int)-1))/\(IntKind.i64.wrap (((c:Nat):Int)-1))<=(a.length:Int))).bind λ_=>(Q7 e fuel (IntKind.i64.wrap (d+1)) (a.take (IntKind.i64.wrap (((c:Nat):Int)-1)).toNat))else(grd ((a.length + [f].length)*8<=140737488355328)).bind λ_=>(Q7 e fuel (IntKind.i64.wrap (d+1)) (a ++ [f])))else some (a))
def d9(a:Y1):Nat->Int->(List Int)->Option ((List Int))
 |0,_,_=>none
 |fuel+1,b,c=>(if(decide (b<((a.length:Nat):Int)))=true then(gi a b).bind λd=>(Q7 d T0 0 c).bind (λe=>(d9 a fuel (IntKind.i64.wrap (b+1)) e))else some (c))
def y00(a:Y1):Option (B0):=(d9 a T0 0 ([]:B0)).bind (λb=>some b)
def K00(a:j0)(b:B0):Option (Bool):=match a with|(p0_0,p0_1,p0_2)=>(B7 b).bind λc=>(x01 (p0_0,p0_1,p0_2) 0 c).bind λe=>match e with|(x4_0,x4_1)=>(grd (J0 x4_0)).bind λf=>(L3 (p0_0,p0_1,p0_2)).bind λd=>some (bif(bif d then x4_1 else false)then(decide (x4_0=0))else false)
def e00(b:j0)(a:B0):Option (Bool):=match b with|(p0_0,p0_1,p0_2)=>(E00 (p0_0,p0_1,p0_2) 0 a).bind λc=>match c with|(x1_0,x1_1)=>(grd (J0 x1_0)).bind λ_=>(grd (J0 x1_1)).bind λ_=>some (bif(decide (x1_1=((a.length:Nat):Int)))then(decide (x1_0=0))else false)
def g9(a:B0):Option (B0):=(y00 [a]).bind λb=>some b
def C7(d:B0)(k:Y1)(e:Int)(f:Int)(g:K0):Nat->Int->(List N0)->Option ((List N0))
 |0,_,_=>none
 |fuel+1,a,b=>(if(decide (a<((d.length:Nat):Int)))=true then(gi d a).bind λc=>(gi k c).bind λh=>(gi h (IntKind.i64.wrap (((h.length:Nat):Int)-1))).bind λi=>(j8 (e,f,g) c (IntKind.i64.wrap (0-i))).bind λj=>(grd (J0 j)).bind λ_=>(q03 j i c).bind λl=>match l with|(x16_0,x16_1,x16_2)=>(grd ((b.length+([(x16_0,x16_1,x16_2)]).length)*24<=140737488355328)).bind λ_=>(C7 d k e f g fuel (IntKind.i64.wrap (a+1)) (b ++ [(x16_0,x16_1,x16_2)]))else some (b))
def p02(a:j0):Option (K0):=match a with|(p0_0,p0_1,p0_2)=>(o8 (p0_0,p0_1,p0_2) 0).bind λb=>match b with|(x1_0,x1_1)=>(S06 x1_0 1 (x1_0.length:Int)).bind λd=>(C7 d x1_1 p0_0 p0_1 p0_2 T0 0 ([]:K0)).bind (λe=>(X00 e).bind λc=>some c)
def U5(a:K0)(d:K0):Nat->Int->(List N0)->Option ((List N0))
 |0,_,_=>none
 |fuel+1,b,c=>(if(decide (b<((a.length:Nat):Int)))=true then(gi a b).bind λe=>match e with|(x16_0,x16_1,x16_2)=>(Q3 d (x16_0,x16_1,x16_2)).bind λf=>(if(!f)=true then(grd ((c.length+([(x16_0,x16_1,x16_2)]).length)*24<=140737488355328)).bind λ_=>(U5 a d fuel (IntKind.i64.wrap (b+1)) (c ++ [(x16_0,x16_1,x16_2)]))else(U5 a d fuel (IntKind.i64.wrap (b+1)) c))else some (c))
def J01(a:j0):Option (K0):=match a with|(p0_0,p0_1,p0_2)=>(E7 (p0_0,p0_1,p0_2)).bind λb=>(if(!b)=true then some ([]:K0)else(p02 (p0_0,p0_1,p0_2)).bind λc=>(U5 p0_2 c T0 0 ([]:K0)).bind (λd=>some d))
def i9(c:K0)(d:Y1):Nat->Int->(List B0)->Option ((List B0))
 |0,_,_=>none
 |fuel+1,a,b=>(if(decide (a<((c.length:Nat):Int)))=true then(gi c a).bind λf=>match f with|(x19_0,x19_1,x19_2)=>(gi d x19_0).bind λg=>(some [x19_1]).bind λh=>(gi d x19_2).bind λi=>(A9 i).bind λj=>(some [g,h,j]).bind λk=>(y00 k).bind λl=>(some [l]).bind λe=>(grd ((b.length+e.length)*24<=140737488355328)).bind λ_=>(i9 c d fuel (IntKind.i64.wrap (a+1)) (b++e))else some (b))
def t03(a:j0):Option (Y1):=match a with|(p0_0,p0_1,p0_2)=>(R6 (p0_0,p0_1,p0_2)).bind λb=>(if(!b)=true then some ([]:Y1)else(o8 (p0_0,p0_1,p0_2) 0).bind λd=>match d with|(x7_0,x7_1)=>(J01 (p0_0,p0_1,p0_2)).bind λc=>(i9 c x7_1 T0 0 ([]:Y1)).bind (λe=>some e))
def E6(a:Y1)(c:Int)(d:Int)(e:K0):Nat->Int->Option ((Bool) ⊕ (Unit))
 |0,_=>none
 |fuel+1,b=>(if(decide (b<((a.length:Nat):Int)))=true then(gi a b).bind λg=>(g9 g).bind λh=>(e00 (c,d,e) h).bind λf=>(if(!f)=true then some (.inl false)else(E6 a c d e fuel (IntKind.i64.wrap (b+1))))else some (.inr ()))
def f00(b:j0)(c:Y1):Option (Bool):=match b with|(p0_0,p0_1,p0_2)=>(R6 (p0_0,p0_1,p0_2)).bind λd=>(if(!d)=true then some false else(E6 c p0_0 p0_1 p0_2 T0 0).bind λa=>K9 a (λ_=>some true))
def z00(c:j0):Option (Bool):=match c with|(p0_0,p0_1,p0_2)=>(L3 (p0_0,p0_1,p0_2)).bind λa=>(chk a (I9 (p0_0,p0_1,p0_2)) []).bind λb=>(grd (b.length<=9223372036854775807)).bind λd=>some (bif a then(decide (((b.length:Nat):Int)=0))else false)
def p5(b:Int)(c:Int):Nat->Int->(List Int)->Option ((List Int))
 |0,_,_=>none
 |fuel+1,u8,a=>(if(decide (u8<b))=true then(if(!decide (u8=c))=true then(grd ((a.length + [u8].length)*8<=140737488355328)).bind λ_=>(p5 b c fuel (IntKind.i64.wrap (u8+1)) (a ++ [u8]))else(p5 b c fuel (IntKind.i64.wrap (u8+1)) a))else some (a))
def M8(c:j0)(a:Int):Option (j0×Bool):=match c with|(p0_0,p0_1,p0_2)=>(J4 (p0_0,p0_1,p0_2)).bind λb=>(chk (!(!b)) (V3 a 0 (IntKind.i64.wrap (p0_1-1))) false).bind λd=>(if(bif(!b)then true else(!d))=true then(Q4 (p0_0,p0_1,p0_2)).bind λg=>match g with|(x4_0,x4_1,x4_2)=>some ((x4_0,x4_1,x4_2),false)else(p5 p0_1 a T0 0 [a]).bind (λh=>(p7 (p0_0,p0_1,p0_2) h).bind λe=>match e with|(x31_0,x31_1)=>match x31_0 with|(x31_0_0,x31_0_1,x31_0_2)=>(b9 (x31_0_0,x31_0_1,x31_0_2)).bind λf=>match f with|(x34_0,x34_1,x34_2)=>some ((x34_0,x34_1,x34_2),true)))
def A00(c:j0):Option (Bool):=match c with|(p0_0,p0_1,p0_2)=>(R6 (p0_0,p0_1,p0_2)).bind λa=>(chk a (J9 (p0_0,p0_1,p0_2)) []).bind λb=>(grd (b.length<=9223372036854775807)).bind λd=>some (bif a then(decide (((b.length:Nat):Int)=0))else false)
def t8(c:Int)(d:Int):Nat->Int->(List Int)->Option ((List Int))
 |0,_,_=>none
 |fuel+1,a,b=>(if(decide (a<c))=true then(if(!decide (a=d))=true then(grd ((b.length + [a].length)*8<=140737488355328)).bind λ_=>(t8 c d fuel (IntKind.i64.wrap (a+1)) (b ++ [a]))else(t8 c d fuel (IntKind.i64.wrap (a+1)) b))else some (b))
def P9(c:j0)(a:Int):Option (j0×Bool):=match c with|(p0_0,p0_1,p0_2)=>(E7 (p0_0,p0_1,p0_2)).bind λb=>(chk (!(!b)) (V4 (p0_0,p0_1,p0_2) a) false).bind λd=>(if(bif(!b)then true else(!d))=true then(H4 (p0_0,p0_1,p0_2)).bind λg=>match g with|(x4_0,x4_1,x4_2)=>some ((x4_0,x4_1,x4_2),false)else(t8 p0_1 a T0 0 [a]).bind (λh=>(l03 (p0_0,p0_1,p0_2) h).bind λe=>match e with|(x34_0,x34_1,x34_2)=>(c9 (x34_0,x34_1,x34_2)).bind λf=>match f with|(x38_0,x38_1,x38_2)=>some ((x38_0,x38_1,x38_2),true)))
def i7(f:B0)(g:Int)(h:Int)(i:Int)(j:K0):Nat->Int->(List Bool)->(List B0)->(List Int)->Option ((List Bool)×(List B0)×(List Int))
 |0,_,_,_,_=>none
 |fuel+1,c,d,e,b=>(if(decide (c<((f.length:Nat):Int)))=true then(gi b g).bind λm=>(gi f c).bind λn=>(p6 (h,i,j) m n).bind λa=>(grd (J0 a)).bind λ_=>(chk (decide (a ≥ 0)) (gi d a) false).bind λo=>(if(bif(decide (a ≥ 0))then(!o)else false)=true then(gi d a).bind λt=>(gi b g).bind λp=>(gi e p).bind λk=>(grd (k.length*8<=140737488355328)).bind λs=>(gi f c).bind λq=>(some [q]).bind λl=>(grd ((k.length+l.length)*8<=140737488355328)).bind λ_=>(gi e a).bind λu=>(grd ((b.length + [a].length)*8<=140737488355328)).bind λ_=>(i7 f g h i j fuel (IntKind.i64.wrap (c+1)) (d.set a.toNat true) (e.set a.toNat (k++l)) (b ++ [a]))else(i7 f g h i j fuel (IntKind.i64.wrap (c+1)) d e b))else some (d,e,b))
def B9(i:B0)(d:Int)(e:Int)(f:K0):Nat->Int->(List Bool)->(List B0)->(List Int)->Option ((List Bool)×(List B0)×(List Int))
 |0,_,_,_,_=>none
 |fuel+1,a,g,h,b=>(some b.length).bind λc=>(grd (c<=9223372036854775807)).bind λ_=>(if(decide (a<((c:Nat):Int)))=true then(i7 i a d e f T0 0 g h b).bind (λj=>match j with|(y73,y74,y75)=>(B9 i d e f fuel (IntKind.i64.wrap (a+1)) y73 y74 y75))else some (g,h,b))
def P02(c:j0)(a:Int):Option ((List Bool)×Y1):=match c with|(p0_0,p0_1,p0_2)=>(grd ((0:Int)<=p0_1/\p0_1<=p0_1/\p0_1*1<=140737488355328/\p0_1<=9223372036854775807)).bind λ_=>(grd ((0:Int)<=p0_1/\p0_1<=p0_1/\p0_1*24<=140737488355328/\p0_1<=9223372036854775807)).bind λ_=>(gi (List.replicate p0_1.toNat (false:Bool)) a).bind λe=>(gi (List.replicate p0_1.toNat ([]:B0)) a).bind λf=>(M7 p0_0).bind λd=>(B9 d p0_0 p0_1 p0_2 T0 0 ((List.replicate p0_1.toNat (false:Bool)).set a.toNat true) ((List.replicate p0_1.toNat ([]:B0)).set a.toNat ([]:B0)) [a]).bind (λb=>match b with|(y87,y88,y89)=>some (y87,y88))
def Q9(f:j0)(c:Int)(a:Int):Option (B0×Bool):=match f with|(p0_0,p0_1,p0_2)=>(J4 (p0_0,p0_1,p0_2)).bind λb=>(chk (!(!b)) (V3 c 0 (IntKind.i64.wrap (p0_1-1))) false).bind λe=>(chk (!(bif(!b)then true else(!e))) (V3 a 0 (IntKind.i64.wrap (p0_1-1))) false).bind λh=>(if(bif(bif(!b)then true else(!e))then true else(!h))=true then some (([]:B0),false)else(P02 (p0_0,p0_1,p0_2) c).bind λi=>match i with|(x9_0,x9_1)=>(gi x9_0 a).bind λg=>(if(!g)=true then some (([]:B0),false)else(gi x9_1 a).bind λd=>(grd ((([]:B0).length+d.length)*8<=140737488355328)).bind λ_=>some ((([]:B0)++d),true)))
def z01(a:j0)(b:Int):Option (B0):=match a with|(p0_0,p0_1,p0_2)=>(Q9 (p0_0,p0_1,p0_2) 0 b).bind λc=>match c with|(x1_0,x1_1)=>some x1_0
def S6(d:B0)(e:Int)(f:Int)(g:Int)(h:K0):Nat->K0->Int->(List Int)->Option (K0×(List Int))
 |0,_,_,_=>none
 |fuel+1,i,c,b=>(if(decide (c<((d.length:Nat):Int)))=true then(gi b e).bind λj=>(gi d c).bind λk=>(p6 (f,g,h) j k).bind λa=>(grd (J0 a)).bind λ_=>(chk (!(decide (a<0))) (m00 b a) false).bind λl=>(if(bif(decide (a<0))then true else l)=true then(S6 d e f g h fuel i (IntKind.i64.wrap (c+1)) b)else(grd ((b.length + [a].length)*8<=140737488355328)).bind λ_=>(gi d c).bind λm=>(if(decide (m>0))=true then(gi (b ++ [a]) e).bind λn=>(gi d c).bind λo=>(L8 i (n,o,a)).bind λp=>(S6 d e f g h fuel p (IntKind.i64.wrap (c+1)) (b ++ [a]))else(gi d c).bind λq=>(gi (b ++ [a]) e).bind λs=>(L8 i (a,(IntKind.i64.wrap (0-q)),s)).bind λt=>(S6 d e f g h fuel t (IntKind.i64.wrap (c+1)) (b ++ [a]))))else some (i,b))
def g00(h:B0)(d:Int)(e:Int)(f:K0):Nat->K0->Int->(List Int)->Option (K0×(List Int))
 |0,_,_,_=>none
 |fuel+1,g,a,b=>(some b.length).bind λc=>(grd (c<=9223372036854775807)).bind λ_=>(if(decide (a<((c:Nat):Int)))=true then(S6 h a d e f T0 g 0 b).bind (λi=>match i with|(y80,y81)=>(g00 h d e f fuel y80 (IntKind.i64.wrap (a+1)) y81))else some (g,b))
def u03(b:j0):Option (K0):=match b with|(p0_0,p0_1,p0_2)=>(J4 (p0_0,p0_1,p0_2)).bind λc=>(if(!c)=true then some ([]:K0)else(M7 p0_0).bind λd=>(g00 d p0_0 p0_1 p0_2 T0 ([]:K0) 0 [0]).bind (λa=>match a with|(y85,y86)=>some y85))
def V6(c:K0)(d:K0)(e:Int):Nat->Bool->Int->Option (Bool)
 |0,_,_=>none
 |fuel+1,a,b=>(if(decide (b<((c.length:Nat):Int)))=true then(chk (!a) (gi c b) (0,0,0)).bind λf=>match f with|(x17_0,x17_1,x17_2)=>(chk (!a) (gi d e) (0,0,0)).bind λg=>match g with|(x18_0,x18_1,x18_2)=>(V6 c d e fuel (bif a then true else(eqE (x17_0,x17_1,x17_2) (x18_0,x18_1,x18_2))) (IntKind.i64.wrap (b+1)))else some (a))
def V5(a:K0)(d:Int)(e:Int)(f:K0):Nat->Int->(List N0)->Option ((List N0))
 |0,_,_=>none
 |fuel+1,b,c=>(chk (decide (b<((a.length:Nat):Int))) (J4 (d,e,a)) false).bind λh=>(if(bif(decide (b<((a.length:Nat):Int)))then h else false)=true then(V6 f a b T0 false 0).bind (λi=>(if(!i)=true then(gi a b).bind λg=>match g with|(x25_0,x25_1,x25_2)=>(grd ((c.length+([(x25_0,x25_1,x25_2)]).length)*24<=140737488355328)).bind λ_=>(V5 a d e f fuel (IntKind.i64.wrap (b+1)) (c ++ [(x25_0,x25_1,x25_2)]))else(V5 a d e f fuel (IntKind.i64.wrap (b+1)) c)))else some (c))
def K01(a:j0):Option (K0):=match a with|(p0_0,p0_1,p0_2)=>(u03 (p0_0,p0_1,p0_2)).bind λb=>(V5 p0_2 p0_0 p0_1 b T0 0 ([]:K0)).bind (λc=>some c)
def R9(a:K0)(d:Int)(e:Int)(f:Int):Nat->Bool->Int->Option (Bool)
 |0,_,_=>none
 |fuel+1,b,c=>(if(decide (c<((a.length:Nat):Int)))=true then(chk (!b) (gi a c) (0,0,0)).bind λg=>match g with|(x7_0,x7_1,x7_2)=>(R9 a d e f fuel (bif b then true else(eqE (x7_0,x7_1,x7_2) (d,e,f))) (IntKind.i64.wrap (c+1)))else some (b))
def Y03(b:j0)(c:N0):Option (B0):=match b with|(p0_0,p0_1,p0_2)=>match c with|(p1_0,p1_1,p1_2)=>(R9 p0_2 p1_0 p1_1 p1_2 T0 false 0).bind (λh=>(J4 (p0_0,p0_1,p0_2)).bind λd=>(if(bif(!d)then true else(!h))=true then some ([]:B0)else(z01 (p0_0,p0_1,p0_2) p1_0).bind λa=>(grd ((a.length + [p1_1].length)*8<=140737488355328)).bind λ_=>(z01 (p0_0,p0_1,p0_2) p1_2).bind λe=>(r8 e).bind λf=>(x00 (a ++ [p1_1]) f).bind λg=>some g))
def j9(c:K0)(d:Int)(e:Int)(f:K0):Nat->Int->(List B0)->Option ((List B0))
 |0,_,_=>none
 |fuel+1,a,b=>(if(decide (a<((c.length:Nat):Int)))=true then(gi c a).bind λh=>match h with|(x16_0,x16_1,x16_2)=>(Y03 (d,e,f) (x16_0,x16_1,x16_2)).bind λg=>(grd ((b.length + [g].length)*24<=140737488355328)).bind λ_=>(j9 c d e f fuel (IntKind.i64.wrap (a+1)) (b ++ [g]))else some (b))
def v03(a:j0):Option (Y1):=match a with|(p0_0,p0_1,p0_2)=>(L3 (p0_0,p0_1,p0_2)).bind λb=>(if(!b)=true then some ([]:Y1)else(K01 (p0_0,p0_1,p0_2)).bind λc=>(j9 c p0_0 p0_1 p0_2 T0 0 ([]:Y1)).bind (λd=>some d))
def Y6(b:B0)(d:Int)(e:Int)(f:K0):Nat->Int->Int->Option ((Int) ⊕ (Unit))
 |0,_,_=>none
 |fuel+1,g,a=>(if(decide (a<((b.length:Nat):Int)))=true then(gi b a).bind λh=>(p6 (d,e,f) g h).bind λc=>(grd (J0 c)).bind λ_=>(if(decide (c<0))=true then some (.inl a)else(Y6 b d e f fuel c (IntKind.i64.wrap (a+1))))else some (.inr ()))
def L01(e:j0)(a:Int)(b:B0):Option (Int):=match e with|(p0_0,p0_1,p0_2)=>(J4 (p0_0,p0_1,p0_2)).bind λc=>(chk (!(!c)) (V3 a 0 (IntKind.i64.wrap (p0_1-1))) false).bind λf=>(if(bif(!c)then true else(!f))=true then some 0 else(Y6 b p0_0 p0_1 p0_2 T0 a 0).bind λd=>K9 d (λ_=>some ((b.length:Nat):Int)))
def H5(d:j0)(a:B0):Option (j0×Bool):=match d with|(p0_0,p0_1,p0_2)=>(L3 (p0_0,p0_1,p0_2)).bind λc=>(chk (!(!c)) (V00 p0_0 a) false).bind λe=>(if(bif(!c)then true else(!e))=true then some ((0,0,[]),false)else(L01 (p0_0,p0_1,p0_2) 0 a).bind λb=>(grd (J0 b)).bind λ_=>(S06 a 0 b).bind λl=>(x01 (p0_0,p0_1,p0_2) 0 l).bind λm=>match m with|(x9_0,x9_1)=>(grd (J0 x9_0)).bind λn=>(Q4 (p0_0,p0_1,p0_2)).bind λf=>match f with|(x21_0,x21_1,x21_2)=>(if(decide (b<((a.length:Nat):Int)))=true then(k02 (p0_0,p0_1,p0_2)).bind λg=>match g with|(x25_0,x25_1)=>match x25_0 with|(x25_0_0,x25_0_1,x25_0_2)=>(if(!x25_1)=true then some ((0,0,[]),false)else(S06 a b (a.length:Int)).bind λh=>(j02 (x25_0_0,x25_0_1,x25_0_2) x9_0 h p0_1).bind λi=>match i with|(x32_0,x32_1)=>match x32_0 with|(x32_0_0,x32_0_1,x32_0_2)=>(if(!x32_1)=true then some ((0,0,[]),false)else(M8 (x32_0_0,x32_0_1,x32_0_2) p0_1).bind λj=>match j with|(x49_0,x49_1)=>match x49_0 with|(x49_0_0,x49_0_1,x49_0_2)=>some ((x49_0_0,x49_0_1,x49_0_2),x49_1)))else(M8 (x21_0,x21_1,x21_2) x9_0).bind λk=>match k with|(x52_0,x52_1)=>match x52_0 with|(x52_0_0,x52_0_1,x52_0_2)=>some ((x52_0_0,x52_0_1,x52_0_2),x52_1)))
def S4(b:B0)(c:B0):Nat->Int->Option ((Bool) ⊕ (Unit))
 |0,_=>none
 |fuel+1,a=>(if(decide (a<((b.length:Nat):Int)))=true then(gi b a).bind λd=>(gi c a).bind λe=>(if(!decide (d=e))=true then some (.inl false)else(S4 b c fuel (IntKind.i64.wrap (a+1))))else some (.inr ()))
def F00(a:B0)(b:B0):Option (Bool):=(if(!decide (((a.length:Nat):Int)=((b.length:Nat):Int)))=true then some false else(S4 a b T0 0).bind λc=>K9 c (λ_=>some true))
def Z7(b:B0)(c:B0):Nat->Int->Option ((Bool) ⊕ (Unit))
 |0,_=>none
 |fuel+1,a=>(if(decide (a<((b.length:Nat):Int)))=true then(gi b a).bind λd=>(gi c a).bind λe=>(if(!decide (d=e))=true then some (.inl false)else(Z7 b c fuel (IntKind.i64.wrap (a+1))))else some (.inr ()))
def M01(a:B0)(b:B0):Option (Bool):=(if(!decide (((a.length:Nat):Int)=((b.length:Nat):Int)))=true then some false else(Z7 a b T0 0).bind λc=>K9 c (λ_=>some true))
def A6(b:B0)(c:Y1):Nat->Int->(List Int)->Option ((List Int))
 |0,_,_=>none
 |fuel+1,a,d=>(if(bif(decide (a<((b.length:Nat):Int)))then(decide (a<200))else false)=true then(gi b a).bind λh=>(chk (decide (h>0)) (gi b a) 0).bind λm=>(if(bif(decide (h>0))then(decide (m<=((c.length:Nat):Int)))else false)=true then(gi b a).bind λi=>(gi c (IntKind.i64.wrap (i-1))).bind λe=>(grd ((d.length+e.length)*8<=140737488355328)).bind λ_=>(A6 b c fuel (IntKind.i64.wrap (a+1)) (d++e))else(gi b a).bind λf=>(chk (decide (f<0)) (gi b a) 0).bind λj=>(if(bif(decide (f<0))then(decide (j ≥ (IntKind.i64.wrap (0-((c.length:Nat):Int)))))else false)=true then(gi b a).bind λk=>(gi c (IntKind.i64.wrap ((IntKind.i64.wrap (0-k))-1))).bind λl=>(r8 l).bind λg=>(grd ((d.length+g.length)*8<=140737488355328)).bind λ_=>(A6 b c fuel (IntKind.i64.wrap (a+1)) (d++g))else(A6 b c fuel (IntKind.i64.wrap (a+1)) d)))else some (d))
def Q02(a:Y1)(b:B0):Option (B0):=(A6 b a T0 0 ([]:B0)).bind (λd=>(B7 d).bind λc=>some c)
def N01(a:Int)(b:Y1):Option (j0×Bool):=(J02 a b).bind λc=>match c with|(x1_0,x1_1)=>match x1_0 with|(x1_0_0,x1_0_1,x1_0_2)=>(if(!x1_1)=true then some ((0,0,[]),false)else(b9 (x1_0_0,x1_0_1,x1_0_2)).bind λd=>match d with|(x5_0,x5_1,x5_2)=>some ((x5_0,x5_1,x5_2),true))
def Y5(b:j0)(c:Y1):Option (Bool):=match b with|(p0_0,p0_1,p0_2)=>(N01 p0_0 c).bind λd=>match d with|(x1_0,x1_1)=>match x1_0 with|(x1_0_0,x1_0_1,x1_0_2)=>(chk x1_1 (L3 (p0_0,p0_1,p0_2)) false).bind λa=>(chk (bif x1_1 then a else false) (c00 (p0_0,p0_1,p0_2) (x1_0_0,x1_0_1,x1_0_2)) false).bind λe=>some (bif(bif x1_1 then a else false)then e else false)
def H6(a:Y1)(c:Int)(d:Int)(e:K0):Nat->Int->Option ((Bool) ⊕ (Unit))
 |0,_=>none
 |fuel+1,b=>(if(decide (b<((a.length:Nat):Int)))=true then(gi a b).bind λf=>(K00 (c,d,e) f).bind λg=>(if(!g)=true then some (.inl false)else(H6 a c d e fuel (IntKind.i64.wrap (b+1))))else some (.inr ()))
def n01(b:j0)(c:Y1):Option (Bool):=match b with|(p0_0,p0_1,p0_2)=>(H6 c p0_0 p0_1 p0_2 T0 0).bind λa=>K9 a (λ_=>(L3 (p0_0,p0_1,p0_2)).bind λd=>some d)
def W02(a:j0):Option (Int):=match a with|(p0_0,p0_1,p0_2)=>(L3 (p0_0,p0_1,p0_2)).bind λb=>(if(!b)=true then some (-1)else some (IntKind.i64.wrap ((IntKind.i64.wrap (((p0_2.length:Nat):Int)-p0_1))+1)))
def w03(a:j0):Option (Int):=match a with|(p0_0,p0_1,p0_2)=>(z00 (p0_0,p0_1,p0_2)).bind λb=>(if(!b)=true then some (-1)else some p0_1)
def C9(j:Z2):Option (Bool):=match j with|(p0_0,p0_1,p0_2,p0_3,p0_4,(p0_5,p0_6,p0_7),p0_8)=>(v01 p0_1 p0_2).bind λb=>(chk (!(!b)) (V00 p0_1 p0_3) false).bind λc=>(chk (!(bif(bif(!b)then true else(!c))then true else(!decide (p0_5=p0_1)))) (L3 (p0_5,p0_6,p0_7)) false).bind λp=>(if(bif(bif(bif(!b)then true else(!c))then true else(!decide (p0_5=p0_1)))then true else(!p))=true then some false else(if(decide (p0_0=1))=true then(Y5 (p0_5,p0_6,p0_7) p0_2).bind λa=>(chk a (v03 (p0_5,p0_6,p0_7)) []).bind λt=>(chk a (Q02 t p0_4) []).bind λk=>(chk a (F00 k p0_3) false).bind λl=>some (bif a then l else false)else(if(decide (p0_0=2))=true then(n01 (p0_5,p0_6,p0_7) p0_2).bind λd=>(chk d (K00 (p0_5,p0_6,p0_7) p0_3) false).bind λm=>some (bif d then(!m)else false)else(if(decide (p0_0=3))=true then(Y5 (p0_5,p0_6,p0_7) p0_2).bind λe=>(chk e (K00 (p0_5,p0_6,p0_7) p0_3) false).bind λn=>some (bif e then n else false)else(if(decide (p0_0=4))=true then(r8 p0_3).bind λo=>(H5 (p0_5,p0_6,p0_7) o).bind λq=>match q with|(x32_0,x32_1)=>match x32_0 with|(x32_0_0,x32_0_1,x32_0_2)=>(chk x32_1 (Y5 (x32_0_0,x32_0_1,x32_0_2) p0_2) false).bind λs=>some (bif x32_1 then s else false)else(if(decide (p0_0=5))=true then(Y5 (p0_5,p0_6,p0_7) p0_2).bind λf=>(chk f (W02 (p0_5,p0_6,p0_7)) 0).bind λg=>(grd (J0 g)).bind λ_=>some (bif(bif f then(decide (g=((p0_2.length:Nat):Int)))else false)then(decide (p0_8=((p0_2.length:Nat):Int)))else false)else(if(decide (p0_0=6))=true then(Y5 (p0_5,p0_6,p0_7) p0_2).bind λh=>(chk h (w03 (p0_5,p0_6,p0_7)) 0).bind λi=>(grd (J0 i)).bind λ_=>some (bif(bif h then(decide (i=p0_8))else false)then(decide (p0_8>0))else false)else some false)))))))
def B6(d:B0)(a:Y1):Nat->Int->(List B0)->Option ((List B0))
 |0,_,_=>none
 |fuel+1,c,b=>(if(decide (c<((d.length:Nat):Int)))=true then(gi d c).bind λe=>(o6 e 1 ((a.length:Nat):Int)).bind λj=>(if j=true then(gi a (IntKind.i64.wrap (e-1))).bind λf=>(grd ((b.length + [f].length)*24<=140737488355328)).bind λ_=>(B6 d a fuel (IntKind.i64.wrap (c+1)) (b ++ [f]))else(o6 e (IntKind.i64.wrap (0-((a.length:Nat):Int))) (-1)).bind λh=>(if h=true then(gi a (IntKind.i64.wrap ((IntKind.i64.wrap (0-e))-1))).bind λi=>(A9 i).bind λg=>(grd ((b.length + [g].length)*24<=140737488355328)).bind λ_=>(B6 d a fuel (IntKind.i64.wrap (c+1)) (b ++ [g]))else(B6 d a fuel (IntKind.i64.wrap (c+1)) b)))else some (b))
def R02(b:Y1)(a:B0):Option (B0):=(S06 a 0 (if 200<((a.length:Nat):Int)then 200 else((a.length:Nat):Int))).bind λc=>(B6 c b T0 0 ([]:Y1)).bind (λe=>(y00 e).bind λd=>some d)
def O01(a:Int)(b:Y1):Option (j0×Bool):=(N02 a b).bind λc=>match c with|(x1_0,x1_1)=>match x1_0 with|(x1_0_0,x1_0_1,x1_0_2)=>(if(!x1_1)=true then some ((0,0,[]),false)else(c9 (x1_0_0,x1_0_1,x1_0_2)).bind λd=>match d with|(x6_0,x6_1,x6_2)=>some ((x6_0,x6_1,x6_2),true))
def Z5(a:j0)(b:Y1):Option (Bool):=match a with|(p0_0,p0_1,p0_2)=>(R6 (p0_0,p0_1,p0_2)).bind λc=>(if(!c)=true then some false else(O01 p0_0 b).bind λd=>match d with|(x3_0,x3_1)=>match x3_0 with|(x3_0_0,x3_0_1,x3_0_2)=>(chk x3_1 (d00 (p0_0,p0_1,p0_2) (x3_0_0,x3_0_1,x3_0_2)) false).bind λe=>some (bif x3_1 then e else false))
def A01(b:j0)(c:B0):Option (Bool):=match b with|(p0_0,p0_1,p0_2)=>(R6 (p0_0,p0_1,p0_2)).bind λa=>(chk a (g9 c) []).bind λd=>(chk a (e00 (p0_0,p0_1,p0_2) d) false).bind λe=>some (bif a then e else false)
def t05(b:j0)(a:B0):Option (j0×Int×Bool):=match b with|(p0_0,p0_1,p0_2)=>(E00 (p0_0,p0_1,p0_2) 0 a).bind λc=>match c with|(x1_0,x1_1)=>(grd (J0 x1_0)).bind λ_=>(grd (J0 x1_1)).bind λ_=>(if(decide (x1_1=((a.length:Nat):Int)))=true then some ((p0_0,p0_1,p0_2),x1_0,true)else(m02 (p0_0,p0_1,p0_2)).bind λe=>match e with|(x5_0,x5_1)=>match x5_0 with|(x5_0_0,x5_0_1,x5_0_2)=>(if(!x5_1)=true then some ((0,0,[]),0,false)else(S06 a x1_1 (a.length:Int)).bind λf=>(l02 (x5_0_0,x5_0_1,x5_0_2) x1_0 f p0_1).bind λd=>match d with|(x12_0,x12_1)=>match x12_0 with|(x12_0_0,x12_0_1,x12_0_2)=>(if(!x12_1)=true then some ((0,0,[]),0,false)else some ((x12_0_0,x12_0_1,x12_0_2),p0_1,true))))
def I5(c:j0)(a:B0):Option (j0×Bool):=match c with|(p0_0,p0_1,p0_2)=>(R6 (p0_0,p0_1,p0_2)).bind λb=>(chk (!(!b)) (W00 p0_0 a) false).bind λd=>(if(bif(!b)then true else(!d))=true then some ((0,0,[]),false)else(t05 (p0_0,p0_1,p0_2) a).bind λe=>match e with|(x4_0,x4_1,x4_2)=>match x4_0 with|(x4_0_0,x4_0_1,x4_0_2)=>(grd (J0 x4_1)).bind λ_=>(if(!x4_2)=true then some ((0,0,[]),false)else(P9 (x4_0_0,x4_0_1,x4_0_2) x4_1).bind λf=>match f with|(x9_0,x9_1)=>match x9_0 with|(x9_0_0,x9_0_1,x9_0_2)=>some ((x9_0_0,x9_0_1,x9_0_2),x9_1)))
def X02(a:j0):Option (Int):=match a with|(p0_0,p0_1,p0_2)=>(R6 (p0_0,p0_1,p0_2)).bind λb=>(if(!b)=true then some (-1)else some (IntKind.i64.wrap ((IntKind.i64.wrap (((p0_2.length:Nat):Int)-p0_1))+1)))
def x03(a:j0):Option (Int):=match a with|(p0_0,p0_1,p0_2)=>(A00 (p0_0,p0_1,p0_2)).bind λb=>(if(!b)=true then some (-1)else some p0_1)
def D9(j:Z2):Option (Bool):=match j with|(p0_0,p0_1,p0_2,p0_3,p0_4,(p0_5,p0_6,p0_7),p0_8)=>(w01 p0_1 p0_2).bind λb=>(chk (!(!b)) (W00 p0_1 p0_3) false).bind λc=>(chk (!(bif(!b)then true else(!c))) (R6 (p0_5,p0_6,p0_7)) false).bind λp=>(if(bif(bif(bif(!b)then true else(!c))then true else(!p))then true else(!decide (p0_5=p0_1)))=true then some false else(if(decide (p0_0=1))=true then(Z5 (p0_5,p0_6,p0_7) p0_2).bind λa=>(chk a (t03 (p0_5,p0_6,p0_7)) []).bind λt=>(chk a (R02 t p0_4) []).bind λk=>(chk a (M01 k p0_3) false).bind λl=>some (bif a then l else false)else(if(decide (p0_0=2))=true then(f00 (p0_5,p0_6,p0_7) p0_2).bind λd=>(chk d (A01 (p0_5,p0_6,p0_7) p0_3) false).bind λm=>some (bif d then(!m)else false)else(if(decide (p0_0=3))=true then(Z5 (p0_5,p0_6,p0_7) p0_2).bind λe=>(chk e (A01 (p0_5,p0_6,p0_7) p0_3) false).bind λn=>some (bif e then n else false)else(if(decide (p0_0=4))=true then(A9 p0_3).bind λo=>(I5 (p0_5,p0_6,p0_7) o).bind λq=>match q with|(x32_0,x32_1)=>match x32_0 with|(x32_0_0,x32_0_1,x32_0_2)=>(chk x32_1 (Z5 (x32_0_0,x32_0_1,x32_0_2) p0_2) false).bind λs=>some (bif x32_1 then s else false)else(if(decide (p0_0=5))=true then(Z5 (p0_5,p0_6,p0_7) p0_2).bind λf=>(chk f (X02 (p0_5,p0_6,p0_7)) 0).bind λg=>(grd (J0 g)).bind λ_=>some (bif(bif f then(decide (g=((p0_2.length:Nat):Int)))else false)then(decide (p0_8=((p0_2.length:Nat):Int)))else false)else(if(decide (p0_0=6))=true then(Z5 (p0_5,p0_6,p0_7) p0_2).bind λh=>(chk (bif h then(decide (p0_8>0))else false) (x03 (p0_5,p0_6,p0_7)) 0).bind λi=>(grd (J0 i)).bind λ_=>some (bif(bif h then(decide (p0_8>0))else false)then(decide (i=p0_8))else false)else some false)))))))
def A5(c:K8)(b:Int):Nat->Int->(List Int)->Option ((List Int))
 |0,_,_=>none
 |fuel+1,a,d=>(if(decide (a<((c.length:Nat):Int)))=true then(gi c a).bind λe=>match e with|(x7_0,x7_1,x7_2,x7_3,x7_4,(x7_5,x7_6,x7_7),x7_8)=>(chk (!(!decide (x7_1=b))) (gi c a) (0,0,[],[],[],(0,0,[]),0)).bind λf=>match f with|(x8_0,x8_1,x8_2,x8_3,x8_4,(x8_5,x8_6,x8_7),x8_8)=>(chk (!(!decide (x7_1=b))) (C9 (x8_0,x8_1,x8_2,x8_3,x8_4,(x8_5,x8_6,x8_7),x8_8)) false).bind λg=>(if(bif(!decide (x7_1=b))then true else(!g))=true then(grd ((d.length + [a].length)*8<=140737488355328)).bind λ_=>(A5 c b fuel (IntKind.i64.wrap (a+1)) (d ++ [a]))else(A5 c b fuel (IntKind.i64.wrap (a+1)) d))else some (d))
def o01(a:V1):Option (B0):=match a with|(p0_0,p0_1)=>(A5 p0_1 p0_0 T0 0 ([]:B0)).bind (λb=>some b)
def P01(c:V1):Option (Bool):=match c with|(p0_0,p0_1)=>(V3 p0_0 1 3).bind λa=>(chk (bif a then(decide (((p0_1.length:Nat):Int)<=12))else false) (o01 (p0_0,p0_1)) []).bind λb=>(grd (b.length<=9223372036854775807)).bind λd=>some (bif(bif a then(decide (((p0_1.length:Nat):Int)<=12))else false)then(decide (((b.length:Nat):Int)=0))else false)
def B5(c:K8)(b:Int):Nat->Int->(List Int)->Option ((List Int))
 |0,_,_=>none
 |fuel+1,a,d=>(if(decide (a<((c.length:Nat):Int)))=true then(gi c a).bind λe=>match e with|(x7_0,x7_1,x7_2,x7_3,x7_4,(x7_5,x7_6,x7_7),x7_8)=>(chk (!(!decide (x7_1=b))) (D9 (x7_0,x7_1,x7_2,x7_3,x7_4,(x7_5,x7_6,x7_7),x7_8)) false).bind λf=>(if(bif(!decide (x7_1=b))then true else(!f))=true then(grd ((d.length + [a].length)*8<=140737488355328)).bind λ_=>(B5 c b fuel (IntKind.i64.wrap (a+1)) (d ++ [a]))else(B5 c b fuel (IntKind.i64.wrap (a+1)) d))else some (d))
def p01(a:V1):Option (B0):=match a with|(p0_0,p0_1)=>(B5 p0_1 p0_0 T0 0 ([]:B0)).bind (λb=>some b)
def Q01(c:V1):Option (Bool):=match c with|(p0_0,p0_1)=>(o6 p0_0 1 3).bind λa=>(chk (bif a then(decide (((p0_1.length:Nat):Int)<=12))else false) (p01 (p0_0,p0_1)) []).bind λb=>(grd (b.length<=9223372036854775807)).bind λd=>some (bif(bif a then(decide (((p0_1.length:Nat):Int)<=12))else false)then(decide (((b.length:Nat):Int)=0))else false)
def l9(a:Y1):Nat->Int->(List B0)->Option ((List B0))
 |0,_,_=>none
 |fuel+1,b,c=>(if(decide (b<((a.length:Nat):Int)))=true then(gi a b).bind λd=>(grd ((([]:B0).length+d.length)*8<=140737488355328)).bind λ_=>(grd ((c.length+([(([]:B0)++d)]).length)*24<=140737488355328)).bind λ_=>(l9 a fuel (IntKind.i64.wrap (b+1)) (c ++ [(([]:B0)++d)]))else some (c))
def y03(a:Y1):Option (Y1):=(l9 a T0 0 ([]:Y1)).bind (λb=>some b)
def q02(a:Z2):Option (Z2):=match a with|(p0_0,p0_1,p0_2,p0_3,p0_4,(p0_5,p0_6,p0_7),p0_8)=>(y03 p0_2).bind λb=>(grd ((([]:B0).length+p0_3.length)*8<=140737488355328)).bind λ_=>(grd ((([]:B0).length+p0_4.length)*8<=140737488355328)).bind λ_=>(Q4 (p0_5,p0_6,p0_7)).bind λc=>match c with|(x8_0,x8_1,x8_2)=>some (p0_0,p0_1,b,(([]:B0)++p0_3),(([]:B0)++p0_4),(x8_0,x8_1,x8_2),p0_8)
def n9(a:K8):Nat->Int->Int->(List Z2)->Option (Int×(List Z2))
 |0,_,_,_=>none
 |fuel+1,b,d,c=>(if(decide (b<((a.length:Nat):Int)))=true then(gi a b).bind λe=>match e with|(x8_0,x8_1,x8_2,x8_3,x8_4,(x8_5,x8_6,x8_7),x8_8)=>(q02 (x8_0,x8_1,x8_2,x8_3,x8_4,(x8_5,x8_6,x8_7),x8_8)).bind λf=>match f with|(x9_0,x9_1,x9_2,x9_3,x9_4,(x9_5,x9_6,x9_7),x9_8)=>(grd ((c.length+([(x9_0,x9_1,x9_2,x9_3,x9_4,(x9_5,x9_6,x9_7),x9_8)]).length)*136<=140737488355328)).bind λ_=>(n9 a fuel (IntKind.i64.wrap (b+1)) d (c ++ [(x9_0,x9_1,x9_2,x9_3,x9_4,(x9_5,x9_6,x9_7),x9_8)]))else some (d,c))
def Q04(b:V1):Option (V1):=match b with|(p0_0,p0_1)=>(n9 p0_1 T0 0 p0_0 ([]:K8)).bind (λa=>match a with|(y19,y20)=>some (y19,y20))
def e04(b:V1)(c:Z2):Option (V1×Bool):=match b with|(p0_0,p0_1)=>match c with|(p1_0,p1_1,p1_2,p1_3,p1_4,(p1_5,p1_6,p1_7),p1_8)=>(Q04 (p0_0,p0_1)).bind λd=>match d with|(x1_0,x1_1)=>(P01 (p0_0,p0_1)).bind λa=>(chk (!(bif(!a)then true else(!decide (p1_1=p0_0)))) (C9 (p1_0,p1_1,p1_2,p1_3,p1_4,(p1_5,p1_6,p1_7),p1_8)) false).bind λe=>(if(bif(bif(bif(!a)then true else(!decide (p1_1=p0_0)))then true else(!e))then true else(decide (((p0_1.length:Nat):Int) ≥ 12)))=true then some ((x1_0,x1_1),false)else(q02 (p1_0,p1_1,p1_2,p1_3,p1_4,(p1_5,p1_6,p1_7),p1_8)).bind λf=>match f with|(x21_0,x21_1,x21_2,x21_3,x21_4,(x21_5,x21_6,x21_7),x21_8)=>(grd ((x1_1.length+([(x21_0,x21_1,x21_2,x21_3,x21_4,(x21_5,x21_6,x21_7),x21_8)]).length)*136<=140737488355328)).bind λ_=>some ((x1_0,(x1_1 ++ [(x21_0,x21_1,x21_2,x21_3,x21_4,(x21_5,x21_6,x21_7),x21_8)])),true))
def D7(a:Y1):Nat->Int->(List B0)->Option ((List B0))
 |0,_,_=>none
 |fuel+1,b,c=>(if(decide (b<((a.length:Nat):Int)))=true then(gi a b).bind λe=>(H7 e).bind λd=>(grd ((c.length + [d].length)*24<=140737488355328)).bind λ_=>(D7 a fuel (IntKind.i64.wrap (b+1)) (c ++ [d]))else some (c))
def r02(a:Y1):Option (Y1):=(grd ((0:Int)<=0/\0<=((a.length:Nat):Int)/\((a.length:Nat):Int)*24<=140737488355328/\((a.length:Nat):Int)<=9223372036854775807)).bind λ_=>(D7 a T0 0 (List.replicate (0:Int).toNat ([]:B0))).bind (λb=>some b)
def f01(a:Z2):Option (Z2):=match a with|(p0_0,p0_1,p0_2,p0_3,p0_4,(p0_5,p0_6,p0_7),p0_8)=>(r02 p0_2).bind λb=>(H7 p0_3).bind λd=>(H7 p0_4).bind λe=>(H4 (p0_5,p0_6,p0_7)).bind λc=>match c with|(x10_0,x10_1,x10_2)=>some (p0_0,p0_1,b,d,e,(x10_0,x10_1,x10_2),p0_8)
def S5(a:K8):Nat->Int->Int->(List Z2)->Option (Int×(List Z2))
 |0,_,_,_=>none
 |fuel+1,b,d,c=>(if(decide (b<((a.length:Nat):Int)))=true then(gi a b).bind λe=>match e with|(x8_0,x8_1,x8_2,x8_3,x8_4,(x8_5,x8_6,x8_7),x8_8)=>(f01 (x8_0,x8_1,x8_2,x8_3,x8_4,(x8_5,x8_6,x8_7),x8_8)).bind λf=>match f with|(x9_0,x9_1,x9_2,x9_3,x9_4,(x9_5,x9_6,x9_7),x9_8)=>(grd ((c.length+([(x9_0,x9_1,x9_2,x9_3,x9_4,(x9_5,x9_6,x9_7),x9_8)]).length)*136<=140737488355328)).bind λ_=>(S5 a fuel (IntKind.i64.wrap (b+1)) d (c ++ [(x9_0,x9_1,x9_2,x9_3,x9_4,(x9_5,x9_6,x9_7),x9_8)]))else some (d,c))
def b02(b:V1):Option (V1):=match b with|(p0_0,p0_1)=>(S5 p0_1 T0 0 p0_0 ([]:K8)).bind (λa=>match a with|(y19,y20)=>some (y19,y20))
def f04(b:V1)(c:Z2):Option (V1×Bool):=match b with|(p0_0,p0_1)=>match c with|(p1_0,p1_1,p1_2,p1_3,p1_4,(p1_5,p1_6,p1_7),p1_8)=>(b02 (p0_0,p0_1)).bind λd=>match d with|(x1_0,x1_1)=>(Q01 (p0_0,p0_1)).bind λa=>(chk (!(bif(!a)then true else(!decide (p1_1=p0_0)))) (D9 (p1_0,p1_1,p1_2,p1_3,p1_4,(p1_5,p1_6,p1_7),p1_8)) false).bind λe=>(if(bif(bif(bif(!a)then true else(!decide (p1_1=p0_0)))then true else(!e))then true else(decide (((p0_1.length:Nat):Int)=12)))=true then some ((x1_0,x1_1),false)else(f01 (p1_0,p1_1,p1_2,p1_3,p1_4,(p1_5,p1_6,p1_7),p1_8)).bind λf=>match f with|(x21_0,x21_1,x21_2,x21_3,x21_4,(x21_5,x21_6,x21_7),x21_8)=>(grd ((x1_1.length+([(x21_0,x21_1,x21_2,x21_3,x21_4,(x21_5,x21_6,x21_7),x21_8)]).length)*136<=140737488355328)).bind λ_=>some ((x1_0,(x1_1 ++ [(x21_0,x21_1,x21_2,x21_3,x21_4,(x21_5,x21_6,x21_7),x21_8)])),true))
end Go.Proofs.YtkjhghloldgioaaGreat
