/- Texts of the claim, joined: What functions of the program compute, in plain words: batch and others. -/
import Derived.Test.YtkjhghloldgioaaGreatPart17
import Derived.Test.YtkjhghloldgioaaGreatH36
namespace Go.Proofs.YtkjhghloldgioaaGreat
open Go.H
set_option linter.unusedVariables false
set_option linter.unusedSimpArgs false
set_option maxRecDepth 10000
def j3(a:Int)(b:Int)(c:Int):Option (Bool):=some (bif(decide (a ≥ b))then(decide (a<=c))else false)
def l8(b:C0)(d:Int):Nat->Int->Option ((Bool) ⊕ (Unit))
 |0,_=>none
 |fuel+1,a=>(if(decide (a<((b.length:Nat):Int)))=true then(gi b a).bind λc=>(chk (!(decide (c=0))) (gi b a) 0).bind λg=>(chk (!(decide (c=0))) (j3 g (IntKind.i64.wrap (0-d)) d) false).bind λe=>(chk ((decide (a>0))&&(!(bif(decide (c=0))then true else(!e)))) (gi b a) 0).bind λh=>(chk ((decide (a>0))&&(!(bif(decide (c=0))then true else(!e)))) (gi b (IntKind.i64.wrap (a-1))) 0).bind λf=>(if(bif(bif(decide (c=0))then true else(!e))then true else(bif(decide (a>0))then(decide (h=(IntKind.i64.wrap (0-f))))else false))=true then some (.inl false)else(l8 b d fuel (IntKind.i64.wrap (a+1))))else some (.inr ()))
def I9(a:Int)(b:C0):Option (Bool):=(l8 b a P0 0).bind λc=>i8 c (λ_=>(j3 a 1 3).bind λd=>some (bif d then(decide (((b.length:Nat):Int)<=24))else false))
def J3(a:T1):Nat->Int->Int->Option (Int)
 |0,_,_=>none
 |fuel+1,c,b=>(if(decide (b<((a.length:Nat):Int)))=true then(gi a b).bind λd=>(J3 a fuel (IntKind.i64.wrap (c+((d.length:Nat):Int))) (IntKind.i64.wrap (b+1)))else some (c))
def E8(a:T1):Option (Int):=(J3 a P0 0 0).bind (λb=>some b)
def O6(a:T1)(c:Int):Nat->Int->Option ((Bool) ⊕ (Unit))
 |0,_=>none
 |fuel+1,b=>(if(decide (b<((a.length:Nat):Int)))=true then(gi a b).bind λd=>(I9 c d).bind λe=>(if(!e)=true then some (.inl false)else(O6 a c fuel (IntKind.i64.wrap (b+1))))else some (.inr ()))
def j00(b:Int)(a:T1):Option (Bool):=(O6 a b P0 0).bind λe=>i8 e (λ_=>(j3 b 1 3).bind λc=>(chk (bif c then(decide (((a.length:Nat):Int)<=6))else false) (E8 a) 0).bind λd=>(grd (H0 d)).bind λ_=>some (bif(bif c then(decide (((a.length:Nat):Int)<=6))else false)then(decide (d<40))else false))
def i5(a:Int)(b:Int)(c:Int):Option (Bool):=some (bif(decide (a ≥ b))then(decide (a<=c))else false)
def i01(b:Int)(a:Int):Option (Bool):=(chk (!decide (a=0)) (i5 a (IntKind.i64.wrap (0-b)) b) false).bind λc=>some (bif(!decide (a=0))then c else false)
def i9(a:Int)(b:Int):Option (Bool):=some (bif(bif(!decide (a=0))then(!decide (a=(-9223372036854775808)))else false)then(decide (b=(IntKind.i64.wrap (0-a))))else false)
def n8(b:C0)(d:Int):Nat->Int->Option ((Bool) ⊕ (Unit))
 |0,_=>none
 |fuel+1,a=>(if(decide (a<((b.length:Nat):Int)))=true then(gi b a).bind λe=>(i01 d e).bind λc=>(chk ((decide (a>0))&&(!(!c))) (gi b (IntKind.i64.wrap (a-1))) 0).bind λf=>(chk ((decide (a>0))&&(!(!c))) (i9 f e) false).bind λg=>(if(bif(!c)then true else(bif(decide (a>0))then g else false))=true then some (.inl false)else(n8 b d fuel (IntKind.i64.wrap (a+1))))else some (.inr ()))
def J9(a:Int)(b:C0):Option (Bool):=(i5 a 1 3).bind λd=>(if(bif(!d)then true else(decide (((b.length:Nat):Int)>24)))=true then some false else(n8 b a P0 0).bind λc=>i8 c (λ_=>some true))
def d6(a:T1):Nat->Int->Int->Option (Int)
 |0,_,_=>none
 |fuel+1,c,b=>(if(decide (b<((a.length:Nat):Int)))=true then(gi a b).bind λd=>(d6 a fuel (IntKind.i64.wrap (c+((d.length:Nat):Int))) (IntKind.i64.wrap (b+1)))else some (c))
def Y9(a:T1):Option (Int):=(d6 a P0 0 0).bind (λb=>some b)
def P6(a:T1)(c:Int):Nat->Int->Option ((Bool) ⊕ (Unit))
 |0,_=>none
 |fuel+1,b=>(if(decide (b<((a.length:Nat):Int)))=true then(gi a b).bind λd=>(J9 c d).bind λe=>(if(!e)=true then some (.inl false)else(P6 a c fuel (IntKind.i64.wrap (b+1))))else some (.inr ()))
def k00(b:Int)(a:T1):Option (Bool):=(i5 b 1 3).bind λe=>(if(bif(!e)then true else(decide (((a.length:Nat):Int)>6)))=true then some false else(P6 a b P0 0).bind λd=>i8 d (λ_=>(Y9 a).bind λc=>(grd (H0 c)).bind λ_=>some (decide (c<40))))
def A7(a:Int)(b:Int):Option (Int):=(if(decide (a<b))=true then some (-1)else(if(decide (a>b))=true then some 1 else some 0))
def F02(c:j0)(d:J0):Option (Bool):=match c with|(p0_0,p0_1,p0_2)=>match d with|(p1_0,p1_1,p1_2)=>(j3 p1_0 0 (IntKind.i64.wrap (p0_1-1))).bind λa=>(chk a (j3 p1_2 0 (IntKind.i64.wrap (p0_1-1))) false).bind λb=>(chk (bif a then b else false) (j3 p1_1 1 p0_0) false).bind λe=>some (bif(bif a then b else false)then e else false)
def d7(b:Int)(c:Int)(d:Int)(e:Int)(f:Int)(g:Int):Nat->Int->Option ((Int) ⊕ (Unit))
 |0,_=>none
 |fuel+1,a=>(if(decide (a<3))=true then(gi [b,c,d] a).bind λi=>(gi [e,f,g] a).bind λj=>(if(decide (i<j))=true then some (.inl (-1))else(gi [b,c,d] a).bind λk=>(gi [e,f,g] a).bind λh=>(if(decide (k>h))=true then some (.inl 1)else(d7 b c d e f g fuel (IntKind.i64.wrap (a+1)))))else some (.inr ()))
def d8(b:J0)(c:J0):Option (Int):=match b with|(p0_0,p0_1,p0_2)=>match c with|(p1_0,p1_1,p1_2)=>(d7 p0_0 p0_1 p0_2 p1_0 p1_1 p1_2 P0 0).bind λa=>i8 a (λ_=>some 0)
def D7(b:M0)(d:Int)(e:Int):Nat->Int->Option ((Bool) ⊕ (Unit))
 |0,_=>none
 |fuel+1,a=>(if(decide (a<((b.length:Nat):Int)))=true then(gi b a).bind λg=>match g with|(x6_0,x6_1,x6_2)=>(F02 (d,e,b) (x6_0,x6_1,x6_2)).bind λc=>(chk ((decide (a>0))&&(!(!c))) (gi b (IntKind.i64.wrap (a-1))) (0,0,0)).bind λh=>match h with|(x8_0,x8_1,x8_2)=>(chk ((decide (a>0))&&(!(!c))) (gi b a) (0,0,0)).bind λi=>match i with|(x9_0,x9_1,x9_2)=>(chk ((decide (a>0))&&(!(!c))) (d8 (x8_0,x8_1,x8_2) (x9_0,x9_1,x9_2)) 0).bind λf=>(grd (H0 f)).bind λ_=>(if(bif(!c)then true else(bif(decide (a>0))then(decide (f ≥ 0))else false))=true then some (.inl false)else(D7 b d e fuel (IntKind.i64.wrap (a+1))))else some (.inr ()))
def d4(c:j0):Option (Bool):=match c with|(p0_0,p0_1,p0_2)=>(D7 p0_2 p0_0 p0_1 P0 0).bind λb=>i8 b (λ_=>(j3 p0_0 1 3).bind λa=>(chk a (j3 p0_1 1 40) false).bind λd=>some (bif(bif a then d else false)then(decide (((p0_2.length:Nat):Int)<=120))else false))
def V3(a:j0)(b:Int):Option (Bool):=match a with|(p0_0,p0_1,p0_2)=>(i5 b 0 (IntKind.i64.wrap (p0_1-1))).bind λc=>some c
def S8(c:j0)(d:J0):Option (Bool):=match c with|(p0_0,p0_1,p0_2)=>match d with|(p1_0,p1_1,p1_2)=>(V3 (p0_0,p0_1,p0_2) p1_0).bind λa=>(chk a (V3 (p0_0,p0_1,p0_2) p1_2) false).bind λb=>(chk (bif a then b else false) (i5 p1_1 1 p0_0) false).bind λe=>some (bif(bif a then b else false)then e else false)
def B9(d:J0)(e:J0):Option (Int):=match d with|(p0_0,p0_1,p0_2)=>match e with|(p1_0,p1_1,p1_2)=>(A7 p0_0 p1_0).bind λa=>(grd (H0 a)).bind λ_=>(if(!decide (a=0))=true then some a else(A7 p0_1 p1_1).bind λb=>(grd (H0 b)).bind λ_=>(if(!decide (b=0))=true then some b else(A7 p0_2 p1_2).bind λc=>(grd (H0 c)).bind λ_=>some c))
def E7(b:M0)(d:Int)(e:Int):Nat->Int->Option ((Bool) ⊕ (Unit))
 |0,_=>none
 |fuel+1,a=>(if(decide (a<((b.length:Nat):Int)))=true then(gi b a).bind λh=>match h with|(x9_0,x9_1,x9_2)=>(S8 (d,e,b) (x9_0,x9_1,x9_2)).bind λc=>(chk ((decide (a>0))&&(!(!c))) (gi b (IntKind.i64.wrap (a-1))) (0,0,0)).bind λg=>match g with|(x11_0,x11_1,x11_2)=>(chk ((decide (a>0))&&(!(!c))) (B9 (x11_0,x11_1,x11_2) (x9_0,x9_1,x9_2)) 0).bind λf=>(grd (H0 f)).bind λ_=>(if(bif(!c)then true else(bif(decide (a>0))then(decide (f ≥ 0))else false))=true then some (.inl false)else(E7 b d e fuel (IntKind.i64.wrap (a+1))))else some (.inr ()))
def n7(c:j0):Option (Bool):=match c with|(p0_0,p0_1,p0_2)=>(i5 p0_0 1 3).bind λa=>(chk (!(!a)) (i5 p0_1 1 40) false).bind λd=>(if(bif(bif(!a)then true else(!d))then true else(decide (((p0_2.length:Nat):Int)>120)))=true then some false else(E7 p0_2 p0_0 p0_1 P0 0).bind λb=>i8 b (λ_=>some true))
def f4(b:C0)(a:Int):Nat->Bool->Int->(List Int)->Option (Bool×(List Int))
 |0,_,_,_=>none
 |fuel+1,e,c,d=>(if(decide (c<((b.length:Nat):Int)))=true then(gi b c).bind λl=>(if(decide (l=a))=true then(gi b c).bind λj=>(if(bif(decide (j>a))then(!true)else false)=true then(grd ((d.length + [a].length)*8<=140737488355328)).bind λ_=>(gi b c).bind λf=>(grd (((d ++ [a]).length + [f].length)*8<=140737488355328)).bind λ_=>(f4 b a fuel true (IntKind.i64.wrap (c+1)) ((d ++ [a]) ++ [f]))else(gi b c).bind λg=>(grd ((d.length + [g].length)*8<=140737488355328)).bind λ_=>(f4 b a fuel true (IntKind.i64.wrap (c+1)) (d ++ [g])))else(gi b c).bind λk=>(if(bif(decide (k>a))then(!e)else false)=true then(grd ((d.length + [a].length)*8<=140737488355328)).bind λ_=>(gi b c).bind λh=>(grd (((d ++ [a]).length + [h].length)*8<=140737488355328)).bind λ_=>(f4 b a fuel true (IntKind.i64.wrap (c+1)) ((d ++ [a]) ++ [h]))else(gi b c).bind λi=>(grd ((d.length + [i].length)*8<=140737488355328)).bind λ_=>(f4 b a fuel e (IntKind.i64.wrap (c+1)) (d ++ [i]))))else some (e,d))
def N8(c:C0)(a:Int):Option (C0):=(f4 c a P0 false 0 ([]:C0)).bind (λb=>match b with|(y35,y36)=>(if(!y35)=true then(grd ((y36.length + [a].length)*8<=140737488355328)).bind λ_=>some (y36 ++ [a])else some y36))
def T8(a:C0)(c:Int):Nat->Int->Option ((Bool) ⊕ (Unit))
 |0,_=>none
 |fuel+1,b=>(if(decide (b<((a.length:Nat):Int)))=true then(gi a b).bind λd=>(if(decide (d=c))=true then some (.inl true)else(T8 a c fuel (IntKind.i64.wrap (b+1))))else some (.inr ()))
def O8(b:C0)(c:Int):Option (Bool):=(T8 b c P0 0).bind λa=>i8 a (λ_=>some false)
def M3(c:M0)(a:Int)(b:Int):Nat->C0->Int->Option (C0)
 |0,_,_=>none
 |fuel+1,e,d=>(if(decide (d<((c.length:Nat):Int)))=true then(gi c d).bind λg=>match g with|(x11_0,x11_1,x11_2)=>(if(bif(bif(decide (a>0))then(decide (x11_1=a))else false)then(decide (x11_0=b))else false)=true then(N8 e x11_2).bind λf=>(if(bif(bif(decide (a<0))then(decide (x11_1=(IntKind.i64.wrap (0-a))))else false)then(decide (x11_2=b))else false)=true then(N8 f x11_0).bind λh=>(M3 c a b fuel h (IntKind.i64.wrap (d+1)))else(M3 c a b fuel f (IntKind.i64.wrap (d+1))))else(if(bif(bif(decide (a<0))then(decide (x11_1=(IntKind.i64.wrap (0-a))))else false)then(decide (x11_2=b))else false)=true then(N8 e x11_0).bind λi=>(M3 c a b fuel i (IntKind.i64.wrap (d+1)))else(M3 c a b fuel e (IntKind.i64.wrap (d+1)))))else some (e))
def M00(a:j0)(b:Int)(c:Int):Option (C0):=match a with|(p0_0,p0_1,p0_2)=>(M3 p0_2 c b P0 ([]:C0) 0).bind (λd=>some d)
def j5(b:j0)(c:Int)(d:Int):Option (Int):=match b with|(p0_0,p0_1,p0_2)=>(M00 (p0_0,p0_1,p0_2) c d).bind λa=>(if(decide (((a.length:Nat):Int)=0))=true then some (-1)else(gi a 0).bind λe=>some e)
def Q6(b:Int)(a:M0):Nat->Int->Option ((Bool) ⊕ (Unit))
 |0,_=>none
 |fuel+1,u8=>(if(decide (u8<b))=true then(gi a b).bind λc=>match c with|(x12_0,x12_1,x12_2)=>(gi a u8).bind λd=>match d with|(x13_0,x13_1,x13_2)=>(if(bif(decide (x12_1=x13_1))then(bif(decide (x12_0=x13_0))then true else(decide (x12_2=x13_2)))else false)=true then some (.inl false)else(Q6 b a fuel (IntKind.i64.wrap (u8+1))))else some (.inr ()))
def l5(a:M0)(c:Int)(d:Int):Nat->Int->Option ((Bool) ⊕ (Unit))
 |0,_=>none
 |fuel+1,b=>(chk (decide (b<((a.length:Nat):Int))) (d4 (c,d,a)) false).bind λf=>(if(bif(decide (b<((a.length:Nat):Int)))then f else false)=true then(Q6 b a P0 0).bind λe=>l0n e (λ_=>(l5 a c d fuel (IntKind.i64.wrap (b+1))))else some (.inr ()))
def L3(b:j0):Option (Bool):=match b with|(p0_0,p0_1,p0_2)=>(l5 p0_2 p0_0 p0_1 P0 0).bind λa=>i8 a (λ_=>(d4 (p0_0,p0_1,p0_2)).bind λc=>some c)
def R6(a:C0)(d:Int)(e:Int)(f:M0):Nat->Int->Int->Option ((Int×Bool) ⊕ (Int))
 |0,_,_=>none
 |fuel+1,g,b=>(if(decide (b<((a.length:Nat):Int)))=true then(gi a b).bind λh=>(j5 (d,e,f) g h).bind λc=>(grd (H0 c)).bind λ_=>(if(decide (c<0))=true then some (.inl ((-1),false))else(R6 a d e f fuel c (IntKind.i64.wrap (b+1))))else some (.inr (g)))
def l00(d:j0)(a:Int)(e:C0):Option (Int×Bool):=match d with|(p0_0,p0_1,p0_2)=>(L3 (p0_0,p0_1,p0_2)).bind λb=>(chk (!(!b)) (j3 a 0 (IntKind.i64.wrap (p0_1-1))) false).bind λf=>(if(bif(!b)then true else(!f))=true then some ((-1),false)else(R6 e p0_0 p0_1 p0_2 P0 a 0).bind λc=>i8 c (λg=>some (g,true)))
def G4(c:M0)(a:Int)(d:Int):Nat->Int->(List Int)->Option ((List Int))
 |0,_,_=>none
 |fuel+1,e,b=>(if(decide (e<((c.length:Nat):Int)))=true then(gi c e).bind λf=>match f with|(x7_0,x7_1,x7_2)=>(if(bif(bif(decide (a>0))then(decide (x7_1=a))else false)then(decide (x7_0=d))else false)=true then(grd ((b.length + [x7_2].length)*8<=140737488355328)).bind λ_=>(G4 c a d fuel (IntKind.i64.wrap (e+1)) (b ++ [x7_2]))else(if(bif(bif(bif(decide (a<0))then(!decide (a=(-9223372036854775808)))else false)then(decide (x7_1=(IntKind.i64.wrap (0-a))))else false)then(decide (x7_2=d))else false)=true then(grd ((b.length + [x7_0].length)*8<=140737488355328)).bind λ_=>(G4 c a d fuel (IntKind.i64.wrap (e+1)) (b ++ [x7_0]))else(G4 c a d fuel (IntKind.i64.wrap (e+1)) b)))else some (b))
def N00(b:j0)(c:Int)(d:Int):Option (C0):=match b with|(p0_0,p0_1,p0_2)=>(G4 p0_2 d c P0 0 ([]:C0)).bind (λa=>(grd (a.length<4611686018427387904)).bind λ_=>some (D03 eqI (q06 d9 a)))
def S6(b:j0)(c:Int)(d:Int):Option (Int):=match b with|(p0_0,p0_1,p0_2)=>(N00 (p0_0,p0_1,p0_2) c d).bind λa=>(if(decide (((a.length:Nat):Int)=0))=true then some (-1)else(gi a 0).bind λe=>some e)
def T6(b:M0)(d:Int)(c:Int)(e:Int):Nat->Int->Option ((Bool) ⊕ (Unit))
 |0,_=>none
 |fuel+1,a=>(if(decide (a<((b.length:Nat):Int)))=true then(gi b a).bind λf=>match f with|(x15_0,x15_1,x15_2)=>(if(bif(decide (d=x15_1))then(bif(decide (c=x15_0))then true else(decide (e=x15_2)))else false)=true then some (.inl false)else(T6 b d c e fuel (IntKind.i64.wrap (a+1))))else some (.inr ()))
def U6(a:M0):Nat->Int->Option ((Bool) ⊕ (Unit))
 |0,_=>none
 |fuel+1,b=>(if(decide (b<((a.length:Nat):Int)))=true then(gi a b).bind λd=>match d with|(x8_0,x8_1,x8_2)=>(m05 a (IntKind.i64.wrap (b+1)) (a.length:Int)).bind λe=>(T6 e x8_1 x8_0 x8_2 P0 0).bind λc=>l0n c (λ_=>(U6 a fuel (IntKind.i64.wrap (b+1))))else some (.inr ()))
def A6(b:j0):Option (Bool):=match b with|(p0_0,p0_1,p0_2)=>(n7 (p0_0,p0_1,p0_2)).bind λc=>(if(!c)=true then some false else(U6 p0_2 P0 0).bind λa=>i8 a (λ_=>some true))
def P5(b:C0)(e:Int)(f:Int)(g:M0):Nat->Int->Int->Option ((Int×Int) ⊕ (Int))
 |0,_,_=>none
 |fuel+1,c,a=>(if(decide (a<((b.length:Nat):Int)))=true then(gi b a).bind λh=>(S6 (e,f,g) c h).bind λd=>(grd (H0 d)).bind λ_=>(if(decide (d<0))=true then some (.inl (c,a))else(P5 b e f g fuel d (IntKind.i64.wrap (a+1))))else some (.inr (c)))
def j9(c:j0)(d:Int)(a:C0):Option (Int×Int):=match c with|(p0_0,p0_1,p0_2)=>(P5 a p0_0 p0_1 p0_2 P0 d 0).bind λb=>i8 b (λe=>some (e,((a.length:Nat):Int)))
def H4(a:j0):Option (j0):=match a with|(p0_0,p0_1,p0_2)=>(grd ((([]:M0).length+p0_2.length)*24<=140737488355328)).bind λ_=>some (p0_0,p0_1,(([]:M0)++p0_2))
def i4(e:M0)(a:Int)(b:Int)(c:Int):Nat->Bool->Int->(List J0)->Option (Bool×(List J0))
 |0,_,_,_=>none
 |fuel+1,h,f,d=>(if(decide (f<((e.length:Nat):Int)))=true then(gi e f).bind λm=>match m with|(x8_0,x8_1,x8_2)=>(d8 (a,b,c) (x8_0,x8_1,x8_2)).bind λg=>(grd (H0 g)).bind λ_=>(if(decide (g=0))=true then(if(bif(decide (g<0))then(!true)else false)=true then(grd ((d.length+([(a,b,c)]).length)*24<=140737488355328)).bind λ_=>(gi e f).bind λi=>match i with|(x14_0,x14_1,x14_2)=>(grd (((d ++ [(a,b,c)]).length+([(x14_0,x14_1,x14_2)]).length)*24<=140737488355328)).bind λ_=>(i4 e a b c fuel true (IntKind.i64.wrap (f+1)) ((d ++ [(a,b,c)]) ++ [(x14_0,x14_1,x14_2)]))else(gi e f).bind λj=>match j with|(x16_0,x16_1,x16_2)=>(grd ((d.length+([(x16_0,x16_1,x16_2)]).length)*24<=140737488355328)).bind λ_=>(i4 e a b c fuel true (IntKind.i64.wrap (f+1)) (d ++ [(x16_0,x16_1,x16_2)])))else(if(bif(decide (g<0))then(!h)else false)=true then(grd ((d.length+([(a,b,c)]).length)*24<=140737488355328)).bind λ_=>(gi e f).bind λk=>match k with|(x20_0,x20_1,x20_2)=>(grd (((d ++ [(a,b,c)]).length+([(x20_0,x20_1,x20_2)]).length)*24<=140737488355328)).bind λ_=>(i4 e a b c fuel true (IntKind.i64.wrap (f+1)) ((d ++ [(a,b,c)]) ++ [(x20_0,x20_1,x20_2)]))else(gi e f).bind λl=>match l with|(x22_0,x22_1,x22_2)=>(grd ((d.length+([(x22_0,x22_1,x22_2)]).length)*24<=140737488355328)).bind λ_=>(i4 e a b c fuel h (IntKind.i64.wrap (f+1)) (d ++ [(x22_0,x22_1,x22_2)]))))else some (h,d))
def w7(b:M0)(c:J0):Option (M0):=match c with|(p1_0,p1_1,p1_2)=>(i4 b p1_0 p1_1 p1_2 P0 false 0 ([]:M0)).bind (λa=>match a with|(y35,y36)=>(if(!y35)=true then(grd ((y36.length+([(p1_0,p1_1,p1_2)]).length)*24<=140737488355328)).bind λ_=>some (y36 ++ [(p1_0,p1_1,p1_2)])else some y36))
def A3(a:M0)(c:Int):Nat->Int->Int->Option (Int)
 |0,_,_=>none
 |fuel+1,d,b=>(if(decide (b<((a.length:Nat):Int)))=true then(gi a b).bind λf=>match f with|(x7_0,x7_1,x7_2)=>(if(decide (x7_0=c))=true then(gi a b).bind λg=>match g with|(x9_0,x9_1,x9_2)=>(if(decide (x9_2=c))=true then(A3 a c fuel (IntKind.i64.wrap ((IntKind.i64.wrap (d+1))+1)) (IntKind.i64.wrap (b+1)))else(A3 a c fuel (IntKind.i64.wrap (d+1)) (IntKind.i64.wrap (b+1))))else(gi a b).bind λe=>match e with|(x11_0,x11_1,x11_2)=>(if(decide (x11_2=c))=true then(A3 a c fuel (IntKind.i64.wrap (d+1)) (IntKind.i64.wrap (b+1)))else(A3 a c fuel d (IntKind.i64.wrap (b+1)))))else some (d))
def m00(a:j0)(b:Int):Option (Int):=match a with|(p0_0,p0_1,p0_2)=>(A3 p0_2 b P0 0 0).bind (λc=>some c)
def i6(b:M0)(c:M0):Nat->Int->Option ((Bool) ⊕ (Unit))
 |0,_=>none
 |fuel+1,a=>(if(decide (a<((b.length:Nat):Int)))=true then(gi b a).bind λd=>match d with|(x7_0,x7_1,x7_2)=>(gi c a).bind λe=>match e with|(x8_0,x8_1,x8_2)=>(if(!eqE (x7_0,x7_1,x7_2) (x8_0,x8_1,x8_2))=true then some (.inl false)else(i6 b c fuel (IntKind.i64.wrap (a+1))))else some (.inr ()))
def F8(b:j0)(c:j0):Option (Bool):=match b with|(p0_0,p0_1,p0_2)=>match c with|(p1_0,p1_1,p1_2)=>(if(bif(bif(!decide (p0_0=p1_0))then true else(!decide (p0_1=p1_1)))then true else(!decide (((p0_2.length:Nat):Int)=((p1_2.length:Nat):Int))))=true then some false else(i6 p0_2 p1_2 P0 0).bind λa=>i8 a (λ_=>some true))
def l3(a:M0):Nat->C0->Int->Option (C0)
 |0,_,_=>none
 |fuel+1,b,c=>(if(decide (c<((a.length:Nat):Int)))=true then(gi a c).bind λe=>match e with|(x24_0,x24_1,x24_2)=>(O8 b x24_0).bind λf=>(if f=true then(N8 b x24_2).bind λd=>(O8 d x24_2).bind λg=>(if g=true then(N8 d x24_0).bind λh=>(l3 a fuel h (IntKind.i64.wrap (c+1)))else(l3 a fuel d (IntKind.i64.wrap (c+1))))else(O8 b x24_2).bind λi=>(if i=true then(N8 b x24_0).bind λj=>(l3 a fuel j (IntKind.i64.wrap (c+1)))else(l3 a fuel b (IntKind.i64.wrap (c+1)))))else some (b))
def A5(a:M0):Nat->C0->Int->Option (C0)
 |0,_,_=>none
 |fuel+1,b,c=>(if(decide (c<(IntKind.i64.wrap (((a.length:Nat):Int)+1))))=true then(l3 a P0 b 0).bind (λd=>(A5 a fuel d (IntKind.i64.wrap (c+1))))else some (b))
def Z9(c:j0)(a:Int):Option (C0):=match c with|(p0_0,p0_1,p0_2)=>(d4 (p0_0,p0_1,p0_2)).bind λb=>(chk (!(!b)) (j3 a 0 (IntKind.i64.wrap (p0_1-1))) false).bind λd=>(if(bif(!b)then true else(!d))=true then some ([]:C0)else(A5 p0_2 P0 [a] 0).bind (λe=>some e))
def o8(b:Int)(d:Int)(e:M0)(f:C0):Nat->Int->Option ((Int) ⊕ (Unit))
 |0,_=>none
 |fuel+1,a=>(if(decide (a<b))=true then(m00 (d,b,e) a).bind λc=>(grd (H0 c)).bind λ_=>(chk (!(decide (c<2))) (O8 f a) false).bind λg=>(if(bif(decide (c<2))then true else(!g))=true then some (.inl a)else(o8 b d e f fuel (IntKind.i64.wrap (a+1))))else some (.inr ()))
def z01(b:j0):Option (Int):=match b with|(p0_0,p0_1,p0_2)=>(Z9 (p0_0,p0_1,p0_2) 0).bind λc=>(o8 p0_1 p0_0 p0_2 c P0 1).bind λa=>i8 a (λ_=>some (-1))
def G3(b:M0)(a:(List Int)):Nat->Int->Int->Int->M0->Option (Int×Int×M0)
 |0,_,_,_,_=>none
 |fuel+1,c,d,e,f=>(if(decide (c<((b.length:Nat):Int)))=true then(gi b c).bind λh=>match h with|(x31_0,x31_1,x31_2)=>(gi a x31_0).bind λg=>(chk (decide (g>0)) (gi a x31_2) 0).bind λi=>(if(bif(decide (g>0))then(decide (i>0))else false)=true then(gi a x31_0).bind λj=>(gi a x31_2).bind λk=>(w7 f ((IntKind.i64.wrap (j-1)),x31_1,(IntKind.i64.wrap (k-1)))).bind λl=>(G3 b a fuel (IntKind.i64.wrap (c+1)) d e l)else(G3 b a fuel (IntKind.i64.wrap (c+1)) d e f))else some (d,e,f))
def j4(a:C0)(c:Int)(e:Int)(f:M0):Nat->Int->(List Int)->Option ((j0×Bool) ⊕ ((List Int)))
 |0,_,_=>none
 |fuel+1,u8,b=>(if(decide (u8<((a.length:Nat):Int)))=true then(gi a u8).bind λh=>(j3 h 0 (IntKind.i64.wrap (c-1))).bind λd=>(chk (!(!d)) (gi a u8) 0).bind λi=>(chk (!(!d)) (gi b i) 0).bind λj=>(if(bif(!d)then true else(!decide (j=0)))=true then(H4 (e,c,f)).bind λk=>match k with|(x18_0,x18_1,x18_2)=>some (.inl ((x18_0,x18_1,x18_2),false))else(gi a u8).bind λg=>(gi b g).bind λl=>(j4 a c e f fuel (IntKind.i64.wrap (u8+1)) (b.set g.toNat (IntKind.i64.wrap (u8+1)))))else some (.inr (b)))
def j6(d:j0)(a:C0):Option (j0×Bool):=match d with|(p0_0,p0_1,p0_2)=>(d4 (p0_0,p0_1,p0_2)).bind λe=>(if(bif(bif(!e)then true else(decide (((a.length:Nat):Int)=0)))then true else(decide (((a.length:Nat):Int)>p0_1)))=true then(H4 (p0_0,p0_1,p0_2)).bind λf=>match f with|(x3_0,x3_1,x3_2)=>some ((x3_0,x3_1,x3_2),false)else(grd ((0:Int)<=p0_1/\p0_1<=p0_1/\p0_1*8<=140737488355328/\p0_1<=9223372036854775807)).bind λ_=>(j4 a p0_1 p0_0 p0_2 P0 0 (List.replicate p0_1.toNat (0:Int))).bind λc=>i8 c (λg=>(G3 p0_2 g P0 0 p0_0 ((a.length:Nat):Int) ([]:M0)).bind (λb=>match b with|(y94,y95,y96)=>some ((y94,y95,y96),true))))
def l6(c:Int):Nat->Int->(List Int)->Option ((List Int))
 |0,_,_=>none
 |fuel+1,a,b=>(if(decide (a<=c))=true then(grd ((b.length + [a].length)*8<=140737488355328)).bind λ_=>(grd (((b ++ [a]).length+([(IntKind.i64.wrap (0-a))]).length)*8<=140737488355328)).bind λ_=>(l6 c fuel (IntKind.i64.wrap (a+1)) ((b ++ [a]) ++ [(IntKind.i64.wrap (0-a))]))else some (b))
def D6(a:Int):Option (C0):=(l6 a P0 1 ([]:C0)).bind (λb=>some b)
def B3(d:C0)(h:Int)(e:Int)(f:Int)(g:M0):Nat->Int->(List Int)->Option ((List Int))
 |0,_,_=>none
 |fuel+1,c,a=>(if(decide (c<((d.length:Nat):Int)))=true then(gi a h).bind λi=>(gi d c).bind λj=>(j5 (e,f,g) i j).bind λb=>(grd (H0 b)).bind λ_=>(chk (decide (b ≥ 0)) (O8 a b) false).bind λk=>(if(bif(decide (b ≥ 0))then(!k)else false)=true then(grd ((a.length + [b].length)*8<=140737488355328)).bind λ_=>(B3 d h e f g fuel (IntKind.i64.wrap (c+1)) (a ++ [b]))else(B3 d h e f g fuel (IntKind.i64.wrap (c+1)) a))else some (a))
def Z4(g:C0)(d:Int)(e:Int)(f:M0):Nat->Int->(List Int)->Option ((List Int))
 |0,_,_=>none
 |fuel+1,a,b=>(some b.length).bind λc=>(grd (c<=9223372036854775807)).bind λ_=>(if(decide (a<((c:Nat):Int)))=true then(B3 g a d e f P0 0 b).bind (λh=>(Z4 g d e f fuel (IntKind.i64.wrap (a+1)) h))else some (b))
def A8(a:j0):Option (C0):=match a with|(p0_0,p0_1,p0_2)=>(L3 (p0_0,p0_1,p0_2)).bind λb=>(if(!b)=true then some ([]:C0)else(D6 p0_0).bind λc=>(Z4 c p0_0 p0_1 p0_2 P0 0 [0]).bind (λd=>some d))
def g7(b:j0):Option (j0):=match b with|(p0_0,p0_1,p0_2)=>(A8 (p0_0,p0_1,p0_2)).bind λa=>(if(decide (((a.length:Nat):Int)=0))=true then(H4 (p0_0,p0_1,p0_2)).bind λc=>match c with|(x5_0,x5_1,x5_2)=>some (x5_0,x5_1,x5_2)else(j6 (p0_0,p0_1,p0_2) a).bind λd=>match d with|(x8_0,x8_1)=>match x8_0 with|(x8_0_0,x8_0_1,x8_0_2)=>some (x8_0_0,x8_0_1,x8_0_2))
def G00(c:j0):Option (Bool):=match c with|(p0_0,p0_1,p0_2)=>(L3 (p0_0,p0_1,p0_2)).bind λa=>(chk a (z01 (p0_0,p0_1,p0_2)) 0).bind λb=>(grd (H0 b)).bind λf=>(chk (bif a then(decide (b<0))else false) (g7 (p0_0,p0_1,p0_2)) (0,0,[])).bind λd=>match d with|(x10_0,x10_1,x10_2)=>(chk (bif a then(decide (b<0))else false) (F8 (x10_0,x10_1,x10_2) (p0_0,p0_1,p0_2)) false).bind λe=>some (bif(bif a then(decide (b<0))else false)then e else false)
def O2(a:j0):Option (Bool):=match a with|(p0_0,p0_1,p0_2)=>(G00 (p0_0,p0_1,p0_2)).bind λb=>some b
def W3(a:j0):Option (j0):=match a with|(p0_0,p0_1,p0_2)=>(grd ((([]:M0).length+p0_2.length)*24<=140737488355328)).bind λ_=>some (p0_0,p0_1,(([]:M0)++p0_2))
def n5(b:M0)(a:Int):Nat->Int->Int->Option (Int)
 |0,_,_=>none
 |fuel+1,d,c=>(if(decide (c<((b.length:Nat):Int)))=true then(gi b c).bind λe=>match e with|(x7_0,x7_1,x7_2)=>(if(decide (x7_0=a))=true then(if(decide (x7_2=a))=true then(n5 b a fuel (IntKind.i64.wrap ((IntKind.i64.wrap (d+1))+1)) (IntKind.i64.wrap (c+1)))else(n5 b a fuel (IntKind.i64.wrap (d+1)) (IntKind.i64.wrap (c+1))))else(if(decide (x7_2=a))=true then(n5 b a fuel (IntKind.i64.wrap (d+1)) (IntKind.i64.wrap (c+1)))else(n5 b a fuel d (IntKind.i64.wrap (c+1)))))else some (d))
def j01(a:j0)(b:Int):Option (Int):=match a with|(p0_0,p0_1,p0_2)=>(n5 p0_2 b P0 0 0).bind (λc=>some c)
def H1(b:M0)(c:M0):Nat->Int->Option ((Bool) ⊕ (Unit))
 |0,_=>none
 |fuel+1,a=>(if(decide (a<((b.length:Nat):Int)))=true then(gi b a).bind λd=>match d with|(x7_0,x7_1,x7_2)=>(gi c a).bind λe=>match e with|(x8_0,x8_1,x8_2)=>(if(!eqE (x7_0,x7_1,x7_2) (x8_0,x8_1,x8_2))=true then some (.inl false)else(H1 b c fuel (IntKind.i64.wrap (a+1))))else some (.inr ()))
def J2(a:M0)(b:M0):Option (Bool):=(if(!decide (((a.length:Nat):Int)=((b.length:Nat):Int)))=true then some false else(H1 a b P0 0).bind λc=>i8 c (λ_=>some true))
def G8(a:j0)(b:j0):Option (Bool):=match a with|(p0_0,p0_1,p0_2)=>match b with|(p1_0,p1_1,p1_2)=>(chk (bif(decide (p0_0=p1_0))then(decide (p0_1=p1_1))else false) (J2 p0_2 p1_2) false).bind λc=>some (bif(bif(decide (p0_0=p1_0))then(decide (p0_1=p1_1))else false)then c else false)
def P3(b:M0):Nat->Bool->Int->(List Bool)->Option (Bool×(List Bool))
 |0,_,_,_=>none
 |fuel+1,d,c,a=>(if(decide (c<((b.length:Nat):Int)))=true then(gi b c).bind λe=>match e with|(x16_0,x16_1,x16_2)=>(gi a x16_0).bind λf=>(gi a x16_2).bind λg=>(if(!(f == g))=true then(gi a x16_0).bind λh=>(gi (a.set x16_0.toNat true) x16_2).bind λi=>(P3 b fuel true (IntKind.i64.wrap (c+1)) ((a.set x16_0.toNat true).set x16_2.toNat true))else(P3 b fuel d (IntKind.i64.wrap (c+1)) a))else some (d,a))
def O4(a:M0):Nat->Bool->(List Bool)->Option ((List Bool))
 |0,_,_=>none
 |fuel+1,d,b=>(if d=true then(P3 a P0 false 0 b).bind (λc=>match c with|(y23,y24)=>(O4 a fuel y23 y24))else some (b))
def C9(b:j0)(a:Int):Option ((List Bool)):=match b with|(p0_0,p0_1,p0_2)=>(grd ((0:Int)<=p0_1/\p0_1<=p0_1/\p0_1*1<=140737488355328/\p0_1<=9223372036854775807)).bind λ_=>(gi (List.replicate p0_1.toNat (false:Bool)) a).bind λd=>(O4 p0_2 P0 true ((List.replicate p0_1.toNat (false:Bool)).set a.toNat true)).bind (λc=>some c)
def F7(c:Int):Nat->Int->(List Int)->Option ((List Int))
 |0,_,_=>none
 |fuel+1,a,b=>(if(decide (a<=c))=true then(grd ((b.length+([a,(IntKind.i64.wrap (0-a))]).length)*8<=140737488355328)).bind λ_=>(F7 c fuel (IntKind.i64.wrap (a+1)) (b ++ [a,(IntKind.i64.wrap (0-a))]))else some (b))
def U8(a:Int):Option (C0):=(F7 a P0 1 ([]:C0)).bind (λb=>some b)
def K9(a:M0):Option (M0):=(grd ((([]:M0).length+a.length)*24<=140737488355328)).bind λ_=>(grd ((([]:M0)++a).length<4611686018427387904)).bind λ_=>some (D03 eqE (q06 O0 (([]:M0)++a)))
def P8(b:M0)(a:(List Int)):Nat->Int->Int->Int->(List J0)->Option (Int×Int×(List J0))
 |0,_,_,_,_=>none
 |fuel+1,c,e,f,d=>(if(decide (c<((b.length:Nat):Int)))=true then(gi b c).bind λj=>match j with|(x27_0,x27_1,x27_2)=>(gi a x27_0).bind λg=>(chk (decide (g ≥ 0)) (gi a x27_2) 0).bind λk=>(if(bif(decide (g ≥ 0))then(decide (k ≥ 0))else false)=true then(gi a x27_0).bind λh=>(gi a x27_2).bind λi=>(grd ((d.length+([(h,x27_1,i)]).length)*24<=140737488355328)).bind λ_=>(P8 b a fuel (IntKind.i64.wrap (c+1)) e f (d ++ [(h,x27_1,i)]))else(P8 b a fuel (IntKind.i64.wrap (c+1)) e f d))else some (e,f,d))
def L9(b:C0):Nat->Int->(List Int)->Option ((List Int))
 |0,_,_=>none
 |fuel+1,a,c=>(if(decide (a<((b.length:Nat):Int)))=true then(gi b a).bind λd=>(gi c d).bind λe=>(L9 b fuel (IntKind.i64.wrap (a+1)) (c.set d.toNat a))else some (c))
def M9(c:Nat):Nat->Int->(List Int)->Option ((List Int))
 |0,_,_=>none
 |fuel+1,a,b=>(if(decide (a<((c:Nat):Int)))=true then(gi b a).bind λd=>(M9 c fuel (IntKind.i64.wrap (a+1)) (b.set a.toNat (-1)))else some (b))
def V01(d:j0)(b:C0):Option (j0):=match d with|(p0_0,p0_1,p0_2)=>(grd ((0:Int)<=p0_1/\p0_1<=p0_1/\p0_1*8<=140737488355328/\p0_1<=9223372036854775807)).bind λ_=>(some (List.replicate p0_1.toNat (0:Int)).length).bind λa=>(grd (a<=9223372036854775807)).bind λ_=>(M9 a P0 0 (List.replicate p0_1.toNat (0:Int))).bind (λf=>(L9 b P0 0 f).bind (λg=>(P8 p0_2 g P0 0 p0_0 ((b.length:Nat):Int) ([]:M0)).bind (λc=>match c with|(y203,y204,y205)=>(K9 y205).bind λe=>some (y203,y204,e))))
def k01(a:C0):Option (C0):=(grd ((([]:C0).length+a.length)*8<=140737488355328)).bind λ_=>some (([]:C0)++a)
def Y2(f:C0)(g:Int)(h:Int)(i:M0)(e:Int):Nat->Int->(List (Option C0))->(List Int)->Option ((List (Option C0))×(List Int))
 |0,_,_,_=>none
 |fuel+1,c,b,d=>(if(decide (c<((f.length:Nat):Int)))=true then(gi f c).bind λj=>(S6 (g,h,i) e j).bind λa=>(grd (H0 a)).bind λ_=>(chk (decide (a ≥ 0)) (gi b a) (none:Option C0)).bind λl=>(if(bif(decide (a ≥ 0))then l.isNone else false)=true then(gi b e).bind λm=>(k01 (m.getD [])).bind λk=>(grd ((k.length + [j].length)*8<=140737488355328)).bind λ_=>(gi b a).bind λn=>(grd ((d.length + [a].length)*8<=140737488355328)).bind λ_=>(Y2 f g h i e fuel (IntKind.i64.wrap (c+1)) (b.set a.toNat (some (k ++ [j]))) (d ++ [a]))else(Y2 f g h i e fuel (IntKind.i64.wrap (c+1)) b d))else some (b,d))
def S4(b:Int)(d:Int)(e:M0):Nat->Int->(List (Option C0))->(List Int)->Option ((List (Option C0))×(List Int))
 |0,_,_,_=>none
 |fuel+1,u8,f,a=>(some a.length).bind λc=>(grd (c<=9223372036854775807)).bind λ_=>(if(decide (u8<((c:Nat):Int)))=true then(gi a u8).bind λh=>(U8 b).bind λi=>(Y2 i b d e h P0 0 f a).bind (λg=>match g with|(y41,y42)=>(S4 b d e fuel (IntKind.i64.wrap (u8+1)) y41 y42))else some (f,a))
def V6(c:j0)(a:Int):Option (C0×T1):=match c with|(p0_0,p0_1,p0_2)=>(grd ((0:Int)<=p0_1/\p0_1<=p0_1/\p0_1*24<=140737488355328/\p0_1<=9223372036854775807)).bind λ_=>(gi (List.replicate p0_1.toNat (none:Option C0)) a).bind λd=>(S4 p0_0 p0_1 p0_2 P0 0 ((List.replicate p0_1.toNat (none:Option C0)).set a.toNat (some ([]:C0))) [a]).bind (λb=>match b with|(y54,y55)=>some (y55,(List.map (λo:Option C0=>o.getD ([]:C0)) y54)))
def B8(a:j0):Option (C0):=match a with|(p0_0,p0_1,p0_2)=>(A6 (p0_0,p0_1,p0_2)).bind λb=>(if(!b)=true then some ([]:C0)else(V6 (p0_0,p0_1,p0_2) 0).bind λc=>match c with|(x7_0,x7_1)=>some x7_0)
def i7(a:j0):Option (j0):=match a with|(p0_0,p0_1,p0_2)=>(A6 (p0_0,p0_1,p0_2)).bind λb=>(if(!b)=true then(W3 (p0_0,p0_1,p0_2)).bind λd=>match d with|(x3_0,x3_1,x3_2)=>some (x3_0,x3_1,x3_2)else(B8 (p0_0,p0_1,p0_2)).bind λe=>(V01 (p0_0,p0_1,p0_2) e).bind λc=>match c with|(x10_0,x10_1,x10_2)=>some (x10_0,x10_1,x10_2))
def D5(c:Int)(d:Int):Nat->Int->(List Int)->Option ((List Int))
 |0,_,_=>none
 |fuel+1,a,b=>(if(decide (a<c))=true then(if(!decide (a=d))=true then(grd ((b.length + [a].length)*8<=140737488355328)).bind λ_=>(D5 c d fuel (IntKind.i64.wrap (a+1)) (b ++ [a]))else(D5 c d fuel (IntKind.i64.wrap (a+1)) b))else some (b))
def O3(b:Int)(c:Int)(d:M0)(f:(List Bool)):Nat->Int->Int->Option (Int)
 |0,_,_=>none
 |fuel+1,e,a=>(if(bif(decide (a<b))then(decide (e=0))else false)=true then(j01 (c,b,d) a).bind λg=>(grd (H0 g)).bind λ_=>(chk (!(decide (g<2))) (gi f a) false).bind λh=>(if(bif(decide (g<2))then true else(!h))=true then(O3 b c d f fuel a (IntKind.i64.wrap (a+1)))else(O3 b c d f fuel e (IntKind.i64.wrap (a+1))))else some (e))
def E5:Nat->C0->Int->Int->M0->Option ((j0×C0) ⊕ (Int×Int×M0))
 |0,_,_,_,_=>none
 |fuel+1,b,c,a,d=>(C9 (c,a,d) 0).bind λi=>(O3 a c d i P0 0 1).bind (λe=>(if(decide (e=0))=true then some (.inl ((c,a,d),b))else(D5 a e P0 0 ([]:C0)).bind (λj=>(V01 (c,a,d) j).bind λh=>match h with|(x117_0,x117_1,x117_2)=>(m05 b 0 e).bind λf=>(m05 b (IntKind.i64.wrap (e+1)) (b.length:Int)).bind λg=>(grd ((f.length+g.length)*8<=140737488355328)).bind λ_=>(E5 fuel (f++g) x117_0 x117_1 x117_2))))
def o6(c:Int):Nat->Int->(List Int)->Option ((List Int))
 |0,_,_=>none
 |fuel+1,a,b=>(if(decide (a<c))=true then(grd ((b.length + [a].length)*8<=140737488355328)).bind λ_=>(o6 c fuel (IntKind.i64.wrap (a+1)) (b ++ [a]))else some (b))
def G7(b:j0):Option (j0×C0):=match b with|(p0_0,p0_1,p0_2)=>(W3 (p0_0,p0_1,p0_2)).bind λc=>match c with|(x1_0,x1_1,x1_2)=>(n7 (p0_0,p0_1,p0_2)).bind λd=>(if(!d)=true then some ((x1_0,x1_1,x1_2),([]:C0))else(o6 p0_1 P0 0 ([]:C0)).bind (λe=>(E5 P0 e x1_0 x1_1 x1_2).bind λa=>i8 a (λ_=>none)))
def L5(a:j0):Option (Bool):=match a with|(p0_0,p0_1,p0_2)=>(A6 (p0_0,p0_1,p0_2)).bind λb=>(if(!b)=true then some false else(G7 (p0_0,p0_1,p0_2)).bind λd=>match d with|(x3_0,x3_1)=>match x3_0 with|(x3_0_0,x3_0_1,x3_0_2)=>(chk (decide (x3_0_1=p0_1)) (i7 (p0_0,p0_1,p0_2)) (0,0,[])).bind λe=>match e with|(x8_0,x8_1,x8_2)=>(chk (decide (x3_0_1=p0_1)) (G8 (x8_0,x8_1,x8_2) (p0_0,p0_1,p0_2)) false).bind λc=>some (bif(decide (x3_0_1=p0_1))then c else false))
def l01(a:Int):Option (j0×Bool):=(j3 a 1 3).bind λb=>(if(!b)=true then some ((0,0,[]),false)else some ((a,1,[]),true))
def c5(a:C0)(d:Int):Nat->Int->Int->Int->Int->M0->Option (Int×Int×M0)
 |0,_,_,_,_,_=>none
 |fuel+1,g,b,e,c,f=>(if(decide (b<((a.length:Nat):Int)))=true then(if(decide ((IntKind.i64.wrap (b+1))<((a.length:Nat):Int)))=true then(gi a b).bind λh=>(if(decide (h>0))=true then(gi a b).bind λi=>(w7 f (g,i,c)).bind λj=>(c5 a d fuel c (IntKind.i64.wrap (b+1)) e (IntKind.i64.wrap (c+1)) j)else(gi a b).bind λk=>(w7 f (c,(IntKind.i64.wrap (0-k)),g)).bind λl=>(c5 a d fuel c (IntKind.i64.wrap (b+1)) e (IntKind.i64.wrap (c+1)) l))else(gi a b).bind λm=>(if(decide (m>0))=true then(gi a b).bind λn=>(w7 f (g,n,d)).bind λo=>(c5 a d fuel d (IntKind.i64.wrap (b+1)) e c o)else(gi a b).bind λp=>(w7 f (d,(IntKind.i64.wrap (0-p)),g)).bind λq=>(c5 a d fuel d (IntKind.i64.wrap (b+1)) e c q)))else some (e,c,f))
def Q00(h:j0)(d:Int)(a:C0)(e:Int):Option (j0×Bool):=match h with|(p0_0,p0_1,p0_2)=>(H4 (p0_0,p0_1,p0_2)).bind λi=>match i with|(x1_0,x1_1,x1_2)=>(d4 (p0_0,p0_1,p0_2)).bind λb=>(chk (!(!b)) (j3 d 0 (IntKind.i64.wrap (p0_1-1))) false).bind λc=>(chk (!(bif(!b)then true else(!c))) (j3 e 0 (IntKind.i64.wrap (p0_1-1))) false).bind λf=>(chk (!(bif(bif(!b)then true else(!c))then true else(!f))) (I9 p0_0 a) false).bind λj=>(if(bif(bif(bif(bif(bif(bif(!b)then true else(!c))then true else(!f))then true else(!j))then true else(decide (((a.length:Nat):Int)=0)))then true else(decide ((IntKind.i64.wrap ((IntKind.i64.wrap (p0_1+((a.length:Nat):Int)))-1))>40)))then true else(decide ((IntKind.i64.wrap (((p0_2.length:Nat):Int)+((a.length:Nat):Int)))>120)))=true then some ((x1_0,x1_1,x1_2),false)else(c5 a e P0 d 0 x1_0 x1_1 x1_2).bind (λg=>match g with|(y68,y69,y70)=>some ((y68,y69,y70),true)))
def m01(a:j0)(b:C0):Option (j0×Bool):=match a with|(p0_0,p0_1,p0_2)=>(Q00 (p0_0,p0_1,p0_2) 0 b 0).bind λc=>match c with|(x1_0,x1_1)=>match x1_0 with|(x1_0_0,x1_0_1,x1_0_2)=>some ((x1_0_0,x1_0_1,x1_0_2),x1_1)
def W6(a:T1):Nat->Int->Int->Int->M0->Option (Int×Int×M0)
 |0,_,_,_,_=>none
 |fuel+1,b,u8,d,c=>(if(decide (b<((a.length:Nat):Int)))=true then(gi a b).bind λe=>(m01 (u8,d,c) e).bind λf=>match f with|(x19_0,x19_1)=>match x19_0 with|(x19_0_0,x19_0_1,x19_0_2)=>(W6 a fuel (IntKind.i64.wrap (b+1)) x19_0_0 x19_0_1 x19_0_2)else some (u8,d,c))
def n01(a:Int)(b:T1):Option (j0×Bool):=(j00 a b).bind λd=>(if(!d)=true then some ((0,0,[]),false)else(l01 a).bind λe=>match e with|(x3_0,x3_1)=>match x3_0 with|(x3_0_0,x3_0_1,x3_0_2)=>(W6 b P0 0 x3_0_0 x3_0_1 x3_0_2).bind (λc=>match c with|(y35,y36,y37)=>some ((y35,y36,y37),true)))
def Y3(b:M0)(c:Int):Nat->Int->(List O5)->Option ((List O5))
 |0,_,_=>none
 |fuel+1,u8,a=>(if(decide (u8<((b.length:Nat):Int)))=true then(gi b c).bind λd=>match d with|(x13_0,x13_1,x13_2)=>(gi b u8).bind λe=>match e with|(x14_0,x14_1,x14_2)=>(if(bif(decide (x13_1=x14_1))then(decide (x13_0=x14_0))else false)=true then(grd ((a.length+([((if x14_2<x13_2 then x14_2 else x13_2),(if x14_2>x13_2 then x14_2 else x13_2))]).length)*16<=140737488355328)).bind λ_=>(if(bif(decide (x13_1=x14_1))then(decide (x13_2=x14_2))else false)=true then(grd (((a ++ [((if x14_2<x13_2 then x14_2 else x13_2),(if x14_2>x13_2 then x14_2 else x13_2))]).length+([((if x14_0<x13_0 then x14_0 else x13_0),(if x14_0>x13_0 then x14_0 else x13_0))]).length)*16<=140737488355328)).bind λ_=>(Y3 b c fuel (IntKind.i64.wrap (u8+1)) ((a ++ [((if x14_2<x13_2 then x14_2 else x13_2),(if x14_2>x13_2 then x14_2 else x13_2))]) ++ [((if x14_0<x13_0 then x14_0 else x13_0),(if x14_0>x13_0 then x14_0 else x13_0))]))else(Y3 b c fuel (IntKind.i64.wrap (u8+1)) (a ++ [((if x14_2<x13_2 then x14_2 else x13_2),(if x14_2>x13_2 then x14_2 else x13_2))])))else(if(bif(decide (x13_1=x14_1))then(decide (x13_2=x14_2))else false)=true then(grd ((a.length+([((if x14_0<x13_0 then x14_0 else x13_0),(if x14_0>x13_0 then x14_0 else x13_0))]).length)*16<=140737488355328)).bind λ_=>(Y3 b c fuel (IntKind.i64.wrap (u8+1)) (a ++ [((if x14_0<x13_0 then x14_0 else x13_0),(if x14_0>x13_0 then x14_0 else x13_0))]))else(Y3 b c fuel (IntKind.i64.wrap (u8+1)) a)))else some (a))
def H7(b:M0):Nat->Int->(List O5)->Option ((List O5))
 |0,_,_=>none
 |fuel+1,a,c=>(if(decide (a<((b.length:Nat):Int)))=true then(Y3 b a P0 (IntKind.i64.wrap (a+1)) c).bind (λd=>(H7 b fuel (IntKind.i64.wrap (a+1)) d))else some (c))
def Z01(a:j0):Option (R8):=match a with|(p0_0,p0_1,p0_2)=>(H7 p0_2 P0 0 ([]:R8)).bind (λb=>some b)
def R9(b:j0):Option (O5×Bool):=match b with|(p0_0,p0_1,p0_2)=>(d4 (p0_0,p0_1,p0_2)).bind λc=>(if(!c)=true then some ((0,0),false)else(Z01 (p0_0,p0_1,p0_2)).bind λa=>(if(decide (((a.length:Nat):Int)=0))=true then some ((0,0),false)else(gi a 0).bind λd=>match d with|(x7_0,x7_1)=>some ((x7_0,x7_1),true)))
def q02(a:Int)(b:O5):Option (Int):=match b with|(p1_0,p1_1)=>(if(decide (a=p1_1))=true then(if(decide (p1_0>p1_1))=true then some (IntKind.i64.wrap (p1_0-1))else some p1_0)else(if(decide (a>p1_1))=true then some (IntKind.i64.wrap (a-1))else some a))
def w4(a:M0)(b:Int)(c:Int):Nat->Int->Int->Int->M0->Option (Int×Int×M0)
 |0,_,_,_,_=>none
 |fuel+1,d,u8,f,e=>(if(decide (d<((a.length:Nat):Int)))=true then(gi a d).bind λi=>match i with|(x14_0,x14_1,x14_2)=>(q02 x14_0 (b,c)).bind λg=>(grd (H0 g)).bind λk=>(q02 x14_2 (b,c)).bind λh=>(grd (H0 h)).bind λl=>(w7 e (g,x14_1,h)).bind λj=>(w4 a b c fuel (IntKind.i64.wrap (d+1)) u8 f j)else some (u8,f,e))
def I7(b:j0)(c:O5):Option (j0×Bool):=match b with|(p0_0,p0_1,p0_2)=>match c with|(p1_0,p1_1)=>(d4 (p0_0,p0_1,p0_2)).bind λd=>(if(bif(bif(bif(!d)then true else(decide (p1_0<0)))then true else(decide (p1_0 ≥ p1_1)))then true else(decide (p1_1 ≥ p0_1)))=true then(H4 (p0_0,p0_1,p0_2)).bind λe=>match e with|(x3_0,x3_1,x3_2)=>some ((x3_0,x3_1,x3_2),false)else(w4 p0_2 p1_0 p1_1 P0 0 p0_0 (IntKind.i64.wrap (p0_1-1)) ([]:M0)).bind (λa=>match a with|(y29,y30,y31)=>some ((y29,y30,y31),true)))
def o01(a:j0):Option (j0×O5×Bool):=match a with|(p0_0,p0_1,p0_2)=>(R9 (p0_0,p0_1,p0_2)).bind λb=>match b with|(x1_0,x1_1)=>match x1_0 with|(x1_0_0,x1_0_1)=>(if(!x1_1)=true then(H4 (p0_0,p0_1,p0_2)).bind λc=>match c with|(x5_0,x5_1,x5_2)=>some ((x5_0,x5_1,x5_2),(0,0),false)else(I7 (p0_0,p0_1,p0_2) (x1_0_0,x1_0_1)).bind λd=>match d with|(x8_0,x8_1)=>match x8_0 with|(x8_0_0,x8_0_1,x8_0_2)=>some ((x8_0_0,x8_0_1,x8_0_2),(x1_0_0,x1_0_1),true))
def E6:Nat->Int->Int->Int->M0->(List O5)->Option ((j0×R8) ⊕ (Int×Int×M0×(List O5)))
 |0,_,_,_,_,_=>none
 |fuel+1,d,b,c,u8,a=>(if(decide (d<40))=true then(o01 (b,c,u8)).bind λe=>match e with|(x13_0,x13_1,x13_2)=>match x13_0 with|(x13_0_0,x13_0_1,x13_0_2)=>match x13_1 with|(x13_1_0,x13_1_1)=>(if(!x13_2)=true then some (.inl ((b,c,u8),a))else(grd ((a.length+([(x13_1_0,x13_1_1)]).length)*16<=140737488355328)).bind λ_=>(E6 fuel (IntKind.i64.wrap (d+1)) x13_0_0 x13_0_1 x13_0_2 (a ++ [(x13_1_0,x13_1_1)])))else some (.inr (b,c,u8,a)))
def a02(c:j0):Option (j0×R8):=match c with|(p0_0,p0_1,p0_2)=>(H4 (p0_0,p0_1,p0_2)).bind λd=>match d with|(x1_0,x1_1,x1_2)=>(E6 P0 0 x1_0 x1_1 x1_2 ([]:R8)).bind λb=>i8 b (λa=>match a with|(y27,y28,y29,y30)=>some ((y27,y28,y29),y30))
def R00(a:j0):Option (j0×Bool):=match a with|(p0_0,p0_1,p0_2)=>(H4 (p0_0,p0_1,p0_2)).bind λb=>match b with|(x1_0,x1_1,x1_2)=>(d4 (p0_0,p0_1,p0_2)).bind λc=>(if(bif(!c)then true else(decide (p0_1 ≥ 40)))=true then some ((x1_0,x1_1,x1_2),false)else some ((x1_0,(IntKind.i64.wrap (p0_1+1)),x1_2),true))
def C3(c:C0)(e:Int)(f:Int)(g:M0)(b:Int):Nat->Int->(List J0)->Option ((List J0))
 |0,_,_=>none
 |fuel+1,a,d=>(if(decide (a<((c.length:Nat):Int)))=true then(gi c a).bind λj=>(j5 (e,f,g) b j).bind λh=>(grd (H0 h)).bind λ_=>(if(decide (h<0))=true then(gi c a).bind λi=>(grd ((d.length+([(b,i,(-1))]).length)*24<=140737488355328)).bind λ_=>(C3 c e f g b fuel (IntKind.i64.wrap (a+1)) (d ++ [(b,i,(-1))]))else(C3 c e f g b fuel (IntKind.i64.wrap (a+1)) d))else some (d))
def P4(a:Int)(b:Int)(d:M0):Nat->Int->(List J0)->Option ((List J0))
 |0,_,_=>none
 |fuel+1,c,e=>(chk (decide (c<a)) (L3 (b,a,d)) false).bind λf=>(if(bif(decide (c<a))then f else false)=true then(D6 b).bind λg=>(C3 g b a d c P0 0 e).bind (λh=>(P4 a b d fuel (IntKind.i64.wrap (c+1)) h))else some (e))
def f8(a:j0):Option (M0):=match a with|(p0_0,p0_1,p0_2)=>(P4 p0_1 p0_0 p0_2 P0 0 ([]:M0)).bind (λb=>some b)
def b02(b:Int)(a:Int)(c:Int):Option (J0):=(if(decide (a<0))=true then some (c,(IntKind.i64.wrap (0-a)),b)else some (b,a,c))
def L1(b:M0)(c:Int)(d:Int)(e:Int):Nat->Int->Option ((Int) ⊕ (Unit))
 |0,_=>none
 |fuel+1,a=>(if(decide (a<((b.length:Nat):Int)))=true then(gi b a).bind λf=>match f with|(x6_0,x6_1,x6_2)=>(if(eqE (c,d,e) (x6_0,x6_1,x6_2))=true then some (.inl a)else(L1 b c d e fuel (IntKind.i64.wrap (a+1))))else some (.inr ()))
def L4(b:M0)(c:J0):Option (Int):=match c with|(p1_0,p1_1,p1_2)=>(L1 b p1_0 p1_1 p1_2 P0 0).bind λa=>i8 a (λ_=>some (-1))
def U2(b:M0)(c:J0):Option (Bool):=match c with|(p1_0,p1_1,p1_2)=>(L4 b (p1_0,p1_1,p1_2)).bind λa=>(grd (H0 a)).bind λ_=>some (decide (a ≥ 0))
def F6(a:Int)(b:O5):Option (Int):=match b with|(p1_0,p1_1)=>(if(decide (a=p1_1))=true then some p1_0 else(if(decide (a>p1_1))=true then some (IntKind.i64.wrap (a-1))else some a))
def G6(a:C0)(e:Int):Nat->Int->Int->Int->Int->M0->Option (Int×Int×M0)
 |0,_,_,_,_,_=>none
 |fuel+1,g,b,f,c,d=>(if(decide (b<((a.length:Nat):Int)))=true then(gi a b).bind λh=>(if(decide (b<(IntKind.i64.wrap (((a.length:Nat):Int)-1))))=true then(b02 g h c).bind λi=>match i with|(x21_0,x21_1,x21_2)=>(grd ((d.length+([(x21_0,x21_1,x21_2)]).length)*24<=140737488355328)).bind λ_=>(G6 a e fuel c (IntKind.i64.wrap (b+1)) f (IntKind.i64.wrap (c+1)) (d ++ [(x21_0,x21_1,x21_2)]))else(b02 g h e).bind λj=>match j with|(x26_0,x26_1,x26_2)=>(grd ((d.length+([(x26_0,x26_1,x26_2)]).length)*24<=140737488355328)).bind λ_=>(G6 a e fuel e (IntKind.i64.wrap (b+1)) f c (d ++ [(x26_0,x26_1,x26_2)])))else some (f,c,d))
def S00(h:j0)(d:Int)(a:C0)(e:Int):Option (j0×Bool):=match h with|(p0_0,p0_1,p0_2)=>(W3 (p0_0,p0_1,p0_2)).bind λi=>match i with|(x1_0,x1_1,x1_2)=>(n7 (p0_0,p0_1,p0_2)).bind λb=>(chk (!(!b)) (V3 (p0_0,p0_1,p0_2) d) false).bind λc=>(chk (!(bif(!b)then true else(!c))) (V3 (p0_0,p0_1,p0_2) e) false).bind λf=>(chk (!(bif(bif(bif(!b)then true else(!c))then true else(!f))then true else(decide (((a.length:Nat):Int)=0)))) (J9 p0_0 a) false).bind λk=>(if(bif(bif(bif(bif(bif(bif(!b)then true else(!c))then true else(!f))then true else(decide (((a.length:Nat):Int)=0)))then true else(!k))then true else(decide ((IntKind.i64.wrap ((IntKind.i64.wrap (p0_1+((a.length:Nat):Int)))-1))>40)))then true else(decide ((IntKind.i64.wrap (((p0_2.length:Nat):Int)+((a.length:Nat):Int)))>120)))=true then some ((x1_0,x1_1,x1_2),false)else(G6 a e P0 d 0 x1_0 x1_1 x1_2).bind (λg=>match g with|(y35,y36,y37)=>(K9 y37).bind λj=>some ((y35,y36,j),true)))
def p01(a:Int):Option (j0×Bool):=(i5 a 1 3).bind λb=>(if(!b)=true then some ((0,0,[]),false)else some ((a,1,[]),true))
def q01(a:j0)(b:C0):Option (j0×Bool):=match a with|(p0_0,p0_1,p0_2)=>(S00 (p0_0,p0_1,p0_2) 0 b 0).bind λc=>match c with|(x1_0,x1_1)=>match x1_0 with|(x1_0_0,x1_0_1,x1_0_2)=>some ((x1_0_0,x1_0_1,x1_0_2),x1_1)
def V5(a:T1):Nat->Int->Int->Int->M0->Option (Int×Int×M0)
 |0,_,_,_,_=>none
 |fuel+1,u8,d,b,c=>(if(decide (u8<((a.length:Nat):Int)))=true then(gi a u8).bind λe=>(if(decide (((e.length:Nat):Int)>0))=true then(q01 (d,b,c) e).bind λf=>match f with|(x17_0,x17_1)=>match x17_0 with|(x17_0_0,x17_0_1,x17_0_2)=>(V5 a fuel (IntKind.i64.wrap (u8+1)) x17_0_0 x17_0_1 x17_0_2)else(V5 a fuel (IntKind.i64.wrap (u8+1)) d b c))else some (d,b,c))
def r01(a:Int)(b:T1):Option (j0×Bool):=(k00 a b).bind λd=>(if(!d)=true then some ((0,0,[]),false)else(p01 a).bind λe=>match e with|(x3_0,x3_1)=>match x3_0 with|(x3_0_0,x3_0_1,x3_0_2)=>(V5 b P0 0 x3_0_0 x3_0_1 x3_0_2).bind (λc=>match c with|(y22,y23,y24)=>some ((y22,y23,y24),true)))
def d5(e:M0)(f:Int)(b:Int)(a:Int):Nat->Int->(List O5)->Option ((List O5))
 |0,_,_=>none
 |fuel+1,d,c=>(if(decide (d<((e.length:Nat):Int)))=true then(gi e d).bind λg=>match g with|(x15_0,x15_1,x15_2)=>(if(!decide (f=x15_1))=true then(d5 e f b a fuel (IntKind.i64.wrap (d+1)) c)else(if(decide (b=x15_0))=true then(grd ((c.length+([((if x15_2<a then x15_2 else a),(if x15_2>a then x15_2 else a))]).length)*16<=140737488355328)).bind λ_=>(if(decide (a=x15_2))=true then(grd (((c ++ [((if x15_2<a then x15_2 else a),(if x15_2>a then x15_2 else a))]).length+([((if x15_0<b then x15_0 else b),(if x15_0>b then x15_0 else b))]).length)*16<=140737488355328)).bind λ_=>(d5 e f b a fuel (IntKind.i64.wrap (d+1)) ((c ++ [((if x15_2<a then x15_2 else a),(if x15_2>a then x15_2 else a))]) ++ [((if x15_0<b then x15_0 else b),(if x15_0>b then x15_0 else b))]))else(d5 e f b a fuel (IntKind.i64.wrap (d+1)) (c ++ [((if x15_2<a then x15_2 else a),(if x15_2>a then x15_2 else a))])))else(if(decide (a=x15_2))=true then(grd ((c.length+([((if x15_0<b then x15_0 else b),(if x15_0>b then x15_0 else b))]).length)*16<=140737488355328)).bind λ_=>(d5 e f b a fuel (IntKind.i64.wrap (d+1)) (c ++ [((if x15_0<b then x15_0 else b),(if x15_0>b then x15_0 else b))]))else(d5 e f b a fuel (IntKind.i64.wrap (d+1)) c))))else some (c))
def Y8(a:M0):Nat->Int->(List O5)->Option ((List O5))
 |0,_,_=>none
 |fuel+1,b,c=>(if(decide (b<((a.length:Nat):Int)))=true then(gi a b).bind λd=>match d with|(x7_0,x7_1,x7_2)=>(m05 a (IntKind.i64.wrap (b+1)) (a.length:Int)).bind λe=>(d5 e x7_1 x7_0 x7_2 P0 0 c).bind (λf=>(Y8 a fuel (IntKind.i64.wrap (b+1)) f))else some (c))
def t03(a:j0):Option (R8):=match a with|(p0_0,p0_1,p0_2)=>(Y8 p0_2 P0 0 ([]:R8)).bind (λb=>some b)
def S9(b:j0):Option (O5×Bool):=match b with|(p0_0,p0_1,p0_2)=>(n7 (p0_0,p0_1,p0_2)).bind λc=>(if(!c)=true then some ((0,0),false)else(t03 (p0_0,p0_1,p0_2)).bind λa=>(if(decide (((a.length:Nat):Int)=0))=true then some ((0,0),false)else(gi a 0).bind λd=>match d with|(x7_0,x7_1)=>some ((x7_0,x7_1),true)))
def A4(f:M0)(c:Int)(d:Int):Nat->Int->M0->Option (M0)
 |0,_,_=>none
 |fuel+1,a,b=>(if(decide (a<((f.length:Nat):Int)))=true then(gi b a).bind λh=>match h with|(x15_0,x15_1,x15_2)=>(F6 x15_0 (c,d)).bind λe=>(grd (H0 e)).bind λj=>(F6 x15_2 (c,d)).bind λg=>(grd (H0 g)).bind λk=>(gi b a).bind λi=>match i with|(x26_0,x26_1,x26_2)=>(A4 f c d fuel (IntKind.i64.wrap (a+1)) (b.set a.toNat (e,x15_1,g)))else some (b))
def J7(a:j0)(b:O5):Option (j0×Bool):=match a with|(p0_0,p0_1,p0_2)=>match b with|(p1_0,p1_1)=>(W3 (p0_0,p0_1,p0_2)).bind λc=>match c with|(x1_0,x1_1,x1_2)=>(n7 (p0_0,p0_1,p0_2)).bind λe=>(if(bif(bif(bif(!e)then true else(decide (p1_0<0)))then true else(decide (p1_0 ≥ p1_1)))then true else(decide (p1_1 ≥ p0_1)))=true then some ((x1_0,x1_1,x1_2),false)else(A4 x1_2 p1_0 p1_1 P0 0 x1_2).bind (λf=>(K9 f).bind λd=>some ((x1_0,(IntKind.i64.wrap (x1_1-1)),d),true)))
def t01(a:j0):Option (j0×O5×Bool):=match a with|(p0_0,p0_1,p0_2)=>(S9 (p0_0,p0_1,p0_2)).bind λb=>match b with|(x1_0,x1_1)=>match x1_0 with|(x1_0_0,x1_0_1)=>(if(!x1_1)=true then(W3 (p0_0,p0_1,p0_2)).bind λc=>match c with|(x5_0,x5_1,x5_2)=>some ((x5_0,x5_1,x5_2),(0,0),false)else(J7 (p0_0,p0_1,p0_2) (x1_0_0,x1_0_1)).bind λd=>match d with|(x9_0,x9_1)=>match x9_0 with|(x9_0_0,x9_0_1,x9_0_2)=>some ((x9_0_0,x9_0_1,x9_0_2),(x1_0_0,x1_0_1),true))
def K7:Nat->Int->Int->M0->(List O5)->Option ((j0×R8) ⊕ (Int×Int×M0×(List O5)))
 |0,_,_,_,_=>none
 |fuel+1,b,c,u8,a=>(t01 (b,c,u8)).bind λd=>match d with|(x12_0,x12_1,x12_2)=>match x12_0 with|(x12_0_0,x12_0_1,x12_0_2)=>match x12_1 with|(x12_1_0,x12_1_1)=>(if(!x12_2)=true then some (.inl ((b,c,u8),a))else(grd ((a.length+([(x12_1_0,x12_1_1)]).length)*16<=140737488355328)).bind λ_=>(K7 fuel x12_0_0 x12_0_1 x12_0_2 (a ++ [(x12_1_0,x12_1_1)])))
def c02(b:j0):Option (j0×R8):=match b with|(p0_0,p0_1,p0_2)=>(W3 (p0_0,p0_1,p0_2)).bind λc=>match c with|(x1_0,x1_1,x1_2)=>(K7 P0 x1_0 x1_1 x1_2 ([]:R8)).bind λa=>i8 a (λ_=>none)
def T00(a:j0):Option (j0×Bool):=match a with|(p0_0,p0_1,p0_2)=>(W3 (p0_0,p0_1,p0_2)).bind λb=>match b with|(x1_0,x1_1,x1_2)=>(n7 (p0_0,p0_1,p0_2)).bind λc=>(if(bif(!c)then true else(decide (p0_1=40)))=true then some ((x1_0,x1_1,x1_2),false)else some ((x1_0,(IntKind.i64.wrap (x1_1+1)),x1_2),true))
def D3(c:C0)(d:Int)(e:Int)(f:M0)(u8:Int):Nat->Int->(List J0)->Option ((List J0))
 |0,_,_=>none
 |fuel+1,a,b=>(if(decide (a<((c.length:Nat):Int)))=true then(gi c a).bind λg=>(S6 (d,e,f) u8 g).bind λh=>(grd (H0 h)).bind λ_=>(if(decide (h<0))=true then(grd ((b.length+([(u8,g,(-1))]).length)*24<=140737488355328)).bind λ_=>(D3 c d e f u8 fuel (IntKind.i64.wrap (a+1)) (b ++ [(u8,g,(-1))]))else(D3 c d e f u8 fuel (IntKind.i64.wrap (a+1)) b))else some (b))
def Q4(b:Int)(a:Int)(c:M0):Nat->Int->(List J0)->Option ((List J0))
 |0,_,_=>none
 |fuel+1,u8,d=>(if(decide (u8<b))=true then(U8 a).bind λe=>(D3 e a b c u8 P0 0 d).bind (λf=>(Q4 b a c fuel (IntKind.i64.wrap (u8+1)) f))else some (d))
def g8(a:j0):Option (M0):=match a with|(p0_0,p0_1,p0_2)=>(A6 (p0_0,p0_1,p0_2)).bind λb=>(if(!b)=true then some ([]:M0)else(Q4 p0_1 p0_0 p0_2 P0 0 ([]:M0)).bind (λc=>some c))
def F5(e:Int)(f:Int)(d:C0):Nat->Int->(List Int)->(List Int)->Option ((List Int)×(List Int))
 |0,_,_,_=>none
 |fuel+1,a,b,c=>(if(decide (a<e))=true then(if(!decide (a=f))=true then(grd ((b.length + [a].length)*8<=140737488355328)).bind λ_=>(gi d a).bind λg=>(grd ((c.length + [g].length)*8<=140737488355328)).bind λ_=>(F5 e f d fuel (IntKind.i64.wrap (a+1)) (b ++ [a]) (c ++ [g]))else(F5 e f d fuel (IntKind.i64.wrap (a+1)) b c))else some (b,c))
def p6(g:Int)(h:Int)(i:M0):Nat->C0->Int->Int->Int->M0->Option ((j0×C0) ⊕ (C0×Int×Int×M0))
 |0,_,_,_,_,_=>none
 |fuel+1,d,e,b,a,c=>(chk (decide (e<40)) (d4 (g,h,i)) false).bind λk=>(if(bif(decide (e<40))then k else false)=true then(z01 (b,a,c)).bind λf=>(grd (H0 f)).bind λ_=>(if(decide (f<0))=true then some (.inl ((b,a,c),d))else(F5 a f d P0 0 ([]:C0) ([]:C0)).bind (λj=>match j with|(y52,y53)=>(j6 (b,a,c) y52).bind λl=>match l with|(x58_0,x58_1)=>match x58_0 with|(x58_0_0,x58_0_1,x58_0_2)=>(p6 g h i fuel y53 (IntKind.i64.wrap (e+1)) x58_0_0 x58_0_1 x58_0_2)))else some (.inr (d,b,a,c)))
def r6(b:Int)(d:Int)(e:M0):Nat->Int->(List Int)->Option ((List Int))
 |0,_,_=>none
 |fuel+1,a,c=>(chk (decide (a<b)) (d4 (d,b,e)) false).bind λf=>(if(bif(decide (a<b))then f else false)=true then(grd ((c.length + [a].length)*8<=140737488355328)).bind λ_=>(r6 b d e fuel (IntKind.i64.wrap (a+1)) (c ++ [a]))else some (c))
def V00(c:j0):Option (j0×C0):=match c with|(p0_0,p0_1,p0_2)=>(H4 (p0_0,p0_1,p0_2)).bind λd=>match d with|(x1_0,x1_1,x1_2)=>(r6 p0_1 p0_0 p0_2 P0 0 ([]:C0)).bind (λe=>(p6 p0_0 p0_1 p0_2 P0 e 0 x1_0 x1_1 x1_2).bind λb=>i8 b (λa=>match a with|(y132,y133,y134,y135)=>some ((y133,y134,y135),y132)))
def L7(a:j0):Option (j0):=match a with|(p0_0,p0_1,p0_2)=>(a02 (p0_0,p0_1,p0_2)).bind λb=>match b with|(x1_0,x1_1)=>match x1_0 with|(x1_0_0,x1_0_1,x1_0_2)=>(V00 (x1_0_0,x1_0_1,x1_0_2)).bind λc=>match c with|(x4_0,x4_1)=>match x4_0 with|(x4_0_0,x4_0_1,x4_0_2)=>(g7 (x4_0_0,x4_0_1,x4_0_2)).bind λd=>match d with|(x7_0,x7_1,x7_2)=>some (x7_0,x7_1,x7_2)
def M7(a:j0):Option (j0):=match a with|(p0_0,p0_1,p0_2)=>(c02 (p0_0,p0_1,p0_2)).bind λb=>match b with|(x1_0,x1_1)=>match x1_0 with|(x1_0_0,x1_0_1,x1_0_2)=>(G7 (x1_0_0,x1_0_1,x1_0_2)).bind λc=>match c with|(x5_0,x5_1)=>match x5_0 with|(x5_0_0,x5_0_1,x5_0_2)=>(i7 (x5_0_0,x5_0_1,x5_0_2)).bind λd=>match d with|(x9_0,x9_1,x9_2)=>some (x9_0,x9_1,x9_2)
def S3(c:C0):Nat->Int->(List Int)->Option ((List Int))
 |0,_,_=>none
 |fuel+1,a,b=>(if(decide (a ≥ 0))=true then(gi c a).bind λd=>(grd ((b.length+([(IntKind.i64.wrap (0-d))]).length)*8<=140737488355328)).bind λ_=>(S3 c fuel (IntKind.i64.wrap (a-1)) (b ++ [(IntKind.i64.wrap (0-d))]))else some (b))
def Y6(a:C0):Option (C0):=(S3 a P0 (IntKind.i64.wrap (((a.length:Nat):Int)-1)) ([]:C0)).bind (λb=>some b)
def I3(c:C0):Nat->Int->(List Int)->Option ((List Int))
 |0,_,_=>none
 |fuel+1,d,b=>(if(decide (d<((c.length:Nat):Int)))=true then(some b.length).bind λa=>(grd (a<=9223372036854775807)).bind λ_=>(chk (decide (((a:Nat):Int)>0)) (gi c d) 0).bind λe=>(chk (bif(decide (((a:Nat):Int)>0))then(!decide (e=0))else false) (gi b (IntKind.i64.wrap (((a:Nat):Int)-1))) 0).bind λf=>(chk (bif(decide (((a:Nat):Int)>0))then(!decide (e=0))else false) (gi c d) 0).bind λg=>(chk (bif(bif(decide (((a:Nat):Int)>0))then(!decide (e=0))else false)then(decide (f=(IntKind.i64.wrap (0-g))))else false) (gi b (IntKind.i64.wrap (((a:Nat):Int)-1))) 0).bind λi=>(chk (bif(bif(decide (((a:Nat):Int)>0))then(!decide (e=0))else false)then(decide (f=(IntKind.i64.wrap (0-g))))else false) (gi c d) 0).bind λj=>(if(bif(bif(bif(decide (((a:Nat):Int)>0))then(!decide (e=0))else false)then(decide (f=(IntKind.i64.wrap (0-g))))else false)then(!decide (i=j))else false)=true then(grd (0<=(IntKind.i64.wrap (((a:Nat):Int)-1))/\(IntKind.i64.wrap (((a:Nat):Int)-1))<=(b.length:Int))).bind λ_=>(I3 c fuel (IntKind.i64.wrap (d+1)) (b.take (IntKind.i64.wrap (((a:Nat):Int)-1)).toNat))else(gi c d).bind λh=>(grd ((b.length + [h].length)*8<=140737488355328)).bind λ_=>(I3 c fuel (IntKind.i64.wrap (d+1)) (b ++ [h])))else some (b))
def t6(b:C0):Option (C0):=(I3 b P0 0 ([]:C0)).bind (λa=>(grd ((([]:C0).length+a.length)*8<=140737488355328)).bind λ_=>some (([]:C0)++a))
def Z8(a:C0)(b:C0):Option (C0):=(grd ((([]:C0).length+a.length)*8<=140737488355328)).bind λ_=>(grd (((([]:C0)++a).length+b.length)*8<=140737488355328)).bind λ_=>(t6 ((([]:C0)++a)++b)).bind λc=>some c
def M6(c:C0):Nat->Int->(List Int)->Option ((List Int))
 |0,_,_=>none
 |fuel+1,a,b=>(if(decide (a ≥ 0))=true then(gi c a).bind λd=>(grd ((b.length+([(IntKind.i64.wrap (0-d))]).length)*8<=140737488355328)).bind λ_=>(M6 c fuel (IntKind.i64.wrap (a-1)) (b ++ [(IntKind.i64.wrap (0-d))]))else some (b))
def Y7(a:C0):Option (C0):=(grd ((0:Int)<=0/\0<=((a.length:Nat):Int)/\((a.length:Nat):Int)*8<=140737488355328/\((a.length:Nat):Int)<=9223372036854775807)).bind λ_=>(M6 a P0 (IntKind.i64.wrap (((a.length:Nat):Int)-1)) (List.replicate (0:Int).toNat (0:Int))).bind (λb=>some b)
def H6(e:C0):Nat->Int->(List Int)->Option ((List Int))
 |0,_,_=>none
 |fuel+1,d,a=>(if(decide (d<((e.length:Nat):Int)))=true then(gi e d).bind λf=>(some a.length).bind λb=>(grd (b<=9223372036854775807)).bind λ_=>(some a.length).bind λg=>(grd (g<=9223372036854775807)).bind λ_=>(chk (decide (((b:Nat):Int)>0)) (gi a (IntKind.i64.wrap (((g:Nat):Int)-1))) 0).bind λh=>(chk (decide (((b:Nat):Int)>0)) (i9 h f) false).bind λi=>(if(bif(decide (((b:Nat):Int)>0))then i else false)=true then(some a.length).bind λc=>(grd (c<=9223372036854775807)).bind λ_=>(grd (0<=(IntKind.i64.wrap (((c:Nat):Int)-1))/\(IntKind.i64.wrap (((c:Nat):Int)-1))<=(a.length:Int))).bind λ_=>(H6 e fuel (IntKind.i64.wrap (d+1)) (a.take (IntKind.i64.wrap (((c:Nat):Int)-1)).toNat))else(grd ((a.length + [f].length)*8<=140737488355328)).bind λ_=>(H6 e fuel (IntKind.i64.wrap (d+1)) (a ++ [f])))else some (a))
def N7(a:T1):Nat->Int->(List Int)->Option ((List Int))
 |0,_,_=>none
 |fuel+1,b,c=>(if(decide (b<((a.length:Nat):Int)))=true then(gi a b).bind λd=>(H6 d P0 0 c).bind (λe=>(N7 a fuel (IntKind.i64.wrap (b+1)) e))else some (c))
def a9(a:T1):Option (C0):=(N7 a P0 0 ([]:C0)).bind (λb=>some b)
def A9(a:j0)(b:C0):Option (Bool):=match a with|(p0_0,p0_1,p0_2)=>(t6 b).bind λc=>(l00 (p0_0,p0_1,p0_2) 0 c).bind λe=>match e with|(x4_0,x4_1)=>(grd (H0 x4_0)).bind λf=>(O2 (p0_0,p0_1,p0_2)).bind λd=>some (bif(bif d then x4_1 else false)then(decide (x4_0=0))else false)
def H8(b:j0)(a:C0):Option (Bool):=match b with|(p0_0,p0_1,p0_2)=>(j9 (p0_0,p0_1,p0_2) 0 a).bind λc=>match c with|(x1_0,x1_1)=>(grd (H0 x1_0)).bind λ_=>(grd (H0 x1_1)).bind λ_=>some (bif(decide (x1_1=((a.length:Nat):Int)))then(decide (x1_0=0))else false)
def O7(a:C0):Option (C0):=(a9 [a]).bind λb=>some b
def w6(d:C0)(k:T1)(e:Int)(f:Int)(g:M0):Nat->Int->(List J0)->Option ((List J0))
 |0,_,_=>none
 |fuel+1,a,b=>(if(decide (a<((d.length:Nat):Int)))=true then(gi d a).bind λc=>(gi k c).bind λh=>(gi h (IntKind.i64.wrap (((h.length:Nat):Int)-1))).bind λi=>(S6 (e,f,g) c (IntKind.i64.wrap (0-i))).bind λj=>(grd (H0 j)).bind λ_=>(b02 j i c).bind λl=>match l with|(x16_0,x16_1,x16_2)=>(grd ((b.length+([(x16_0,x16_1,x16_2)]).length)*24<=140737488355328)).bind λ_=>(w6 d k e f g fuel (IntKind.i64.wrap (a+1)) (b ++ [(x16_0,x16_1,x16_2)]))else some (b))
def W00(a:j0):Option (M0):=match a with|(p0_0,p0_1,p0_2)=>(V6 (p0_0,p0_1,p0_2) 0).bind λb=>match b with|(x1_0,x1_1)=>(m05 x1_0 1 (x1_0.length:Int)).bind λd=>(w6 d x1_1 p0_0 p0_1 p0_2 P0 0 ([]:M0)).bind (λe=>(K9 e).bind λc=>some c)
def T4(a:M0)(d:M0):Nat->Int->(List J0)->Option ((List J0))
 |0,_,_=>none
 |fuel+1,b,c=>(if(decide (b<((a.length:Nat):Int)))=true then(gi a b).bind λe=>match e with|(x16_0,x16_1,x16_2)=>(U2 d (x16_0,x16_1,x16_2)).bind λf=>(if(!f)=true then(grd ((c.length+([(x16_0,x16_1,x16_2)]).length)*24<=140737488355328)).bind λ_=>(T4 a d fuel (IntKind.i64.wrap (b+1)) (c ++ [(x16_0,x16_1,x16_2)]))else(T4 a d fuel (IntKind.i64.wrap (b+1)) c))else some (c))
def v00(a:j0):Option (M0):=match a with|(p0_0,p0_1,p0_2)=>(A6 (p0_0,p0_1,p0_2)).bind λb=>(if(!b)=true then some ([]:M0)else(W00 (p0_0,p0_1,p0_2)).bind λc=>(T4 p0_2 c P0 0 ([]:M0)).bind (λd=>some d))
def P7(c:M0)(d:T1):Nat->Int->(List C0)->Option ((List C0))
 |0,_,_=>none
 |fuel+1,a,b=>(if(decide (a<((c.length:Nat):Int)))=true then(gi c a).bind λf=>match f with|(x19_0,x19_1,x19_2)=>(gi d x19_0).bind λg=>(some [x19_1]).bind λh=>(gi d x19_2).bind λi=>(Y7 i).bind λj=>(some [g,h,j]).bind λk=>(a9 k).bind λl=>(some [l]).bind λe=>(grd ((b.length+e.length)*24<=140737488355328)).bind λ_=>(P7 c d fuel (IntKind.i64.wrap (a+1)) (b++e))else some (b))
def e02(a:j0):Option (T1):=match a with|(p0_0,p0_1,p0_2)=>(L5 (p0_0,p0_1,p0_2)).bind λb=>(if(!b)=true then some ([]:T1)else(V6 (p0_0,p0_1,p0_2) 0).bind λd=>match d with|(x7_0,x7_1)=>(v00 (p0_0,p0_1,p0_2)).bind λc=>(P7 c x7_1 P0 0 ([]:T1)).bind (λe=>some e))
def B5(a:T1)(c:Int)(d:Int)(e:M0):Nat->Int->Option ((Bool) ⊕ (Unit))
 |0,_=>none
 |fuel+1,b=>(if(decide (b<((a.length:Nat):Int)))=true then(gi a b).bind λg=>(O7 g).bind λh=>(H8 (c,d,e) h).bind λf=>(if(!f)=true then some (.inl false)else(B5 a c d e fuel (IntKind.i64.wrap (b+1))))else some (.inr ()))
def I8(b:j0)(c:T1):Option (Bool):=match b with|(p0_0,p0_1,p0_2)=>(L5 (p0_0,p0_1,p0_2)).bind λd=>(if(!d)=true then some false else(B5 c p0_0 p0_1 p0_2 P0 0).bind λa=>i8 a (λ_=>some true))
def b9(c:j0):Option (Bool):=match c with|(p0_0,p0_1,p0_2)=>(O2 (p0_0,p0_1,p0_2)).bind λa=>(chk a (f8 (p0_0,p0_1,p0_2)) []).bind λb=>(grd (b.length<=9223372036854775807)).bind λd=>some (bif a then(decide (((b.length:Nat):Int)=0))else false)
def B4(b:Int)(c:Int):Nat->Int->(List Int)->Option ((List Int))
 |0,_,_=>none
 |fuel+1,u8,a=>(if(decide (u8<b))=true then(if(!decide (u8=c))=true then(grd ((a.length + [u8].length)*8<=140737488355328)).bind λ_=>(B4 b c fuel (IntKind.i64.wrap (u8+1)) (a ++ [u8]))else(B4 b c fuel (IntKind.i64.wrap (u8+1)) a))else some (a))
def z7(c:j0)(a:Int):Option (j0×Bool):=match c with|(p0_0,p0_1,p0_2)=>(L3 (p0_0,p0_1,p0_2)).bind λb=>(chk (!(!b)) (j3 a 0 (IntKind.i64.wrap (p0_1-1))) false).bind λd=>(if(bif(!b)then true else(!d))=true then(H4 (p0_0,p0_1,p0_2)).bind λg=>match g with|(x4_0,x4_1,x4_2)=>some ((x4_0,x4_1,x4_2),false)else(B4 p0_1 a P0 0 [a]).bind (λh=>(j6 (p0_0,p0_1,p0_2) h).bind λe=>match e with|(x31_0,x31_1)=>match x31_0 with|(x31_0_0,x31_0_1,x31_0_2)=>(L7 (x31_0_0,x31_0_1,x31_0_2)).bind λf=>match f with|(x34_0,x34_1,x34_2)=>some ((x34_0,x34_1,x34_2),true)))
def c9(c:j0):Option (Bool):=match c with|(p0_0,p0_1,p0_2)=>(L5 (p0_0,p0_1,p0_2)).bind λa=>(chk a (g8 (p0_0,p0_1,p0_2)) []).bind λb=>(grd (b.length<=9223372036854775807)).bind λd=>some (bif a then(decide (((b.length:Nat):Int)=0))else false)
def Z6(c:Int)(d:Int):Nat->Int->(List Int)->Option ((List Int))
 |0,_,_=>none
 |fuel+1,a,b=>(if(decide (a<c))=true then(if(!decide (a=d))=true then(grd ((b.length + [a].length)*8<=140737488355328)).bind λ_=>(Z6 c d fuel (IntKind.i64.wrap (a+1)) (b ++ [a]))else(Z6 c d fuel (IntKind.i64.wrap (a+1)) b))else some (b))
def p8(c:j0)(a:Int):Option (j0×Bool):=match c with|(p0_0,p0_1,p0_2)=>(A6 (p0_0,p0_1,p0_2)).bind λb=>(chk (!(!b)) (V3 (p0_0,p0_1,p0_2) a) false).bind λd=>(if(bif(!b)then true else(!d))=true then(W3 (p0_0,p0_1,p0_2)).bind λg=>match g with|(x4_0,x4_1,x4_2)=>some ((x4_0,x4_1,x4_2),false)else(Z6 p0_1 a P0 0 [a]).bind (λh=>(V01 (p0_0,p0_1,p0_2) h).bind λe=>match e with|(x34_0,x34_1,x34_2)=>(M7 (x34_0,x34_1,x34_2)).bind λf=>match f with|(x38_0,x38_1,x38_2)=>some ((x38_0,x38_1,x38_2),true)))
def W5(f:C0)(g:Int)(h:Int)(i:Int)(j:M0):Nat->Int->(List Bool)->(List C0)->(List Int)->Option ((List Bool)×(List C0)×(List Int))
 |0,_,_,_,_=>none
 |fuel+1,c,d,e,b=>(if(decide (c<((f.length:Nat):Int)))=true then(gi b g).bind λm=>(gi f c).bind λn=>(j5 (h,i,j) m n).bind λa=>(grd (H0 a)).bind λ_=>(chk (decide (a ≥ 0)) (gi d a) false).bind λo=>(if(bif(decide (a ≥ 0))then(!o)else false)=true then(gi d a).bind λt=>(gi b g).bind λp=>(gi e p).bind λk=>(grd (k.length*8<=140737488355328)).bind λs=>(gi f c).bind λq=>(some [q]).bind λl=>(grd ((k.length+l.length)*8<=140737488355328)).bind λ_=>(gi e a).bind λu=>(grd ((b.length + [a].length)*8<=140737488355328)).bind λ_=>(W5 f g h i j fuel (IntKind.i64.wrap (c+1)) (d.set a.toNat true) (e.set a.toNat (k++l)) (b ++ [a]))else(W5 f g h i j fuel (IntKind.i64.wrap (c+1)) d e b))else some (d,e,b))
def Z7(i:C0)(d:Int)(e:Int)(f:M0):Nat->Int->(List Bool)->(List C0)->(List Int)->Option ((List Bool)×(List C0)×(List Int))
 |0,_,_,_,_=>none
 |fuel+1,a,g,h,b=>(some b.length).bind λc=>(grd (c<=9223372036854775807)).bind λ_=>(if(decide (a<((c:Nat):Int)))=true then(W5 i a d e f P0 0 g h b).bind (λj=>match j with|(y73,y74,y75)=>(Z7 i d e f fuel (IntKind.i64.wrap (a+1)) y73 y74 y75))else some (g,h,b))
def u01(c:j0)(a:Int):Option ((List Bool)×T1):=match c with|(p0_0,p0_1,p0_2)=>(grd ((0:Int)<=p0_1/\p0_1<=p0_1/\p0_1*1<=140737488355328/\p0_1<=9223372036854775807)).bind λ_=>(grd ((0:Int)<=p0_1/\p0_1<=p0_1/\p0_1*24<=140737488355328/\p0_1<=9223372036854775807)).bind λ_=>(gi (List.replicate p0_1.toNat (false:Bool)) a).bind λe=>(gi (List.replicate p0_1.toNat ([]:C0)) a).bind λf=>(D6 p0_0).bind λd=>(Z7 d p0_0 p0_1 p0_2 P0 0 ((List.replicate p0_1.toNat (false:Bool)).set a.toNat true) ((List.replicate p0_1.toNat ([]:C0)).set a.toNat ([]:C0)) [a]).bind (λb=>match b with|(y87,y88,y89)=>some (y87,y88))
def r8(f:j0)(c:Int)(a:Int):Option (C0×Bool):=match f with|(p0_0,p0_1,p0_2)=>(L3 (p0_0,p0_1,p0_2)).bind λb=>(chk (!(!b)) (j3 c 0 (IntKind.i64.wrap (p0_1-1))) false).bind λe=>(chk (!(bif(!b)then true else(!e))) (j3 a 0 (IntKind.i64.wrap (p0_1-1))) false).bind λh=>(if(bif(bif(!b)then true else(!e))then true else(!h))=true then some (([]:C0),false)else(u01 (p0_0,p0_1,p0_2) c).bind λi=>match i with|(x9_0,x9_1)=>(gi x9_0 a).bind λg=>(if(!g)=true then some (([]:C0),false)else(gi x9_1 a).bind λd=>(grd ((([]:C0).length+d.length)*8<=140737488355328)).bind λ_=>some ((([]:C0)++d),true)))
def n00(a:j0)(b:Int):Option (C0):=match a with|(p0_0,p0_1,p0_2)=>(r8 (p0_0,p0_1,p0_2) 0 b).bind λc=>match c with|(x1_0,x1_1)=>some x1_0
def M5(d:C0)(e:Int)(f:Int)(g:Int)(h:M0):Nat->M0->Int->(List Int)->Option (M0×(List Int))
 |0,_,_,_=>none
 |fuel+1,i,c,b=>(if(decide (c<((d.length:Nat):Int)))=true then(gi b e).bind λj=>(gi d c).bind λk=>(j5 (f,g,h) j k).bind λa=>(grd (H0 a)).bind λ_=>(chk (!(decide (a<0))) (O8 b a) false).bind λl=>(if(bif(decide (a<0))then true else l)=true then(M5 d e f g h fuel i (IntKind.i64.wrap (c+1)) b)else(grd ((b.length + [a].length)*8<=140737488355328)).bind λ_=>(gi d c).bind λm=>(if(decide (m>0))=true then(gi (b ++ [a]) e).bind λn=>(gi d c).bind λo=>(w7 i (n,o,a)).bind λp=>(M5 d e f g h fuel p (IntKind.i64.wrap (c+1)) (b ++ [a]))else(gi d c).bind λq=>(gi (b ++ [a]) e).bind λs=>(w7 i (a,(IntKind.i64.wrap (0-q)),s)).bind λt=>(M5 d e f g h fuel t (IntKind.i64.wrap (c+1)) (b ++ [a]))))else some (i,b))
def J8(h:C0)(d:Int)(e:Int)(f:M0):Nat->M0->Int->(List Int)->Option (M0×(List Int))
 |0,_,_,_=>none
 |fuel+1,g,a,b=>(some b.length).bind λc=>(grd (c<=9223372036854775807)).bind λ_=>(if(decide (a<((c:Nat):Int)))=true then(M5 h a d e f P0 g 0 b).bind (λi=>match i with|(y80,y81)=>(J8 h d e f fuel y80 (IntKind.i64.wrap (a+1)) y81))else some (g,b))
def f02(b:j0):Option (M0):=match b with|(p0_0,p0_1,p0_2)=>(L3 (p0_0,p0_1,p0_2)).bind λc=>(if(!c)=true then some ([]:M0)else(D6 p0_0).bind λd=>(J8 d p0_0 p0_1 p0_2 P0 ([]:M0) 0 [0]).bind (λa=>match a with|(y85,y86)=>some y85))
def Q5(c:M0)(d:M0)(e:Int):Nat->Bool->Int->Option (Bool)
 |0,_,_=>none
 |fuel+1,a,b=>(if(decide (b<((c.length:Nat):Int)))=true then(chk (!a) (gi c b) (0,0,0)).bind λf=>match f with|(x17_0,x17_1,x17_2)=>(chk (!a) (gi d e) (0,0,0)).bind λg=>match g with|(x18_0,x18_1,x18_2)=>(Q5 c d e fuel (bif a then true else(eqE (x17_0,x17_1,x17_2) (x18_0,x18_1,x18_2))) (IntKind.i64.wrap (b+1)))else some (a))
def U4(a:M0)(d:Int)(e:Int)(f:M0):Nat->Int->(List J0)->Option ((List J0))
 |0,_,_=>none
 |fuel+1,b,c=>(chk (decide (b<((a.length:Nat):Int))) (L3 (d,e,a)) false).bind λh=>(if(bif(decide (b<((a.length:Nat):Int)))then h else false)=true then(Q5 f a b P0 false 0).bind (λi=>(if(!i)=true then(gi a b).bind λg=>match g with|(x25_0,x25_1,x25_2)=>(grd ((c.length+([(x25_0,x25_1,x25_2)]).length)*24<=140737488355328)).bind λ_=>(U4 a d e f fuel (IntKind.i64.wrap (b+1)) (c ++ [(x25_0,x25_1,x25_2)]))else(U4 a d e f fuel (IntKind.i64.wrap (b+1)) c)))else some (c))
def w00(a:j0):Option (M0):=match a with|(p0_0,p0_1,p0_2)=>(f02 (p0_0,p0_1,p0_2)).bind λb=>(U4 p0_2 p0_0 p0_1 b P0 0 ([]:M0)).bind (λc=>some c)
def t8(a:M0)(d:Int)(e:Int)(f:Int):Nat->Bool->Int->Option (Bool)
 |0,_,_=>none
 |fuel+1,b,c=>(if(decide (c<((a.length:Nat):Int)))=true then(chk (!b) (gi a c) (0,0,0)).bind λg=>match g with|(x7_0,x7_1,x7_2)=>(t8 a d e f fuel (bif b then true else(eqE (x7_0,x7_1,x7_2) (d,e,f))) (IntKind.i64.wrap (c+1)))else some (b))
def I02(b:j0)(c:J0):Option (C0):=match b with|(p0_0,p0_1,p0_2)=>match c with|(p1_0,p1_1,p1_2)=>(t8 p0_2 p1_0 p1_1 p1_2 P0 false 0).bind (λh=>(L3 (p0_0,p0_1,p0_2)).bind λd=>(if(bif(!d)then true else(!h))=true then some ([]:C0)else(n00 (p0_0,p0_1,p0_2) p1_0).bind λa=>(grd ((a.length + [p1_1].length)*8<=140737488355328)).bind λ_=>(n00 (p0_0,p0_1,p0_2) p1_2).bind λe=>(Y6 e).bind λf=>(Z8 (a ++ [p1_1]) f).bind λg=>some g))
def Q7(c:M0)(d:Int)(e:Int)(f:M0):Nat->Int->(List C0)->Option ((List C0))
 |0,_,_=>none
 |fuel+1,a,b=>(if(decide (a<((c.length:Nat):Int)))=true then(gi c a).bind λh=>match h with|(x16_0,x16_1,x16_2)=>(I02 (d,e,f) (x16_0,x16_1,x16_2)).bind λg=>(grd ((b.length + [g].length)*24<=140737488355328)).bind λ_=>(Q7 c d e f fuel (IntKind.i64.wrap (a+1)) (b ++ [g]))else some (b))
def g02(a:j0):Option (T1):=match a with|(p0_0,p0_1,p0_2)=>(O2 (p0_0,p0_1,p0_2)).bind λb=>(if(!b)=true then some ([]:T1)else(w00 (p0_0,p0_1,p0_2)).bind λc=>(Q7 c p0_0 p0_1 p0_2 P0 0 ([]:T1)).bind (λd=>some d))
def R5(b:C0)(d:Int)(e:Int)(f:M0):Nat->Int->Int->Option ((Int) ⊕ (Unit))
 |0,_,_=>none
 |fuel+1,g,a=>(if(decide (a<((b.length:Nat):Int)))=true then(gi b a).bind λh=>(j5 (d,e,f) g h).bind λc=>(grd (H0 c)).bind λ_=>(if(decide (c<0))=true then some (.inl a)else(R5 b d e f fuel c (IntKind.i64.wrap (a+1))))else some (.inr ()))
def x00(e:j0)(a:Int)(b:C0):Option (Int):=match e with|(p0_0,p0_1,p0_2)=>(L3 (p0_0,p0_1,p0_2)).bind λc=>(chk (!(!c)) (j3 a 0 (IntKind.i64.wrap (p0_1-1))) false).bind λf=>(if(bif(!c)then true else(!f))=true then some 0 else(R5 b p0_0 p0_1 p0_2 P0 a 0).bind λd=>i8 d (λ_=>some ((b.length:Nat):Int)))
def I4(d:j0)(a:C0):Option (j0×Bool):=match d with|(p0_0,p0_1,p0_2)=>(O2 (p0_0,p0_1,p0_2)).bind λc=>(chk (!(!c)) (I9 p0_0 a) false).bind λe=>(if(bif(!c)then true else(!e))=true then some ((0,0,[]),false)else(x00 (p0_0,p0_1,p0_2) 0 a).bind λb=>(grd (H0 b)).bind λ_=>(m05 a 0 b).bind λl=>(l00 (p0_0,p0_1,p0_2) 0 l).bind λm=>match m with|(x9_0,x9_1)=>(grd (H0 x9_0)).bind λn=>(H4 (p0_0,p0_1,p0_2)).bind λf=>match f with|(x21_0,x21_1,x21_2)=>(if(decide (b<((a.length:Nat):Int)))=true then(R00 (p0_0,p0_1,p0_2)).bind λg=>match g with|(x25_0,x25_1)=>match x25_0 with|(x25_0_0,x25_0_1,x25_0_2)=>(if(!x25_1)=true then some ((0,0,[]),false)else(m05 a b (a.length:Int)).bind λh=>(Q00 (x25_0_0,x25_0_1,x25_0_2) x9_0 h p0_1).bind λi=>match i with|(x32_0,x32_1)=>match x32_0 with|(x32_0_0,x32_0_1,x32_0_2)=>(if(!x32_1)=true then some ((0,0,[]),false)else(z7 (x32_0_0,x32_0_1,x32_0_2) p0_1).bind λj=>match j with|(x49_0,x49_1)=>match x49_0 with|(x49_0_0,x49_0_1,x49_0_2)=>some ((x49_0_0,x49_0_1,x49_0_2),x49_1)))else(z7 (x21_0,x21_1,x21_2) x9_0).bind λk=>match k with|(x52_0,x52_1)=>match x52_0 with|(x52_0_0,x52_0_1,x52_0_2)=>some ((x52_0_0,x52_0_1,x52_0_2),x52_1)))
def T3(b:C0)(c:C0):Nat->Int->Option ((Bool) ⊕ (Unit))
 |0,_=>none
 |fuel+1,a=>(if(decide (a<((b.length:Nat):Int)))=true then(gi b a).bind λd=>(gi c a).bind λe=>(if(!decide (d=e))=true then some (.inl false)else(T3 b c fuel (IntKind.i64.wrap (a+1))))else some (.inr ()))
def l9(a:C0)(b:C0):Option (Bool):=(if(!decide (((a.length:Nat):Int)=((b.length:Nat):Int)))=true then some false else(T3 a b P0 0).bind λc=>i8 c (λ_=>some true))
def N6(b:C0)(c:C0):Nat->Int->Option ((Bool) ⊕ (Unit))
 |0,_=>none
 |fuel+1,a=>(if(decide (a<((b.length:Nat):Int)))=true then(gi b a).bind λd=>(gi c a).bind λe=>(if(!decide (d=e))=true then some (.inl false)else(N6 b c fuel (IntKind.i64.wrap (a+1))))else some (.inr ()))
def y00(a:C0)(b:C0):Option (Bool):=(if(!decide (((a.length:Nat):Int)=((b.length:Nat):Int)))=true then some false else(N6 a b P0 0).bind λc=>i8 c (λ_=>some true))
def o5(b:C0)(c:T1):Nat->Int->(List Int)->Option ((List Int))
 |0,_,_=>none
 |fuel+1,a,d=>(if(bif(decide (a<((b.length:Nat):Int)))then(decide (a<200))else false)=true then(gi b a).bind λh=>(chk (decide (h>0)) (gi b a) 0).bind λm=>(if(bif(decide (h>0))then(decide (m<=((c.length:Nat):Int)))else false)=true then(gi b a).bind λi=>(gi c (IntKind.i64.wrap (i-1))).bind λe=>(grd ((d.length+e.length)*8<=140737488355328)).bind λ_=>(o5 b c fuel (IntKind.i64.wrap (a+1)) (d++e))else(gi b a).bind λf=>(chk (decide (f<0)) (gi b a) 0).bind λj=>(if(bif(decide (f<0))then(decide (j ≥ (IntKind.i64.wrap (0-((c.length:Nat):Int)))))else false)=true then(gi b a).bind λk=>(gi c (IntKind.i64.wrap ((IntKind.i64.wrap (0-k))-1))).bind λl=>(Y6 l).bind λg=>(grd ((d.length+g.length)*8<=140737488355328)).bind λ_=>(o5 b c fuel (IntKind.i64.wrap (a+1)) (d++g))else(o5 b c fuel (IntKind.i64.wrap (a+1)) d)))else some (d))
def v01(a:T1)(b:C0):Option (C0):=(o5 b a P0 0 ([]:C0)).bind (λd=>(t6 d).bind λc=>some c)
def z00(a:Int)(b:T1):Option (j0×Bool):=(n01 a b).bind λc=>match c with|(x1_0,x1_1)=>match x1_0 with|(x1_0_0,x1_0_1,x1_0_2)=>(if(!x1_1)=true then some ((0,0,[]),false)else(L7 (x1_0_0,x1_0_1,x1_0_2)).bind λd=>match d with|(x5_0,x5_1,x5_2)=>some ((x5_0,x5_1,x5_2),true))
def V4(b:j0)(c:T1):Option (Bool):=match b with|(p0_0,p0_1,p0_2)=>(z00 p0_0 c).bind λd=>match d with|(x1_0,x1_1)=>match x1_0 with|(x1_0_0,x1_0_1,x1_0_2)=>(chk x1_1 (O2 (p0_0,p0_1,p0_2)) false).bind λa=>(chk (bif x1_1 then a else false) (F8 (p0_0,p0_1,p0_2) (x1_0_0,x1_0_1,x1_0_2)) false).bind λe=>some (bif(bif x1_1 then a else false)then e else false)
def C5(a:T1)(c:Int)(d:Int)(e:M0):Nat->Int->Option ((Bool) ⊕ (Unit))
 |0,_=>none
 |fuel+1,b=>(if(decide (b<((a.length:Nat):Int)))=true then(gi a b).bind λf=>(A9 (c,d,e) f).bind λg=>(if(!g)=true then some (.inl false)else(C5 a c d e fuel (IntKind.i64.wrap (b+1))))else some (.inr ()))
def b00(b:j0)(c:T1):Option (Bool):=match b with|(p0_0,p0_1,p0_2)=>(C5 c p0_0 p0_1 p0_2 P0 0).bind λa=>i8 a (λ_=>(O2 (p0_0,p0_1,p0_2)).bind λd=>some d)
def B01(a:j0):Option (Int):=match a with|(p0_0,p0_1,p0_2)=>(O2 (p0_0,p0_1,p0_2)).bind λb=>(if(!b)=true then some (-1)else some (IntKind.i64.wrap ((IntKind.i64.wrap (((p0_2.length:Nat):Int)-p0_1))+1)))
def h02(a:j0):Option (Int):=match a with|(p0_0,p0_1,p0_2)=>(b9 (p0_0,p0_1,p0_2)).bind λb=>(if(!b)=true then some (-1)else some p0_1)
def n9(j:W9):Option (Bool):=match j with|(p0_0,p0_1,p0_2,p0_3,p0_4,(p0_5,p0_6,p0_7),p0_8)=>(j00 p0_1 p0_2).bind λb=>(chk (!(!b)) (I9 p0_1 p0_3) false).bind λc=>(chk (!(bif(bif(!b)then true else(!c))then true else(!decide (p0_5=p0_1)))) (O2 (p0_5,p0_6,p0_7)) false).bind λp=>(if(bif(bif(bif(!b)then true else(!c))then true else(!decide (p0_5=p0_1)))then true else(!p))=true then some false else(if(decide (p0_0=1))=true then(V4 (p0_5,p0_6,p0_7) p0_2).bind λa=>(chk a (g02 (p0_5,p0_6,p0_7)) []).bind λt=>(chk a (v01 t p0_4) []).bind λk=>(chk a (l9 k p0_3) false).bind λl=>some (bif a then l else false)else(if(decide (p0_0=2))=true then(b00 (p0_5,p0_6,p0_7) p0_2).bind λd=>(chk d (A9 (p0_5,p0_6,p0_7) p0_3) false).bind λm=>some (bif d then(!m)else false)else(if(decide (p0_0=3))=true then(V4 (p0_5,p0_6,p0_7) p0_2).bind λe=>(chk e (A9 (p0_5,p0_6,p0_7) p0_3) false).bind λn=>some (bif e then n else false)else(if(decide (p0_0=4))=true then(Y6 p0_3).bind λo=>(I4 (p0_5,p0_6,p0_7) o).bind λq=>match q with|(x32_0,x32_1)=>match x32_0 with|(x32_0_0,x32_0_1,x32_0_2)=>(chk x32_1 (V4 (x32_0_0,x32_0_1,x32_0_2) p0_2) false).bind λs=>some (bif x32_1 then s else false)else(if(decide (p0_0=5))=true then(V4 (p0_5,p0_6,p0_7) p0_2).bind λf=>(chk f (B01 (p0_5,p0_6,p0_7)) 0).bind λg=>(grd (H0 g)).bind λ_=>some (bif(bif f then(decide (g=((p0_2.length:Nat):Int)))else false)then(decide (p0_8=((p0_2.length:Nat):Int)))else false)else(if(decide (p0_0=6))=true then(V4 (p0_5,p0_6,p0_7) p0_2).bind λh=>(chk h (h02 (p0_5,p0_6,p0_7)) 0).bind λi=>(grd (H0 i)).bind λ_=>some (bif(bif h then(decide (i=p0_8))else false)then(decide (p0_8>0))else false)else some false)))))))
def p5(d:C0)(a:T1):Nat->Int->(List C0)->Option ((List C0))
 |0,_,_=>none
 |fuel+1,c,b=>(if(decide (c<((d.length:Nat):Int)))=true then(gi d c).bind λe=>(i5 e 1 ((a.length:Nat):Int)).bind λj=>(if j=true then(gi a (IntKind.i64.wrap (e-1))).bind λf=>(grd ((b.length + [f].length)*24<=140737488355328)).bind λ_=>(p5 d a fuel (IntKind.i64.wrap (c+1)) (b ++ [f]))else(i5 e (IntKind.i64.wrap (0-((a.length:Nat):Int))) (-1)).bind λh=>(if h=true then(gi a (IntKind.i64.wrap ((IntKind.i64.wrap (0-e))-1))).bind λi=>(Y7 i).bind λg=>(grd ((b.length + [g].length)*24<=140737488355328)).bind λ_=>(p5 d a fuel (IntKind.i64.wrap (c+1)) (b ++ [g]))else(p5 d a fuel (IntKind.i64.wrap (c+1)) b)))else some (b))
def w01(b:T1)(a:C0):Option (C0):=(m05 a 0 (if 200<((a.length:Nat):Int)then 200 else((a.length:Nat):Int))).bind λc=>(p5 c b P0 0 ([]:T1)).bind (λe=>(a9 e).bind λd=>some d)
def A00(a:Int)(b:T1):Option (j0×Bool):=(r01 a b).bind λc=>match c with|(x1_0,x1_1)=>match x1_0 with|(x1_0_0,x1_0_1,x1_0_2)=>(if(!x1_1)=true then some ((0,0,[]),false)else(M7 (x1_0_0,x1_0_1,x1_0_2)).bind λd=>match d with|(x6_0,x6_1,x6_2)=>some ((x6_0,x6_1,x6_2),true))
def W4(a:j0)(b:T1):Option (Bool):=match a with|(p0_0,p0_1,p0_2)=>(L5 (p0_0,p0_1,p0_2)).bind λc=>(if(!c)=true then some false else(A00 p0_0 b).bind λd=>match d with|(x3_0,x3_1)=>match x3_0 with|(x3_0_0,x3_0_1,x3_0_2)=>(chk x3_1 (G8 (p0_0,p0_1,p0_2) (x3_0_0,x3_0_1,x3_0_2)) false).bind λe=>some (bif x3_1 then e else false))
def o00(b:j0)(c:C0):Option (Bool):=match b with|(p0_0,p0_1,p0_2)=>(L5 (p0_0,p0_1,p0_2)).bind λa=>(chk a (O7 c) []).bind λd=>(chk a (H8 (p0_0,p0_1,p0_2) d) false).bind λe=>some (bif a then e else false)
def V03(b:j0)(a:C0):Option (j0×Int×Bool):=match b with|(p0_0,p0_1,p0_2)=>(j9 (p0_0,p0_1,p0_2) 0 a).bind λc=>match c with|(x1_0,x1_1)=>(grd (H0 x1_0)).bind λ_=>(grd (H0 x1_1)).bind λ_=>(if(decide (x1_1=((a.length:Nat):Int)))=true then some ((p0_0,p0_1,p0_2),x1_0,true)else(T00 (p0_0,p0_1,p0_2)).bind λe=>match e with|(x5_0,x5_1)=>match x5_0 with|(x5_0_0,x5_0_1,x5_0_2)=>(if(!x5_1)=true then some ((0,0,[]),0,false)else(m05 a x1_1 (a.length:Int)).bind λf=>(S00 (x5_0_0,x5_0_1,x5_0_2) x1_0 f p0_1).bind λd=>match d with|(x12_0,x12_1)=>match x12_0 with|(x12_0_0,x12_0_1,x12_0_2)=>(if(!x12_1)=true then some ((0,0,[]),0,false)else some ((x12_0_0,x12_0_1,x12_0_2),p0_1,true))))
def J4(c:j0)(a:C0):Option (j0×Bool):=match c with|(p0_0,p0_1,p0_2)=>(L5 (p0_0,p0_1,p0_2)).bind λb=>(chk (!(!b)) (J9 p0_0 a) false).bind λd=>(if(bif(!b)then true else(!d))=true then some ((0,0,[]),false)else(V03 (p0_0,p0_1,p0_2) a).bind λe=>match e with|(x4_0,x4_1,x4_2)=>match x4_0 with|(x4_0_0,x4_0_1,x4_0_2)=>(grd (H0 x4_1)).bind λ_=>(if(!x4_2)=true then some ((0,0,[]),false)else(p8 (x4_0_0,x4_0_1,x4_0_2) x4_1).bind λf=>match f with|(x9_0,x9_1)=>match x9_0 with|(x9_0_0,x9_0_1,x9_0_2)=>some ((x9_0_0,x9_0_1,x9_0_2),x9_1)))
def C01(a:j0):Option (Int):=match a with|(p0_0,p0_1,p0_2)=>(L5 (p0_0,p0_1,p0_2)).bind λb=>(if(!b)=true then some (-1)else some (IntKind.i64.wrap ((IntKind.i64.wrap (((p0_2.length:Nat):Int)-p0_1))+1)))
def i02(a:j0):Option (Int):=match a with|(p0_0,p0_1,p0_2)=>(c9 (p0_0,p0_1,p0_2)).bind λb=>(if(!b)=true then some (-1)else some p0_1)
def o9(j:W9):Option (Bool):=match j with|(p0_0,p0_1,p0_2,p0_3,p0_4,(p0_5,p0_6,p0_7),p0_8)=>(k00 p0_1 p0_2).bind λb=>(chk (!(!b)) (J9 p0_1 p0_3) false).bind λc=>(chk (!(bif(!b)then true else(!c))) (L5 (p0_5,p0_6,p0_7)) false).bind λp=>(if(bif(bif(bif(!b)then true else(!c))then true else(!p))then true else(!decide (p0_5=p0_1)))=true then some false else(if(decide (p0_0=1))=true then(W4 (p0_5,p0_6,p0_7) p0_2).bind λa=>(chk a (e02 (p0_5,p0_6,p0_7)) []).bind λt=>(chk a (w01 t p0_4) []).bind λk=>(chk a (y00 k p0_3) false).bind λl=>some (bif a then l else false)else(if(decide (p0_0=2))=true then(I8 (p0_5,p0_6,p0_7) p0_2).bind λd=>(chk d (o00 (p0_5,p0_6,p0_7) p0_3) false).bind λm=>some (bif d then(!m)else false)else(if(decide (p0_0=3))=true then(W4 (p0_5,p0_6,p0_7) p0_2).bind λe=>(chk e (o00 (p0_5,p0_6,p0_7) p0_3) false).bind λn=>some (bif e then n else false)else(if(decide (p0_0=4))=true then(Y7 p0_3).bind λo=>(J4 (p0_5,p0_6,p0_7) o).bind λq=>match q with|(x32_0,x32_1)=>match x32_0 with|(x32_0_0,x32_0_1,x32_0_2)=>(chk x32_1 (W4 (x32_0_0,x32_0_1,x32_0_2) p0_2) false).bind λs=>some (bif x32_1 then s else false)else(if(decide (p0_0=5))=true then(W4 (p0_5,p0_6,p0_7) p0_2).bind λf=>(chk f (C01 (p0_5,p0_6,p0_7)) 0).bind λg=>(grd (H0 g)).bind λ_=>some (bif(bif f then(decide (g=((p0_2.length:Nat):Int)))else false)then(decide (p0_8=((p0_2.length:Nat):Int)))else false)else(if(decide (p0_0=6))=true then(W4 (p0_5,p0_6,p0_7) p0_2).bind λh=>(chk (bif h then(decide (p0_8>0))else false) (i02 (p0_5,p0_6,p0_7)) 0).bind λi=>(grd (H0 i)).bind λ_=>some (bif(bif h then(decide (p0_8>0))else false)then(decide (i=p0_8))else false)else some false)))))))
def C4(c:K02)(b:Int):Nat->Int->(List Int)->Option ((List Int))
 |0,_,_=>none
 |fuel+1,a,d=>(if(decide (a<((c.length:Nat):Int)))=true then(gi c a).bind λe=>match e with|(x7_0,x7_1,x7_2,x7_3,x7_4,(x7_5,x7_6,x7_7),x7_8)=>(chk (!(!decide (x7_1=b))) (gi c a) (0,0,[],[],[],(0,0,[]),0)).bind λf=>match f with|(x8_0,x8_1,x8_2,x8_3,x8_4,(x8_5,x8_6,x8_7),x8_8)=>(chk (!(!decide (x7_1=b))) (n9 (x8_0,x8_1,x8_2,x8_3,x8_4,(x8_5,x8_6,x8_7),x8_8)) false).bind λg=>(if(bif(!decide (x7_1=b))then true else(!g))=true then(grd ((d.length + [a].length)*8<=140737488355328)).bind λ_=>(C4 c b fuel (IntKind.i64.wrap (a+1)) (d ++ [a]))else(C4 c b fuel (IntKind.i64.wrap (a+1)) d))else some (d))
def c00(a:R3):Option (C0):=match a with|(p0_0,p0_1)=>(C4 p0_1 p0_0 P0 0 ([]:C0)).bind (λb=>some b)
def K01(c:R3):Option (Bool):=match c with|(p0_0,p0_1)=>(j3 p0_0 1 3).bind λa=>(chk (bif a then(decide (((p0_1.length:Nat):Int)<=12))else false) (c00 (p0_0,p0_1)) []).bind λb=>(grd (b.length<=9223372036854775807)).bind λd=>some (bif(bif a then(decide (((p0_1.length:Nat):Int)<=12))else false)then(decide (((b.length:Nat):Int)=0))else false)
def D4(c:K02)(b:Int):Nat->Int->(List Int)->Option ((List Int))
 |0,_,_=>none
 |fuel+1,a,d=>(if(decide (a<((c.length:Nat):Int)))=true then(gi c a).bind λe=>match e with|(x7_0,x7_1,x7_2,x7_3,x7_4,(x7_5,x7_6,x7_7),x7_8)=>(chk (!(!decide (x7_1=b))) (o9 (x7_0,x7_1,x7_2,x7_3,x7_4,(x7_5,x7_6,x7_7),x7_8)) false).bind λf=>(if(bif(!decide (x7_1=b))then true else(!f))=true then(grd ((d.length + [a].length)*8<=140737488355328)).bind λ_=>(D4 c b fuel (IntKind.i64.wrap (a+1)) (d ++ [a]))else(D4 c b fuel (IntKind.i64.wrap (a+1)) d))else some (d))
def d00(a:R3):Option (C0):=match a with|(p0_0,p0_1)=>(D4 p0_1 p0_0 P0 0 ([]:C0)).bind (λb=>some b)
def L01(c:R3):Option (Bool):=match c with|(p0_0,p0_1)=>(i5 p0_0 1 3).bind λa=>(chk (bif a then(decide (((p0_1.length:Nat):Int)<=12))else false) (d00 (p0_0,p0_1)) []).bind λb=>(grd (b.length<=9223372036854775807)).bind λd=>some (bif(bif a then(decide (((p0_1.length:Nat):Int)<=12))else false)then(decide (((b.length:Nat):Int)=0))else false)
end Go.Proofs.YtkjhghloldgioaaGreat
