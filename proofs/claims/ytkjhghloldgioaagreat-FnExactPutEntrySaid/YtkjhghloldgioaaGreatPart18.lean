/- Texts of the claim, joined: What functions of the program compute, in plain words: batch and others. -/
import Derived.Test.YtkjhghloldgioaaGreatPart17
import Derived.Test.YtkjhghloldgioaaGreatH36
namespace Go.Proofs.YtkjhghloldgioaaGreat
open Go.H
set_option linter.unusedVariables false
set_option linter.unusedSimpArgs false
set_option maxRecDepth 10000
def i5(a:Int)(b:Int)(c:Int):Option (Bool):=some (bif(decide (a ≥ b))then(decide (a<=c))else false)
def U5(a:Int)(b:Int)(c:Int):Option (Bool):=some (bif(decide (a ≥ b))then(decide (a<=c))else false)
def Y4(a:Int)(b:Int):Option (Int):=(if(decide (a<b))=true then some (-1)else(if(decide (a>b))=true then some 1 else some 0))
def B8(c:j0)(d:C0):Option (Bool):=match c with|(p0_0,p0_1,p0_2)=>match d with|(p1_0,p1_1,p1_2)=>(i5 p1_0 0 (IntKind.i64.wrap (p0_1-1))).bind λa=>(chk a (i5 p1_2 0 (IntKind.i64.wrap (p0_1-1))) false).bind λb=>(chk (bif a then b else false) (i5 p1_1 1 p0_0) false).bind λe=>some (bif(bif a then b else false)then e else false)
def P4(b:Int)(c:Int)(d:Int)(e:Int)(f:Int)(g:Int):Nat->Int->Option ((Int) ⊕ (Unit))
 |0,_=>none
 |fuel+1,a=>(if(decide (a<3))=true then(gi [b,c,d] a).bind λi=>(gi [e,f,g] a).bind λj=>(if(decide (i<j))=true then some (.inl (-1))else(gi [b,c,d] a).bind λk=>(gi [e,f,g] a).bind λh=>(if(decide (k>h))=true then some (.inl 1)else(P4 b c d e f g fuel (IntKind.i64.wrap (a+1)))))else some (.inr ()))
def J5(b:C0)(c:C0):Option (Int):=match b with|(p0_0,p0_1,p0_2)=>match c with|(p1_0,p1_1,p1_2)=>(P4 p0_0 p0_1 p0_2 p1_0 p1_1 p1_2 V0 0).bind λa=>f8 a (λ_=>some 0)
def j5(b:K0)(d:Int)(e:Int):Nat->Int->Option ((Bool) ⊕ (Unit))
 |0,_=>none
 |fuel+1,a=>(if(decide (a<((b.length:Nat):Int)))=true then(gi b a).bind λg=>match g with|(x6_0,x6_1,x6_2)=>(B8 (d,e,b) (x6_0,x6_1,x6_2)).bind λc=>(chk ((decide (a>0))&&(!(!c))) (gi b (IntKind.i64.wrap (a-1))) (0,0,0)).bind λh=>match h with|(x8_0,x8_1,x8_2)=>(chk ((decide (a>0))&&(!(!c))) (gi b a) (0,0,0)).bind λi=>match i with|(x9_0,x9_1,x9_2)=>(chk ((decide (a>0))&&(!(!c))) (J5 (x8_0,x8_1,x8_2) (x9_0,x9_1,x9_2)) 0).bind λf=>(grd (Q0 f)).bind λ_=>(if(bif(!c)then true else(bif(decide (a>0))then(decide (f ≥ 0))else false))=true then some (.inl false)else(j5 b d e fuel (IntKind.i64.wrap (a+1))))else some (.inr ()))
def c6(c:j0):Option (Bool):=match c with|(p0_0,p0_1,p0_2)=>(j5 p0_2 p0_0 p0_1 V0 0).bind λb=>f8 b (λ_=>(i5 p0_0 1 3).bind λa=>(chk a (i5 p0_1 1 40) false).bind λd=>some (bif(bif a then d else false)then(decide (((p0_2.length:Nat):Int)<=120))else false))
def j7(a:j0)(b:Int):Option (Bool):=match a with|(p0_0,p0_1,p0_2)=>(U5 b 0 (IntKind.i64.wrap (p0_1-1))).bind λc=>some c
def d6(c:j0)(d:C0):Option (Bool):=match c with|(p0_0,p0_1,p0_2)=>match d with|(p1_0,p1_1,p1_2)=>(j7 (p0_0,p0_1,p0_2) p1_0).bind λa=>(chk a (j7 (p0_0,p0_1,p0_2) p1_2) false).bind λb=>(chk (bif a then b else false) (U5 p1_1 1 p0_0) false).bind λe=>some (bif(bif a then b else false)then e else false)
def r6(d:C0)(e:C0):Option (Int):=match d with|(p0_0,p0_1,p0_2)=>match e with|(p1_0,p1_1,p1_2)=>(Y4 p0_0 p1_0).bind λa=>(grd (Q0 a)).bind λ_=>(if(!decide (a=0))=true then some a else(Y4 p0_1 p1_1).bind λb=>(grd (Q0 b)).bind λ_=>(if(!decide (b=0))=true then some b else(Y4 p0_2 p1_2).bind λc=>(grd (Q0 c)).bind λ_=>some c))
def l5(b:K0)(d:Int)(e:Int):Nat->Int->Option ((Bool) ⊕ (Unit))
 |0,_=>none
 |fuel+1,a=>(if(decide (a<((b.length:Nat):Int)))=true then(gi b a).bind λh=>match h with|(x9_0,x9_1,x9_2)=>(d6 (d,e,b) (x9_0,x9_1,x9_2)).bind λc=>(chk ((decide (a>0))&&(!(!c))) (gi b (IntKind.i64.wrap (a-1))) (0,0,0)).bind λg=>match g with|(x11_0,x11_1,x11_2)=>(chk ((decide (a>0))&&(!(!c))) (r6 (x11_0,x11_1,x11_2) (x9_0,x9_1,x9_2)) 0).bind λf=>(grd (Q0 f)).bind λ_=>(if(bif(!c)then true else(bif(decide (a>0))then(decide (f ≥ 0))else false))=true then some (.inl false)else(l5 b d e fuel (IntKind.i64.wrap (a+1))))else some (.inr ()))
def l7(c:j0):Option (Bool):=match c with|(p0_0,p0_1,p0_2)=>(U5 p0_0 1 3).bind λa=>(chk (!(!a)) (U5 p0_1 1 40) false).bind λd=>(if(bif(bif(!a)then true else(!d))then true else(decide (((p0_2.length:Nat):Int)>120)))=true then some false else(l5 p0_2 p0_0 p0_1 V0 0).bind λb=>f8 b (λ_=>some true))
def j3(b:S0)(a:Int):Nat->Bool->Int->(List Int)->Option (Bool×(List Int))
 |0,_,_,_=>none
 |fuel+1,e,c,d=>(if(decide (c<((b.length:Nat):Int)))=true then(gi b c).bind λl=>(if(decide (l=a))=true then(gi b c).bind λj=>(if(bif(decide (j>a))then(!true)else false)=true then(grd ((d.length + [a].length)*8<=140737488355328)).bind λ_=>(gi b c).bind λf=>(grd (((d ++ [a]).length + [f].length)*8<=140737488355328)).bind λ_=>(j3 b a fuel true (IntKind.i64.wrap (c+1)) ((d ++ [a]) ++ [f]))else(gi b c).bind λg=>(grd ((d.length + [g].length)*8<=140737488355328)).bind λ_=>(j3 b a fuel true (IntKind.i64.wrap (c+1)) (d ++ [g])))else(gi b c).bind λk=>(if(bif(decide (k>a))then(!e)else false)=true then(grd ((d.length + [a].length)*8<=140737488355328)).bind λ_=>(gi b c).bind λh=>(grd (((d ++ [a]).length + [h].length)*8<=140737488355328)).bind λ_=>(j3 b a fuel true (IntKind.i64.wrap (c+1)) ((d ++ [a]) ++ [h]))else(gi b c).bind λi=>(grd ((d.length + [i].length)*8<=140737488355328)).bind λ_=>(j3 b a fuel e (IntKind.i64.wrap (c+1)) (d ++ [i]))))else some (e,d))
def V5(c:S0)(a:Int):Option (S0):=(j3 c a V0 false 0 ([]:S0)).bind (λb=>match b with|(y35,y36)=>(if(!y35)=true then(grd ((y36.length + [a].length)*8<=140737488355328)).bind λ_=>some (y36 ++ [a])else some y36))
def g6(a:S0)(c:Int):Nat->Int->Option ((Bool) ⊕ (Unit))
 |0,_=>none
 |fuel+1,b=>(if(decide (b<((a.length:Nat):Int)))=true then(gi a b).bind λd=>(if(decide (d=c))=true then some (.inl true)else(g6 a c fuel (IntKind.i64.wrap (b+1))))else some (.inr ()))
def A6(b:S0)(c:Int):Option (Bool):=(g6 b c V0 0).bind λa=>f8 a (λ_=>some false)
def O2(c:K0)(a:Int)(b:Int):Nat->S0->Int->Option (S0)
 |0,_,_=>none
 |fuel+1,e,d=>(if(decide (d<((c.length:Nat):Int)))=true then(gi c d).bind λg=>match g with|(x11_0,x11_1,x11_2)=>(if(bif(bif(decide (a>0))then(decide (x11_1=a))else false)then(decide (x11_0=b))else false)=true then(V5 e x11_2).bind λf=>(if(bif(bif(decide (a<0))then(decide (x11_1=(IntKind.i64.wrap (0-a))))else false)then(decide (x11_2=b))else false)=true then(V5 f x11_0).bind λh=>(O2 c a b fuel h (IntKind.i64.wrap (d+1)))else(O2 c a b fuel f (IntKind.i64.wrap (d+1))))else(if(bif(bif(decide (a<0))then(decide (x11_1=(IntKind.i64.wrap (0-a))))else false)then(decide (x11_2=b))else false)=true then(V5 e x11_0).bind λi=>(O2 c a b fuel i (IntKind.i64.wrap (d+1)))else(O2 c a b fuel e (IntKind.i64.wrap (d+1)))))else some (e))
def n7(a:j0)(b:Int)(c:Int):Option (S0):=match a with|(p0_0,p0_1,p0_2)=>(O2 p0_2 c b V0 ([]:S0) 0).bind (λd=>some d)
def T6(b:j0)(c:Int)(d:Int):Option (Int):=match b with|(p0_0,p0_1,p0_2)=>(n7 (p0_0,p0_1,p0_2) c d).bind λa=>(if(decide (((a.length:Nat):Int)=0))=true then some (-1)else(gi a 0).bind λe=>some e)
def I4(b:Int)(a:K0):Nat->Int->Option ((Bool) ⊕ (Unit))
 |0,_=>none
 |fuel+1,u8=>(if(decide (u8<b))=true then(gi a b).bind λc=>match c with|(x12_0,x12_1,x12_2)=>(gi a u8).bind λd=>match d with|(x13_0,x13_1,x13_2)=>(if(bif(decide (x12_1=x13_1))then(bif(decide (x12_0=x13_0))then true else(decide (x12_2=x13_2)))else false)=true then some (.inl false)else(I4 b a fuel (IntKind.i64.wrap (u8+1))))else some (.inr ()))
def P3(a:K0)(c:Int)(d:Int):Nat->Int->Option ((Bool) ⊕ (Unit))
 |0,_=>none
 |fuel+1,b=>(chk (decide (b<((a.length:Nat):Int))) (c6 (c,d,a)) false).bind λf=>(if(bif(decide (b<((a.length:Nat):Int)))then f else false)=true then(I4 b a V0 0).bind λe=>o0e e (λ_=>(P3 a c d fuel (IntKind.i64.wrap (b+1))))else some (.inr ()))
def P6(b:j0):Option (Bool):=match b with|(p0_0,p0_1,p0_2)=>(P3 p0_2 p0_0 p0_1 V0 0).bind λa=>f8 a (λ_=>(c6 (p0_0,p0_1,p0_2)).bind λc=>some c)
def D3(c:K0)(a:Int)(d:Int):Nat->Int->(List Int)->Option ((List Int))
 |0,_,_=>none
 |fuel+1,e,b=>(if(decide (e<((c.length:Nat):Int)))=true then(gi c e).bind λf=>match f with|(x7_0,x7_1,x7_2)=>(if(bif(bif(decide (a>0))then(decide (x7_1=a))else false)then(decide (x7_0=d))else false)=true then(grd ((b.length + [x7_2].length)*8<=140737488355328)).bind λ_=>(D3 c a d fuel (IntKind.i64.wrap (e+1)) (b ++ [x7_2]))else(if(bif(bif(bif(decide (a<0))then(!decide (a=(-9223372036854775808)))else false)then(decide (x7_1=(IntKind.i64.wrap (0-a))))else false)then(decide (x7_2=d))else false)=true then(grd ((b.length + [x7_0].length)*8<=140737488355328)).bind λ_=>(D3 c a d fuel (IntKind.i64.wrap (e+1)) (b ++ [x7_0]))else(D3 c a d fuel (IntKind.i64.wrap (e+1)) b)))else some (b))
def o7(b:j0)(c:Int)(d:Int):Option (S0):=match b with|(p0_0,p0_1,p0_2)=>(D3 p0_2 d c V0 0 ([]:S0)).bind (λa=>(grd (a.length<4611686018427387904)).bind λ_=>some (p9 eqI (D01 j6 a)))
def U6(b:j0)(c:Int)(d:Int):Option (Int):=match b with|(p0_0,p0_1,p0_2)=>(o7 (p0_0,p0_1,p0_2) c d).bind λa=>(if(decide (((a.length:Nat):Int)=0))=true then some (-1)else(gi a 0).bind λe=>some e)
def J4(b:K0)(d:Int)(c:Int)(e:Int):Nat->Int->Option ((Bool) ⊕ (Unit))
 |0,_=>none
 |fuel+1,a=>(if(decide (a<((b.length:Nat):Int)))=true then(gi b a).bind λf=>match f with|(x15_0,x15_1,x15_2)=>(if(bif(decide (d=x15_1))then(bif(decide (c=x15_0))then true else(decide (e=x15_2)))else false)=true then some (.inl false)else(J4 b d c e fuel (IntKind.i64.wrap (a+1))))else some (.inr ()))
def K4(a:K0):Nat->Int->Option ((Bool) ⊕ (Unit))
 |0,_=>none
 |fuel+1,b=>(if(decide (b<((a.length:Nat):Int)))=true then(gi a b).bind λd=>match d with|(x8_0,x8_1,x8_2)=>(M04 a (IntKind.i64.wrap (b+1)) (a.length:Int)).bind λe=>(J4 e x8_1 x8_0 x8_2 V0 0).bind λc=>o0e c (λ_=>(K4 a fuel (IntKind.i64.wrap (b+1))))else some (.inr ()))
def o6(b:j0):Option (Bool):=match b with|(p0_0,p0_1,p0_2)=>(l7 (p0_0,p0_1,p0_2)).bind λc=>(if(!c)=true then some false else(K4 p0_2 V0 0).bind λa=>f8 a (λ_=>some true))
def S4(a:j0):Option (j0):=match a with|(p0_0,p0_1,p0_2)=>(grd ((([]:K0).length+p0_2.length)*24<=140737488355328)).bind λ_=>some (p0_0,p0_1,(([]:K0)++p0_2))
def l3(e:K0)(a:Int)(b:Int)(c:Int):Nat->Bool->Int->(List C0)->Option (Bool×(List C0))
 |0,_,_,_=>none
 |fuel+1,h,f,d=>(if(decide (f<((e.length:Nat):Int)))=true then(gi e f).bind λm=>match m with|(x8_0,x8_1,x8_2)=>(J5 (a,b,c) (x8_0,x8_1,x8_2)).bind λg=>(grd (Q0 g)).bind λ_=>(if(decide (g=0))=true then(if(bif(decide (g<0))then(!true)else false)=true then(grd ((d.length+([(a,b,c)]).length)*24<=140737488355328)).bind λ_=>(gi e f).bind λi=>match i with|(x14_0,x14_1,x14_2)=>(grd (((d ++ [(a,b,c)]).length+([(x14_0,x14_1,x14_2)]).length)*24<=140737488355328)).bind λ_=>(l3 e a b c fuel true (IntKind.i64.wrap (f+1)) ((d ++ [(a,b,c)]) ++ [(x14_0,x14_1,x14_2)]))else(gi e f).bind λj=>match j with|(x16_0,x16_1,x16_2)=>(grd ((d.length+([(x16_0,x16_1,x16_2)]).length)*24<=140737488355328)).bind λ_=>(l3 e a b c fuel true (IntKind.i64.wrap (f+1)) (d ++ [(x16_0,x16_1,x16_2)])))else(if(bif(decide (g<0))then(!h)else false)=true then(grd ((d.length+([(a,b,c)]).length)*24<=140737488355328)).bind λ_=>(gi e f).bind λk=>match k with|(x20_0,x20_1,x20_2)=>(grd (((d ++ [(a,b,c)]).length+([(x20_0,x20_1,x20_2)]).length)*24<=140737488355328)).bind λ_=>(l3 e a b c fuel true (IntKind.i64.wrap (f+1)) ((d ++ [(a,b,c)]) ++ [(x20_0,x20_1,x20_2)]))else(gi e f).bind λl=>match l with|(x22_0,x22_1,x22_2)=>(grd ((d.length+([(x22_0,x22_1,x22_2)]).length)*24<=140737488355328)).bind λ_=>(l3 e a b c fuel h (IntKind.i64.wrap (f+1)) (d ++ [(x22_0,x22_1,x22_2)]))))else some (h,d))
def j9(b:K0)(c:C0):Option (K0):=match c with|(p1_0,p1_1,p1_2)=>(l3 b p1_0 p1_1 p1_2 V0 false 0 ([]:K0)).bind (λa=>match a with|(y35,y36)=>(if(!y35)=true then(grd ((y36.length+([(p1_0,p1_1,p1_2)]).length)*24<=140737488355328)).bind λ_=>some (y36 ++ [(p1_0,p1_1,p1_2)])else some y36))
def C2(a:K0)(c:Int):Nat->Int->Int->Option (Int)
 |0,_,_=>none
 |fuel+1,d,b=>(if(decide (b<((a.length:Nat):Int)))=true then(gi a b).bind λf=>match f with|(x7_0,x7_1,x7_2)=>(if(decide (x7_0=c))=true then(gi a b).bind λg=>match g with|(x9_0,x9_1,x9_2)=>(if(decide (x9_2=c))=true then(C2 a c fuel (IntKind.i64.wrap ((IntKind.i64.wrap (d+1))+1)) (IntKind.i64.wrap (b+1)))else(C2 a c fuel (IntKind.i64.wrap (d+1)) (IntKind.i64.wrap (b+1))))else(gi a b).bind λe=>match e with|(x11_0,x11_1,x11_2)=>(if(decide (x11_2=c))=true then(C2 a c fuel (IntKind.i64.wrap (d+1)) (IntKind.i64.wrap (b+1)))else(C2 a c fuel d (IntKind.i64.wrap (b+1)))))else some (d))
def Q6(a:j0)(b:Int):Option (Int):=match a with|(p0_0,p0_1,p0_2)=>(C2 p0_2 b V0 0 0).bind (λc=>some c)
def w4(b:K0)(c:K0):Nat->Int->Option ((Bool) ⊕ (Unit))
 |0,_=>none
 |fuel+1,a=>(if(decide (a<((b.length:Nat):Int)))=true then(gi b a).bind λd=>match d with|(x7_0,x7_1,x7_2)=>(gi c a).bind λe=>match e with|(x8_0,x8_1,x8_2)=>(if(!eqE (x7_0,x7_1,x7_2) (x8_0,x8_1,x8_2))=true then some (.inl false)else(w4 b c fuel (IntKind.i64.wrap (a+1))))else some (.inr ()))
def F6(b:j0)(c:j0):Option (Bool):=match b with|(p0_0,p0_1,p0_2)=>match c with|(p1_0,p1_1,p1_2)=>(if(bif(bif(!decide (p0_0=p1_0))then true else(!decide (p0_1=p1_1)))then true else(!decide (((p0_2.length:Nat):Int)=((p1_2.length:Nat):Int))))=true then some false else(w4 p0_2 p1_2 V0 0).bind λa=>f8 a (λ_=>some true))
def Z1(a:K0):Nat->S0->Int->Option (S0)
 |0,_,_=>none
 |fuel+1,b,c=>(if(decide (c<((a.length:Nat):Int)))=true then(gi a c).bind λe=>match e with|(x24_0,x24_1,x24_2)=>(A6 b x24_0).bind λf=>(if f=true then(V5 b x24_2).bind λd=>(A6 d x24_2).bind λg=>(if g=true then(V5 d x24_0).bind λh=>(Z1 a fuel h (IntKind.i64.wrap (c+1)))else(Z1 a fuel d (IntKind.i64.wrap (c+1))))else(A6 b x24_2).bind λi=>(if i=true then(V5 b x24_0).bind λj=>(Z1 a fuel j (IntKind.i64.wrap (c+1)))else(Z1 a fuel b (IntKind.i64.wrap (c+1)))))else some (b))
def S3(a:K0):Nat->S0->Int->Option (S0)
 |0,_,_=>none
 |fuel+1,b,c=>(if(decide (c<(IntKind.i64.wrap (((a.length:Nat):Int)+1))))=true then(Z1 a V0 b 0).bind (λd=>(S3 a fuel d (IntKind.i64.wrap (c+1))))else some (b))
def G6(c:j0)(a:Int):Option (S0):=match c with|(p0_0,p0_1,p0_2)=>(c6 (p0_0,p0_1,p0_2)).bind λb=>(chk (!(!b)) (i5 a 0 (IntKind.i64.wrap (p0_1-1))) false).bind λd=>(if(bif(!b)then true else(!d))=true then some ([]:S0)else(S3 p0_2 V0 [a] 0).bind (λe=>some e))
def M5(b:Int)(d:Int)(e:K0)(f:S0):Nat->Int->Option ((Int) ⊕ (Unit))
 |0,_=>none
 |fuel+1,a=>(if(decide (a<b))=true then(Q6 (d,b,e) a).bind λc=>(grd (Q0 c)).bind λ_=>(chk (!(decide (c<2))) (A6 f a) false).bind λg=>(if(bif(decide (c<2))then true else(!g))=true then some (.inl a)else(M5 b d e f fuel (IntKind.i64.wrap (a+1))))else some (.inr ()))
def C8(b:j0):Option (Int):=match b with|(p0_0,p0_1,p0_2)=>(G6 (p0_0,p0_1,p0_2) 0).bind λc=>(M5 p0_1 p0_0 p0_2 c V0 1).bind λa=>f8 a (λ_=>some (-1))
def I2(b:K0)(a:(List Int)):Nat->Int->Int->Int->K0->Option (Int×Int×K0)
 |0,_,_,_,_=>none
 |fuel+1,c,d,e,f=>(if(decide (c<((b.length:Nat):Int)))=true then(gi b c).bind λh=>match h with|(x31_0,x31_1,x31_2)=>(gi a x31_0).bind λg=>(chk (decide (g>0)) (gi a x31_2) 0).bind λi=>(if(bif(decide (g>0))then(decide (i>0))else false)=true then(gi a x31_0).bind λj=>(gi a x31_2).bind λk=>(j9 f ((IntKind.i64.wrap (j-1)),x31_1,(IntKind.i64.wrap (k-1)))).bind λl=>(I2 b a fuel (IntKind.i64.wrap (c+1)) d e l)else(I2 b a fuel (IntKind.i64.wrap (c+1)) d e f))else some (d,e,f))
def A3(a:S0)(c:Int)(e:Int)(f:K0):Nat->Int->(List Int)->Option ((j0×Bool) ⊕ ((List Int)))
 |0,_,_=>none
 |fuel+1,u8,b=>(if(decide (u8<((a.length:Nat):Int)))=true then(gi a u8).bind λh=>(i5 h 0 (IntKind.i64.wrap (c-1))).bind λd=>(chk (!(!d)) (gi a u8) 0).bind λi=>(chk (!(!d)) (gi b i) 0).bind λj=>(if(bif(!d)then true else(!decide (j=0)))=true then(S4 (e,c,f)).bind λk=>match k with|(x18_0,x18_1,x18_2)=>some (.inl ((x18_0,x18_1,x18_2),false))else(gi a u8).bind λg=>(gi b g).bind λl=>(A3 a c e f fuel (IntKind.i64.wrap (u8+1)) (b.set g.toNat (IntKind.i64.wrap (u8+1)))))else some (.inr (b)))
def i6(d:j0)(a:S0):Option (j0×Bool):=match d with|(p0_0,p0_1,p0_2)=>(c6 (p0_0,p0_1,p0_2)).bind λe=>(if(bif(bif(!e)then true else(decide (((a.length:Nat):Int)=0)))then true else(decide (((a.length:Nat):Int)>p0_1)))=true then(S4 (p0_0,p0_1,p0_2)).bind λf=>match f with|(x3_0,x3_1,x3_2)=>some ((x3_0,x3_1,x3_2),false)else(grd ((0:Int)<=p0_1/\p0_1<=p0_1/\p0_1*8<=140737488355328/\p0_1<=9223372036854775807)).bind λ_=>(A3 a p0_1 p0_0 p0_2 V0 0 (List.replicate p0_1.toNat (0:Int))).bind λc=>f8 c (λg=>(I2 p0_2 g V0 0 p0_0 ((a.length:Nat):Int) ([]:K0)).bind (λb=>match b with|(y86,y87,y88)=>some ((y86,y87,y88),true))))
def A4(c:Int):Nat->Int->(List Int)->Option ((List Int))
 |0,_,_=>none
 |fuel+1,a,b=>(if(decide (a<=c))=true then(grd ((b.length + [a].length)*8<=140737488355328)).bind λ_=>(grd (((b ++ [a]).length+([(IntKind.i64.wrap (0-a))]).length)*8<=140737488355328)).bind λ_=>(A4 c fuel (IntKind.i64.wrap (a+1)) ((b ++ [a]) ++ [(IntKind.i64.wrap (0-a))]))else some (b))
def p7(a:Int):Option (S0):=(A4 a V0 1 ([]:S0)).bind (λb=>some b)
def D2(d:S0)(h:Int)(e:Int)(f:Int)(g:K0):Nat->Int->(List Int)->Option ((List Int))
 |0,_,_=>none
 |fuel+1,c,a=>(if(decide (c<((d.length:Nat):Int)))=true then(gi a h).bind λi=>(gi d c).bind λj=>(T6 (e,f,g) i j).bind λb=>(grd (Q0 b)).bind λ_=>(chk (decide (b ≥ 0)) (A6 a b) false).bind λk=>(if(bif(decide (b ≥ 0))then(!k)else false)=true then(grd ((a.length + [b].length)*8<=140737488355328)).bind λ_=>(D2 d h e f g fuel (IntKind.i64.wrap (c+1)) (a ++ [b]))else(D2 d h e f g fuel (IntKind.i64.wrap (c+1)) a))else some (a))
def M3(g:S0)(d:Int)(e:Int)(f:K0):Nat->Int->(List Int)->Option ((List Int))
 |0,_,_=>none
 |fuel+1,a,b=>(some b.length).bind λc=>(grd (c<=9223372036854775807)).bind λ_=>(if(decide (a<((c:Nat):Int)))=true then(D2 g a d e f V0 0 b).bind (λh=>(M3 g d e f fuel (IntKind.i64.wrap (a+1)) h))else some (b))
def P5(a:j0):Option (S0):=match a with|(p0_0,p0_1,p0_2)=>(P6 (p0_0,p0_1,p0_2)).bind λb=>(if(!b)=true then some ([]:S0)else(p7 p0_0).bind λc=>(M3 c p0_0 p0_1 p0_2 V0 0 [0]).bind (λd=>some d))
def Q5(b:j0):Option (j0):=match b with|(p0_0,p0_1,p0_2)=>(P5 (p0_0,p0_1,p0_2)).bind λa=>(if(decide (((a.length:Nat):Int)=0))=true then(S4 (p0_0,p0_1,p0_2)).bind λc=>match c with|(x5_0,x5_1,x5_2)=>some (x5_0,x5_1,x5_2)else(i6 (p0_0,p0_1,p0_2) a).bind λd=>match d with|(x8_0,x8_1)=>match x8_0 with|(x8_0_0,x8_0_1,x8_0_2)=>some (x8_0_0,x8_0_1,x8_0_2))
def N7(c:j0):Option (Bool):=match c with|(p0_0,p0_1,p0_2)=>(P6 (p0_0,p0_1,p0_2)).bind λa=>(chk a (C8 (p0_0,p0_1,p0_2)) 0).bind λb=>(grd (Q0 b)).bind λf=>(chk (bif a then(decide (b<0))else false) (Q5 (p0_0,p0_1,p0_2)) (0,0,[])).bind λd=>match d with|(x10_0,x10_1,x10_2)=>(chk (bif a then(decide (b<0))else false) (F6 (x10_0,x10_1,x10_2) (p0_0,p0_1,p0_2)) false).bind λe=>some (bif(bif a then(decide (b<0))else false)then e else false)
def L4(a:j0):Option (Bool):=match a with|(p0_0,p0_1,p0_2)=>(N7 (p0_0,p0_1,p0_2)).bind λb=>some b
def N5(b:ByteArray):Nat->Int->Option ((Bool) ⊕ (Unit))
 |0,_=>none
 |fuel+1,a=>(if(decide (a<((b.size:Nat):Int)))=true then(sgi b a).bind λc=>(chk (!(decide (((c.toNat:Nat):Int)<97))) (sgi b a) 0).bind λd=>(chk (bif(decide (((c.toNat:Nat):Int)<97))then true else(decide (((d.toNat:Nat):Int)>122))) (sgi b a) 0).bind λe=>(chk ((!(decide (((e.toNat:Nat):Int)<48)))&&(bif(decide (((c.toNat:Nat):Int)<97))then true else(decide (((d.toNat:Nat):Int)>122)))) (sgi b a) 0).bind λf=>(if(bif(bif(decide (((c.toNat:Nat):Int)<97))then true else(decide (((d.toNat:Nat):Int)>122)))then(bif(bif(decide (((e.toNat:Nat):Int)<48))then true else(decide (((f.toNat:Nat):Int)>57)))then true else(decide (a=0)))else false)=true then some (.inl false)else(N5 b fuel (IntKind.i64.wrap (a+1))))else some (.inr ()))
def O7(a:ByteArray):Option (Bool):=(N5 a V0 0).bind λb=>f8 b (λ_=>(i5 ((a.size:Nat):Int) 1 8).bind λc=>some c)
def B4(b:N0)(c:Int):Nat->Int->Option ((Bool) ⊕ (Unit))
 |0,_=>none
 |fuel+1,a=>(if(decide (a<((b.length:Nat):Int)))=true then(gi b a).bind λf=>match f with|(x6_0,(x6_1,x6_2,x6_3))=>(O7 x6_0).bind λd=>(chk (!(!d)) (L4 (x6_1,x6_2,x6_3)) false).bind λe=>(chk ((decide (a>0))&&(!(bif(bif(!d)then true else(!e))then true else(!decide (x6_1=c))))) (gi b (IntKind.i64.wrap (a-1))) (⟨#[]⟩,(0,0,[]))).bind λg=>match g with|(x9_0,(x9_1,x9_2,x9_3))=>(if(bif(bif(bif(!d)then true else(!e))then true else(!decide (x6_1=c)))then true else(bif(decide (a>0))then(!r8 x9_0 x6_0)else false))=true then some (.inl false)else(B4 b c fuel (IntKind.i64.wrap (a+1))))else some (.inr ()))
def r7(b:T0):Option (Bool):=match b with|(p0_0,p0_1)=>(B4 p0_1 p0_0 V0 0).bind λa=>f8 a (λ_=>(i5 p0_0 1 3).bind λc=>some (bif c then(decide (((p0_1.length:Nat):Int)<=16))else false))
def n5(a:j0):Option (j0):=match a with|(p0_0,p0_1,p0_2)=>(grd ((([]:K0).length+p0_2.length)*24<=140737488355328)).bind λ_=>some (p0_0,p0_1,(([]:K0)++p0_2))
def Q3(b:K0)(a:Int):Nat->Int->Int->Option (Int)
 |0,_,_=>none
 |fuel+1,d,c=>(if(decide (c<((b.length:Nat):Int)))=true then(gi b c).bind λe=>match e with|(x7_0,x7_1,x7_2)=>(if(decide (x7_0=a))=true then(if(decide (x7_2=a))=true then(Q3 b a fuel (IntKind.i64.wrap ((IntKind.i64.wrap (d+1))+1)) (IntKind.i64.wrap (c+1)))else(Q3 b a fuel (IntKind.i64.wrap (d+1)) (IntKind.i64.wrap (c+1))))else(if(decide (x7_2=a))=true then(Q3 b a fuel (IntKind.i64.wrap (d+1)) (IntKind.i64.wrap (c+1)))else(Q3 b a fuel d (IntKind.i64.wrap (c+1)))))else some (d))
def K7(a:j0)(b:Int):Option (Int):=match a with|(p0_0,p0_1,p0_2)=>(Q3 p0_2 b V0 0 0).bind (λc=>some c)
def J0(b:K0)(c:K0):Nat->Int->Option ((Bool) ⊕ (Unit))
 |0,_=>none
 |fuel+1,a=>(if(decide (a<((b.length:Nat):Int)))=true then(gi b a).bind λd=>match d with|(x7_0,x7_1,x7_2)=>(gi c a).bind λe=>match e with|(x8_0,x8_1,x8_2)=>(if(!eqE (x7_0,x7_1,x7_2) (x8_0,x8_1,x8_2))=true then some (.inl false)else(J0 b c fuel (IntKind.i64.wrap (a+1))))else some (.inr ()))
def O1(a:K0)(b:K0):Option (Bool):=(if(!decide (((a.length:Nat):Int)=((b.length:Nat):Int)))=true then some false else(J0 a b V0 0).bind λc=>f8 c (λ_=>some true))
def H6(a:j0)(b:j0):Option (Bool):=match a with|(p0_0,p0_1,p0_2)=>match b with|(p1_0,p1_1,p1_2)=>(chk (bif(decide (p0_0=p1_0))then(decide (p0_1=p1_1))else false) (O1 p0_2 p1_2) false).bind λc=>some (bif(bif(decide (p0_0=p1_0))then(decide (p0_1=p1_1))else false)then c else false)
def U2(b:K0):Nat->Bool->Int->(List Bool)->Option (Bool×(List Bool))
 |0,_,_,_=>none
 |fuel+1,d,c,a=>(if(decide (c<((b.length:Nat):Int)))=true then(gi b c).bind λe=>match e with|(x16_0,x16_1,x16_2)=>(gi a x16_0).bind λf=>(gi a x16_2).bind λg=>(if(!(f == g))=true then(gi a x16_0).bind λh=>(gi (a.set x16_0.toNat true) x16_2).bind λi=>(U2 b fuel true (IntKind.i64.wrap (c+1)) ((a.set x16_0.toNat true).set x16_2.toNat true))else(U2 b fuel d (IntKind.i64.wrap (c+1)) a))else some (d,a))
def I3(a:K0):Nat->Bool->(List Bool)->Option ((List Bool))
 |0,_,_=>none
 |fuel+1,d,b=>(if d=true then(U2 a V0 false 0 b).bind (λc=>match c with|(y23,y24)=>(I3 a fuel y23 y24))else some (b))
def s6(b:j0)(a:Int):Option ((List Bool)):=match b with|(p0_0,p0_1,p0_2)=>(grd ((0:Int)<=p0_1/\p0_1<=p0_1/\p0_1*1<=140737488355328/\p0_1<=9223372036854775807)).bind λ_=>(gi (List.replicate p0_1.toNat (false:Bool)) a).bind λd=>(I3 p0_2 V0 true ((List.replicate p0_1.toNat (false:Bool)).set a.toNat true)).bind (λc=>some c)
def o5(c:Int):Nat->Int->(List Int)->Option ((List Int))
 |0,_,_=>none
 |fuel+1,a,b=>(if(decide (a<=c))=true then(grd ((b.length+([a,(IntKind.i64.wrap (0-a))]).length)*8<=140737488355328)).bind λ_=>(o5 c fuel (IntKind.i64.wrap (a+1)) (b ++ [a,(IntKind.i64.wrap (0-a))]))else some (b))
def g8(a:Int):Option (S0):=(o5 a V0 1 ([]:S0)).bind (λb=>some b)
def D8(a:K0):Option (K0):=(grd ((([]:K0).length+a.length)*24<=140737488355328)).bind λ_=>(grd ((([]:K0)++a).length<4611686018427387904)).bind λ_=>some (p9 eqE (D01 P1 (([]:K0)++a)))
def W5(b:K0)(a:(List Int)):Nat->Int->Int->Int->(List C0)->Option (Int×Int×(List C0))
 |0,_,_,_,_=>none
 |fuel+1,c,e,f,d=>(if(decide (c<((b.length:Nat):Int)))=true then(gi b c).bind λj=>match j with|(x27_0,x27_1,x27_2)=>(gi a x27_0).bind λg=>(chk (decide (g ≥ 0)) (gi a x27_2) 0).bind λk=>(if(bif(decide (g ≥ 0))then(decide (k ≥ 0))else false)=true then(gi a x27_0).bind λh=>(gi a x27_2).bind λi=>(grd ((d.length+([(h,x27_1,i)]).length)*24<=140737488355328)).bind λ_=>(W5 b a fuel (IntKind.i64.wrap (c+1)) e f (d ++ [(h,x27_1,i)]))else(W5 b a fuel (IntKind.i64.wrap (c+1)) e f d))else some (e,f,d))
def B6(b:S0):Nat->Int->(List Int)->Option ((List Int))
 |0,_,_=>none
 |fuel+1,a,c=>(if(decide (a<((b.length:Nat):Int)))=true then(gi b a).bind λd=>(gi c d).bind λe=>(B6 b fuel (IntKind.i64.wrap (a+1)) (c.set d.toNat a))else some (c))
def C6(c:Nat):Nat->Int->(List Int)->Option ((List Int))
 |0,_,_=>none
 |fuel+1,a,b=>(if(decide (a<((c:Nat):Int)))=true then(gi b a).bind λd=>(C6 c fuel (IntKind.i64.wrap (a+1)) (b.set a.toNat (-1)))else some (b))
def V8(d:j0)(b:S0):Option (j0):=match d with|(p0_0,p0_1,p0_2)=>(grd ((0:Int)<=p0_1/\p0_1<=p0_1/\p0_1*8<=140737488355328/\p0_1<=9223372036854775807)).bind λ_=>(some (List.replicate p0_1.toNat (0:Int)).length).bind λa=>(grd (a<=9223372036854775807)).bind λ_=>(C6 a V0 0 (List.replicate p0_1.toNat (0:Int))).bind (λf=>(B6 b V0 0 f).bind (λg=>(W5 p0_2 g V0 0 p0_0 ((b.length:Nat):Int) ([]:K0)).bind (λc=>match c with|(y203,y204,y205)=>(D8 y205).bind λe=>some (y203,y204,e))))
def O5(b:ByteArray):Nat->Int->Option ((Bool) ⊕ (Unit))
 |0,_=>none
 |fuel+1,a=>(if(decide (a<((b.size:Nat):Int)))=true then(sgi b a).bind λd=>(chk (decide (((d.toNat:Nat):Int) ≥ 97)) (sgi b a) 0).bind λf=>(sgi b a).bind λc=>(chk (decide (((c.toNat:Nat):Int) ≥ 48)) (sgi b a) 0).bind λe=>(if(bif(!(bif(decide (((d.toNat:Nat):Int) ≥ 97))then(decide (((f.toNat:Nat):Int)<=122))else false))then(bif(decide (a=0))then true else(!(bif(decide (((c.toNat:Nat):Int) ≥ 48))then(decide (((e.toNat:Nat):Int)<=57))else false)))else false)=true then some (.inl false)else(O5 b fuel (IntKind.i64.wrap (a+1))))else some (.inr ()))
def P7(a:ByteArray):Option (Bool):=(U5 ((a.size:Nat):Int) 1 8).bind λc=>(if(!c)=true then some false else(O5 a V0 0).bind λb=>f8 b (λ_=>some true))
def L7(a:S0):Option (S0):=(grd ((([]:S0).length+a.length)*8<=140737488355328)).bind λ_=>some (([]:S0)++a)
def K3(f:S0)(g:Int)(h:Int)(i:K0)(e:Int):Nat->Int->(List (Option S0))->(List Int)->Option ((List (Option S0))×(List Int))
 |0,_,_,_=>none
 |fuel+1,c,b,d=>(if(decide (c<((f.length:Nat):Int)))=true then(gi f c).bind λj=>(U6 (g,h,i) e j).bind λa=>(grd (Q0 a)).bind λ_=>(chk (decide (a ≥ 0)) (gi b a) (none:Option S0)).bind λl=>(if(bif(decide (a ≥ 0))then l.isNone else false)=true then(gi b e).bind λm=>(L7 (m.getD [])).bind λk=>(grd ((k.length + [j].length)*8<=140737488355328)).bind λ_=>(gi b a).bind λn=>(grd ((d.length + [a].length)*8<=140737488355328)).bind λ_=>(K3 f g h i e fuel (IntKind.i64.wrap (c+1)) (b.set a.toNat (some (k ++ [j]))) (d ++ [a]))else(K3 f g h i e fuel (IntKind.i64.wrap (c+1)) b d))else some (b,d))
def H4(b:Int)(d:Int)(e:K0):Nat->Int->(List (Option S0))->(List Int)->Option ((List (Option S0))×(List Int))
 |0,_,_,_=>none
 |fuel+1,u8,f,a=>(some a.length).bind λc=>(grd (c<=9223372036854775807)).bind λ_=>(if(decide (u8<((c:Nat):Int)))=true then(gi a u8).bind λh=>(g8 b).bind λi=>(K3 i b d e h V0 0 f a).bind (λg=>match g with|(y41,y42)=>(H4 b d e fuel (IntKind.i64.wrap (u8+1)) y41 y42))else some (f,a))
def S7(c:j0)(a:Int):Option (S0×P09):=match c with|(p0_0,p0_1,p0_2)=>(grd ((0:Int)<=p0_1/\p0_1<=p0_1/\p0_1*24<=140737488355328/\p0_1<=9223372036854775807)).bind λ_=>(gi (List.replicate p0_1.toNat (none:Option S0)) a).bind λd=>(H4 p0_0 p0_1 p0_2 V0 0 ((List.replicate p0_1.toNat (none:Option S0)).set a.toNat (some ([]:S0))) [a]).bind (λb=>match b with|(y54,y55)=>some (y55,(List.map (λo:Option S0=>o.getD ([]:S0)) y54)))
def R5(a:j0):Option (S0):=match a with|(p0_0,p0_1,p0_2)=>(o6 (p0_0,p0_1,p0_2)).bind λb=>(if(!b)=true then some ([]:S0)else(S7 (p0_0,p0_1,p0_2) 0).bind λc=>match c with|(x7_0,x7_1)=>some x7_0)
def S5(a:j0):Option (j0):=match a with|(p0_0,p0_1,p0_2)=>(o6 (p0_0,p0_1,p0_2)).bind λb=>(if(!b)=true then(n5 (p0_0,p0_1,p0_2)).bind λd=>match d with|(x3_0,x3_1,x3_2)=>some (x3_0,x3_1,x3_2)else(R5 (p0_0,p0_1,p0_2)).bind λe=>(V8 (p0_0,p0_1,p0_2) e).bind λc=>match c with|(x10_0,x10_1,x10_2)=>some (x10_0,x10_1,x10_2))
def V3(c:Int)(d:Int):Nat->Int->(List Int)->Option ((List Int))
 |0,_,_=>none
 |fuel+1,a,b=>(if(decide (a<c))=true then(if(!decide (a=d))=true then(grd ((b.length + [a].length)*8<=140737488355328)).bind λ_=>(V3 c d fuel (IntKind.i64.wrap (a+1)) (b ++ [a]))else(V3 c d fuel (IntKind.i64.wrap (a+1)) b))else some (b))
def P2(b:Int)(c:Int)(d:K0)(f:(List Bool)):Nat->Int->Int->Option (Int)
 |0,_,_=>none
 |fuel+1,e,a=>(if(bif(decide (a<b))then(decide (e=0))else false)=true then(K7 (c,b,d) a).bind λg=>(grd (Q0 g)).bind λ_=>(chk (!(decide (g<2))) (gi f a) false).bind λh=>(if(bif(decide (g<2))then true else(!h))=true then(P2 b c d f fuel a (IntKind.i64.wrap (a+1)))else(P2 b c d f fuel e (IntKind.i64.wrap (a+1))))else some (e))
def Z4:Nat->S0->Int->Int->K0->Option ((j0×S0) ⊕ (Int×Int×K0))
 |0,_,_,_,_=>none
 |fuel+1,b,c,a,d=>(s6 (c,a,d) 0).bind λi=>(P2 a c d i V0 0 1).bind (λe=>(if(decide (e=0))=true then some (.inl ((c,a,d),b))else(V3 a e V0 0 ([]:S0)).bind (λj=>(V8 (c,a,d) j).bind λh=>match h with|(x111_0,x111_1,x111_2)=>(M04 b 0 e).bind λf=>(M04 b (IntKind.i64.wrap (e+1)) (b.length:Int)).bind λg=>(grd ((f.length+g.length)*8<=140737488355328)).bind λ_=>(Z4 fuel (f++g) x111_0 x111_1 x111_2))))
def C4(c:Int):Nat->Int->(List Int)->Option ((List Int))
 |0,_,_=>none
 |fuel+1,a,b=>(if(decide (a<c))=true then(grd ((b.length + [a].length)*8<=140737488355328)).bind λ_=>(C4 c fuel (IntKind.i64.wrap (a+1)) (b ++ [a]))else some (b))
def w7(b:j0):Option (j0×S0):=match b with|(p0_0,p0_1,p0_2)=>(n5 (p0_0,p0_1,p0_2)).bind λc=>match c with|(x1_0,x1_1,x1_2)=>(l7 (p0_0,p0_1,p0_2)).bind λd=>(if(!d)=true then some ((x1_0,x1_1,x1_2),([]:S0))else(C4 p0_1 V0 0 ([]:S0)).bind (λe=>(Z4 V0 e x1_0 x1_1 x1_2).bind λa=>f8 a (λ_=>none)))
def a7(a:j0):Option (Bool):=match a with|(p0_0,p0_1,p0_2)=>(o6 (p0_0,p0_1,p0_2)).bind λb=>(if(!b)=true then some false else(w7 (p0_0,p0_1,p0_2)).bind λd=>match d with|(x3_0,x3_1)=>match x3_0 with|(x3_0_0,x3_0_1,x3_0_2)=>(chk (decide (x3_0_1=p0_1)) (S5 (p0_0,p0_1,p0_2)) (0,0,[])).bind λe=>match e with|(x8_0,x8_1,x8_2)=>(chk (decide (x3_0_1=p0_1)) (H6 (x8_0,x8_1,x8_2) (p0_0,p0_1,p0_2)) false).bind λc=>some (bif(decide (x3_0_1=p0_1))then c else false))
def D4(b:N0)(c:Int):Nat->Int->Option ((Bool) ⊕ (Unit))
 |0,_=>none
 |fuel+1,a=>(if(decide (a<((b.length:Nat):Int)))=true then(gi b a).bind λg=>match g with|(x8_0,(x8_1,x8_2,x8_3))=>(P7 x8_0).bind λd=>(chk ((decide (a>0))&&(!(!d))) (gi b (IntKind.i64.wrap (a-1))) (⟨#[]⟩,(0,0,[]))).bind λe=>match e with|(x10_0,(x10_1,x10_2,x10_3))=>(chk (!(bif(bif(!d)then true else(bif(decide (a>0))then(!r8 x10_0 x8_0)else false))then true else(!decide (x8_1=c)))) (a7 (x8_1,x8_2,x8_3)) false).bind λf=>(if(bif(bif(bif(!d)then true else(bif(decide (a>0))then(!r8 x10_0 x8_0)else false))then true else(!decide (x8_1=c)))then true else(!f))=true then some (.inl false)else(D4 b c fuel (IntKind.i64.wrap (a+1))))else some (.inr ()))
def z7(b:T0):Option (Bool):=match b with|(p0_0,p0_1)=>(U5 p0_0 1 3).bind λc=>(if(bif(!c)then true else(decide (((p0_1.length:Nat):Int)>16)))=true then some false else(D4 p0_1 p0_0 V0 0).bind λa=>f8 a (λ_=>some true))
def p5(a:N0):Nat->Int->Int->(List l4)->Option (Int×(List l4))
 |0,_,_,_=>none
 |fuel+1,b,d,c=>(if(decide (b<((a.length:Nat):Int)))=true then(gi a b).bind λg=>match g with|(x8_0,(x8_1,x8_2,x8_3))=>(gi a b).bind λe=>match e with|(x13_0,(x13_1,x13_2,x13_3))=>(S4 (x13_1,x13_2,x13_3)).bind λf=>match f with|(x18_0,x18_1,x18_2)=>(grd ((c.length+([(x8_0,(x18_0,x18_1,x18_2))]).length)*56<=140737488355328)).bind λ_=>(p5 a fuel (IntKind.i64.wrap (b+1)) d (c ++ [(x8_0,(x18_0,x18_1,x18_2))]))else some (d,c))
def I6(b:T0):Option (T0):=match b with|(p0_0,p0_1)=>(p5 p0_1 V0 0 p0_0 ([]:N0)).bind (λa=>match a with|(y27,y28)=>some (y27,y28))
def U3(a:N0):Nat->Int->Int->(List l4)->Option (Int×(List l4))
 |0,_,_,_=>none
 |fuel+1,b,d,c=>(if(decide (b<((a.length:Nat):Int)))=true then(gi a b).bind λe=>match e with|(x8_0,(x8_1,x8_2,x8_3))=>(n5 (x8_1,x8_2,x8_3)).bind λf=>match f with|(x9_0,x9_1,x9_2)=>(grd ((c.length+([(x8_0,(x9_0,x9_1,x9_2))]).length)*56<=140737488355328)).bind λ_=>(U3 a fuel (IntKind.i64.wrap (b+1)) d (c ++ [(x8_0,(x9_0,x9_1,x9_2))]))else some (d,c))
def J6(b:T0):Option (T0):=match b with|(p0_0,p0_1)=>(U3 p0_1 V0 0 p0_0 ([]:N0)).bind (λa=>match a with|(y20,y21)=>some (y20,y21))
def J3(b:N0)(c:ByteArray):Nat->Int->Option ((Int) ⊕ (Unit))
 |0,_=>none
 |fuel+1,a=>(if(decide (a<((b.length:Nat):Int)))=true then(gi b a).bind λd=>match d with|(x6_0,(x6_1,x6_2,x6_3))=>(if(V9 x6_0 c)=true then some (.inl a)else(J3 b c fuel (IntKind.i64.wrap (a+1))))else some (.inr ()))
def t6(b:T0)(c:ByteArray):Option (Int):=match b with|(p0_0,p0_1)=>(J3 p0_1 c V0 0).bind λa=>f8 a (λ_=>some (-1))
def B3(c:N0)(a:ByteArray)(e:Int)(f:Int)(g:K0):Nat->Bool->Int->Int->(List l4)->Option (Bool×Int×(List l4))
 |0,_,_,_,_=>none
 |fuel+1,i,d,h,b=>(if(decide (d<((c.length:Nat):Int)))=true then(gi c d).bind λj=>match j with|(x16_0,(x16_1,x16_2,x16_3))=>(gi c d).bind λk=>match k with|(x21_0,(x21_1,x21_2,x21_3))=>(S4 (x21_1,x21_2,x21_3)).bind λl=>match l with|(x26_0,x26_1,x26_2)=>(if(bif(!i)then(r8 a x16_0 || V9 a x16_0)else false)=true then(S4 (e,f,g)).bind λm=>match m with|(x37_0,x37_1,x37_2)=>(grd ((b.length+([(a,(x37_0,x37_1,x37_2))]).length)*56<=140737488355328)).bind λ_=>(if(!V9 x16_0 a)=true then(grd (((b ++ [(a,(x37_0,x37_1,x37_2))]).length+([(x16_0,(x26_0,x26_1,x26_2))]).length)*56<=140737488355328)).bind λ_=>(B3 c a e f g fuel true (IntKind.i64.wrap (d+1)) h ((b ++ [(a,(x37_0,x37_1,x37_2))]) ++ [(x16_0,(x26_0,x26_1,x26_2))]))else(B3 c a e f g fuel true (IntKind.i64.wrap (d+1)) h (b ++ [(a,(x37_0,x37_1,x37_2))])))else(if(!V9 x16_0 a)=true then(grd ((b.length+([(x16_0,(x26_0,x26_1,x26_2))]).length)*56<=140737488355328)).bind λ_=>(B3 c a e f g fuel i (IntKind.i64.wrap (d+1)) h (b ++ [(x16_0,(x26_0,x26_1,x26_2))]))else(B3 c a e f g fuel i (IntKind.i64.wrap (d+1)) h b)))else some (i,h,b))
def F8(g:T0)(a:ByteArray)(h:j0):Option (T0×Bool):=match g with|(p0_0,p0_1)=>match h with|(p2_0,p2_1,p2_2)=>(r7 (p0_0,p0_1)).bind λb=>(chk (!(!b)) (O7 a) false).bind λe=>(chk (!(bif(!b)then true else(!e))) (L4 (p2_0,p2_1,p2_2)) false).bind λi=>(if(bif(bif(bif(!b)then true else(!e))then true else(!i))then true else(!decide (p2_0=p0_0)))=true then(I6 (p0_0,p0_1)).bind λj=>match j with|(x5_0,x5_1)=>some ((x5_0,x5_1),false)else(B3 p0_1 a p2_0 p2_1 p2_2 V0 false 0 p0_0 ([]:N0)).bind (λf=>match f with|(y71,y72,y73)=>(if(!y71)=true then(S4 (p2_0,p2_1,p2_2)).bind λk=>match k with|(x75_0,x75_1,x75_2)=>(grd ((y73.length+([(a,(x75_0,x75_1,x75_2))]).length)*56<=140737488355328)).bind λ_=>(some (y73 ++ [(a,(x75_0,x75_1,x75_2))]).length).bind λc=>(grd (c<=9223372036854775807)).bind λ_=>(if(decide (((c:Nat):Int)>16))=true then(I6 (p0_0,p0_1)).bind λl=>match l with|(x82_0,x82_1)=>some ((x82_0,x82_1),false)else some ((y72,(y73 ++ [(a,(x75_0,x75_1,x75_2))])),true))else(some y73.length).bind λd=>(grd (d<=9223372036854775807)).bind λ_=>(if(decide (((d:Nat):Int)>16))=true then(I6 (p0_0,p0_1)).bind λm=>match m with|(x92_0,x92_1)=>some ((x92_0,x92_1),false)else some ((y72,y73),true)))))
def C3(c:Int):Nat->Int->N0->Option (N0)
 |0,_,_=>none
 |fuel+1,a,b=>(if(decide (a>c))=true then(gi b (IntKind.i64.wrap (a-1))).bind λd=>match d with|(x37_0,(x37_1,x37_2,x37_3))=>(gi b a).bind λe=>match e with|(x42_0,(x42_1,x42_2,x42_3))=>(gi b a).bind λf=>match f with|(x47_0,(x47_1,x47_2,x47_3))=>(gi b (IntKind.i64.wrap (a-1))).bind λg=>match g with|(x53_0,(x53_1,x53_2,x53_3))=>(C3 c fuel (IntKind.i64.wrap (a-1)) ((b.set a.toNat (x37_0,(x37_1,x37_2,x37_3))).set (IntKind.i64.wrap (a-1)).toNat (x42_0,(x42_1,x42_2,x42_3))))else some (b))
def N4(b:N0)(c:ByteArray):Nat->Int->Option (Int)
 |0,_=>none
 |fuel+1,a=>(chk (decide (a<((b.length:Nat):Int))) (gi b a) (⟨#[]⟩,(0,0,[]))).bind λd=>match d with|(x26_0,(x26_1,x26_2,x26_3))=>(if(bif(decide (a<((b.length:Nat):Int)))then(r8 x26_0 c)else false)=true then(N4 b c fuel (IntKind.i64.wrap (a+1)))else some (a))
def G8(e:T0)(a:ByteArray)(f:j0):Option (T0×Bool):=match e with|(p0_0,p0_1)=>match f with|(p2_0,p2_1,p2_2)=>(J6 (p0_0,p0_1)).bind λg=>match g with|(x1_0,x1_1)=>(z7 (p0_0,p0_1)).bind λc=>(chk (!(!c)) (P7 a) false).bind λd=>(chk (!(bif(bif(!c)then true else(!d))then true else(!decide (p2_0=p0_0)))) (a7 (p2_0,p2_1,p2_2)) false).bind λi=>(if(bif(bif(bif(!c)then true else(!d))then true else(!decide (p2_0=p0_0)))then true else(!i))=true then some ((x1_0,x1_1),false)else(n5 (p2_0,p2_1,p2_2)).bind λj=>match j with|(x9_0,x9_1,x9_2)=>(t6 (p0_0,p0_1) a).bind λb=>(grd (Q0 b)).bind λ_=>(if(decide (b ≥ 0))=true then(gi x1_1 b).bind λh=>match h with|(x16_0,(x16_1,x16_2,x16_3))=>some ((x1_0,(x1_1.set b.toNat (a,(x9_0,x9_1,x9_2)))),true)else(if(decide (((p0_1.length:Nat):Int)=16))=true then some ((x1_0,x1_1),false)else(N4 x1_1 a V0 0).bind (λl=>(grd ((x1_1.length+([(a,(x9_0,x9_1,x9_2))]).length)*56<=140737488355328)).bind λ_=>(C3 l V0 (IntKind.i64.wrap ((((x1_1 ++ [(a,(x9_0,x9_1,x9_2))]).length:Nat):Int)-1)) (x1_1 ++ [(a,(x9_0,x9_1,x9_2))])).bind (λk=>some ((x1_0,k),true))))))
end Go.Proofs.YtkjhghloldgioaaGreat
