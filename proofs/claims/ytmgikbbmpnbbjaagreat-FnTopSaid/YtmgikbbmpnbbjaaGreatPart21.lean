/- Texts of the claim, joined: What functions of the program compute, in plain words: batch and others. -/
import Derived.Test.YtmgikbbmpnbbjaaGreatPart20
import Derived.Test.YtmgikbbmpnbbjaaGreatH36
import Derived.Test.YtmgikbbmpnbbjaaGreatH35
namespace Go.Proofs.YtmgikbbmpnbbjaaGreat
open Go.H
set_option linter.unusedVariables false
set_option linter.unusedSimpArgs false
set_option maxRecDepth 10000
def W4(a:Int)(b:Int)(c:Int):Option (Bool):=some (bif(decide (a ≥ b))then(decide (a<=c))else false)
def M8(b:M0)(d:Int):Nat->Int->Option ((Bool) ⊕ (Unit))
 |0,_=>none
 |fuel+1,a=>(if(decide (a<((b.length:Nat):Int)))=true then(gi b a).bind λc=>(chk (!(decide (c=0))) (gi b a) 0).bind λg=>(chk (!(decide (c=0))) (W4 g (IntKind.i64.wrap (0-d)) d) false).bind λe=>(chk ((decide (a>0))&&(!(bif(decide (c=0))then true else(!e)))) (gi b a) 0).bind λh=>(chk ((decide (a>0))&&(!(bif(decide (c=0))then true else(!e)))) (gi b (IntKind.i64.wrap (a-1))) 0).bind λf=>(if(bif(bif(decide (c=0))then true else(!e))then true else(bif(decide (a>0))then(decide (h=(IntKind.i64.wrap (0-f))))else false))=true then some (.inl false)else(M8 b d fuel (IntKind.i64.wrap (a+1))))else some (.inr ()))
def T01(a:Int)(b:M0):Option (Bool):=(M8 b a W0 0).bind λc=>Q8 c (λ_=>(W4 a 1 3).bind λd=>some (bif d then(decide (((b.length:Nat):Int)<=24))else false))
def i4(a:E2):Nat->Int->Int->Option (Int)
 |0,_,_=>none
 |fuel+1,c,b=>(if(decide (b<((a.length:Nat):Int)))=true then(gi a b).bind λd=>(i4 a fuel (IntKind.i64.wrap (c+((d.length:Nat):Int))) (IntKind.i64.wrap (b+1)))else some (c))
def U8(a:E2):Option (Int):=(i4 a W0 0 0).bind (λb=>some b)
def d7(a:E2)(c:Int):Nat->Int->Option ((Bool) ⊕ (Unit))
 |0,_=>none
 |fuel+1,b=>(if(decide (b<((a.length:Nat):Int)))=true then(gi a b).bind λd=>(T01 c d).bind λe=>(if(!e)=true then some (.inl false)else(d7 a c fuel (IntKind.i64.wrap (b+1))))else some (.inr ()))
def C01(b:Int)(a:E2):Option (Bool):=(d7 a b W0 0).bind λe=>Q8 e (λ_=>(W4 b 1 3).bind λc=>(chk (bif c then(decide (((a.length:Nat):Int)<=6))else false) (U8 a) 0).bind λd=>(grd (J0 d)).bind λ_=>some (bif(bif c then(decide (((a.length:Nat):Int)<=6))else false)then(decide (d<40))else false))
def Y5(a:Int)(b:Int)(c:Int):Option (Bool):=some (bif(decide (a ≥ b))then(decide (a<=c))else false)
def D01(b:Int)(a:Int):Option (Bool):=(chk (!decide (a=0)) (Y5 a (IntKind.i64.wrap (0-b)) b) false).bind λc=>some (bif(!decide (a=0))then c else false)
def E9(a:Int)(b:Int):Option (Bool):=some (bif(bif(!decide (a=0))then(!decide (a=(-9223372036854775808)))else false)then(decide (b=(IntKind.i64.wrap (0-a))))else false)
def N8(b:M0)(d:Int):Nat->Int->Option ((Bool) ⊕ (Unit))
 |0,_=>none
 |fuel+1,a=>(if(decide (a<((b.length:Nat):Int)))=true then(gi b a).bind λe=>(D01 d e).bind λc=>(chk ((decide (a>0))&&(!(!c))) (gi b (IntKind.i64.wrap (a-1))) 0).bind λf=>(chk ((decide (a>0))&&(!(!c))) (E9 f e) false).bind λg=>(if(bif(!c)then true else(bif(decide (a>0))then g else false))=true then some (.inl false)else(N8 b d fuel (IntKind.i64.wrap (a+1))))else some (.inr ()))
def E7(a:Int)(b:M0):Option (Bool):=(Y5 a 1 3).bind λd=>(if(bif(!d)then true else(decide (((b.length:Nat):Int)>24)))=true then some false else(N8 b a W0 0).bind λc=>Q8 c (λ_=>some true))
def r6(a:E2):Nat->Int->Int->Option (Int)
 |0,_,_=>none
 |fuel+1,c,b=>(if(decide (b<((a.length:Nat):Int)))=true then(gi a b).bind λd=>(r6 a fuel (IntKind.i64.wrap (c+((d.length:Nat):Int))) (IntKind.i64.wrap (b+1)))else some (c))
def l00(a:E2):Option (Int):=(r6 a W0 0 0).bind (λb=>some b)
def g7(a:E2)(c:Int):Nat->Int->Option ((Bool) ⊕ (Unit))
 |0,_=>none
 |fuel+1,b=>(if(decide (b<((a.length:Nat):Int)))=true then(gi a b).bind λd=>(E7 c d).bind λe=>(if(!e)=true then some (.inl false)else(g7 a c fuel (IntKind.i64.wrap (b+1))))else some (.inr ()))
def w00(b:Int)(a:E2):Option (Bool):=(Y5 b 1 3).bind λe=>(if(bif(!e)then true else(decide (((a.length:Nat):Int)>6)))=true then some false else(g7 a b W0 0).bind λd=>Q8 d (λ_=>(l00 a).bind λc=>(grd (J0 c)).bind λ_=>some (decide (c<40))))
def J7(a:Int)(b:Int):Option (Int):=(if(decide (a<b))=true then some (-1)else(if(decide (a>b))=true then some 1 else some 0))
def P02(d:l0)(f:K0):Option (Bool):=match d with|(e,b,k)=>match f with|(g,h,i)=>(W4 g 0 (IntKind.i64.wrap (b-1))).bind λa=>(chk a (W4 i 0 (IntKind.i64.wrap (b-1))) false).bind λc=>(chk (bif a then c else false) (W4 h 1 e) false).bind λj=>some (bif(bif a then c else false)then j else false)
def A7(b:Int)(c:Int)(d:Int)(e:Int)(f:Int)(g:Int):Nat->Int->Option ((Int) ⊕ (Unit))
 |0,_=>none
 |fuel+1,a=>(if(decide (a<3))=true then(gi [b,c,d] a).bind λi=>(gi [e,f,g] a).bind λj=>(if(decide (i<j))=true then some (.inl (-1))else(gi [b,c,d] a).bind λk=>(gi [e,f,g] a).bind λh=>(if(decide (k>h))=true then some (.inl 1)else(A7 b c d e f g fuel (IntKind.i64.wrap (a+1)))))else some (.inr ()))
def J8(b:K0)(f:K0):Option (Int):=match b with|(c,d,e)=>match f with|(g,h,i)=>(A7 c d e g h i W0 0).bind λa=>Q8 a (λ_=>some 0)
def Q7(b:V0)(d:Int)(e:Int):Nat->Int->Option ((Bool) ⊕ (Unit))
 |0,_=>none
 |fuel+1,a=>(if(decide (a<((b.length:Nat):Int)))=true then(gi b a).bind λg=>match g with|(h,i,j)=>(P02 (d,e,b) (h,i,j)).bind λc=>(chk ((decide (a>0))&&(!(!c))) (gi b (IntKind.i64.wrap (a-1))) (0,0,0)).bind λk=>match k with|(l,m,n)=>(chk ((decide (a>0))&&(!(!c))) (gi b a) (0,0,0)).bind λo=>match o with|(p,q,s)=>(chk ((decide (a>0))&&(!(!c))) (J8 (l,m,n) (p,q,s)) 0).bind λf=>(grd (J0 f)).bind λ_=>(if(bif(!c)then true else(bif(decide (a>0))then(decide (f ≥ 0))else false))=true then some (.inl false)else(Q7 b d e fuel (IntKind.i64.wrap (a+1))))else some (.inr ()))
def n5(f:l0):Option (Bool):=match f with|(a,b,c)=>(Q7 c a b W0 0).bind λe=>Q8 e (λ_=>(W4 a 1 3).bind λd=>(chk d (W4 b 1 40) false).bind λg=>some (bif(bif d then g else false)then(decide (((c.length:Nat):Int)<=120))else false))
def G4(a:l0)(c:Int):Option (Bool):=match a with|(e,b,f)=>(Y5 c 0 (IntKind.i64.wrap (b-1))).bind λd=>some d
def r9(f:l0)(g:K0):Option (Bool):=match f with|(a,c,d)=>match g with|(h,i,j)=>(G4 (a,c,d) h).bind λb=>(chk b (G4 (a,c,d) j) false).bind λe=>(chk (bif b then e else false) (Y5 i 1 a) false).bind λk=>some (bif(bif b then e else false)then k else false)
def Q9(d:K0)(h:K0):Option (Int):=match d with|(e,f,g)=>match h with|(i,j,k)=>(J7 e i).bind λa=>(grd (J0 a)).bind λ_=>(if(!decide (a=0))=true then some a else(J7 f j).bind λb=>(grd (J0 b)).bind λ_=>(if(!decide (b=0))=true then some b else(J7 g k).bind λc=>(grd (J0 c)).bind λ_=>some c))
def R7(b:V0)(d:Int)(e:Int):Nat->Int->Option ((Bool) ⊕ (Unit))
 |0,_=>none
 |fuel+1,a=>(if(decide (a<((b.length:Nat):Int)))=true then(gi b a).bind λn=>match n with|(g,h,i)=>(r9 (d,e,b) (g,h,i)).bind λc=>(chk ((decide (a>0))&&(!(!c))) (gi b (IntKind.i64.wrap (a-1))) (0,0,0)).bind λj=>match j with|(k,l,m)=>(chk ((decide (a>0))&&(!(!c))) (Q9 (k,l,m) (g,h,i)) 0).bind λf=>(grd (J0 f)).bind λ_=>(if(bif(!c)then true else(bif(decide (a>0))then(decide (f ≥ 0))else false))=true then some (.inl false)else(R7 b d e fuel (IntKind.i64.wrap (a+1))))else some (.inr ()))
def t6(f:l0):Option (Bool):=match f with|(a,b,c)=>(Y5 a 1 3).bind λd=>(chk (!(!d)) (Y5 b 1 40) false).bind λg=>(if(bif(bif(!d)then true else(!g))then true else(decide (((c.length:Nat):Int)>120)))=true then some false else(R7 c a b W0 0).bind λe=>Q8 e (λ_=>some true))
def J4(b:M0)(a:Int):Nat->Bool->Int->(List Int)->Option (Bool×(List Int))
 |0,_,_,_=>none
 |fuel+1,e,c,d=>(if(decide (c<((b.length:Nat):Int)))=true then(gi b c).bind λl=>(if(decide (l=a))=true then(gi b c).bind λj=>(if(bif(decide (j>a))then(!true)else false)=true then(grd ((d.length + [a].length)*8<=140737488355328)).bind λ_=>(gi b c).bind λf=>(grd (((d ++ [a]).length + [f].length)*8<=140737488355328)).bind λ_=>(J4 b a fuel true (IntKind.i64.wrap (c+1)) ((d ++ [a]) ++ [f]))else(gi b c).bind λg=>(grd ((d.length + [g].length)*8<=140737488355328)).bind λ_=>(J4 b a fuel true (IntKind.i64.wrap (c+1)) (d ++ [g])))else(gi b c).bind λk=>(if(bif(decide (k>a))then(!e)else false)=true then(grd ((d.length + [a].length)*8<=140737488355328)).bind λ_=>(gi b c).bind λh=>(grd (((d ++ [a]).length + [h].length)*8<=140737488355328)).bind λ_=>(J4 b a fuel true (IntKind.i64.wrap (c+1)) ((d ++ [a]) ++ [h]))else(gi b c).bind λi=>(grd ((d.length + [i].length)*8<=140737488355328)).bind λ_=>(J4 b a fuel e (IntKind.i64.wrap (c+1)) (d ++ [i]))))else some (e,d))
def Z8(c:M0)(a:Int):Option (M0):=(J4 c a W0 false 0 ([]:M0)).bind (λb=>match b with|(y35,y36)=>(if(!y35)=true then(grd ((y36.length + [a].length)*8<=140737488355328)).bind λ_=>some (y36 ++ [a])else some y36))
def t9(a:M0)(c:Int):Nat->Int->Option ((Bool) ⊕ (Unit))
 |0,_=>none
 |fuel+1,b=>(if(decide (b<((a.length:Nat):Int)))=true then(gi a b).bind λd=>(if(decide (d=c))=true then some (.inl true)else(t9 a c fuel (IntKind.i64.wrap (b+1))))else some (.inr ()))
def U9(b:M0)(c:Int):Option (Bool):=(t9 b c W0 0).bind λa=>Q8 a (λ_=>some false)
def D4(c:V0)(a:Int)(b:Int):Nat->M0->Int->Option (M0)
 |0,_,_=>none
 |fuel+1,e,d=>(if(decide (d<((c.length:Nat):Int)))=true then(gi c d).bind λj=>match j with|(f,g,h)=>(if(bif(bif(decide (a>0))then(decide (g=a))else false)then(decide (f=b))else false)=true then(Z8 e h).bind λi=>(if(bif(bif(decide (a<0))then(decide (g=(IntKind.i64.wrap (0-a))))else false)then(decide (h=b))else false)=true then(Z8 i f).bind λk=>(D4 c a b fuel k (IntKind.i64.wrap (d+1)))else(D4 c a b fuel i (IntKind.i64.wrap (d+1))))else(if(bif(bif(decide (a<0))then(decide (g=(IntKind.i64.wrap (0-a))))else false)then(decide (h=b))else false)=true then(Z8 e f).bind λl=>(D4 c a b fuel l (IntKind.i64.wrap (d+1)))else(D4 c a b fuel e (IntKind.i64.wrap (d+1)))))else some (e))
def T00(a:l0)(c:Int)(d:Int):Option (M0):=match a with|(f,g,b)=>(D4 b d c W0 ([]:M0) 0).bind (λe=>some e)
def F9(b:l0)(f:Int)(g:Int):Option (Int):=match b with|(c,d,e)=>(T00 (c,d,e) f g).bind λa=>(if(decide (((a.length:Nat):Int)=0))=true then some (-1)else(gi a 0).bind λh=>some h)
def i7(b:Int)(a:V0):Nat->Int->Option ((Bool) ⊕ (Unit))
 |0,_=>none
 |fuel+1,u8=>(if(decide (u8<b))=true then(gi a b).bind λc=>match c with|(d,e,f)=>(gi a u8).bind λg=>match g with|(h,i,j)=>(if(bif(decide (e=i))then(bif(decide (d=h))then true else(decide (f=j)))else false)=true then some (.inl false)else(i7 b a fuel (IntKind.i64.wrap (u8+1))))else some (.inr ()))
def C5(a:V0)(c:Int)(d:Int):Nat->Int->Option ((Bool) ⊕ (Unit))
 |0,_=>none
 |fuel+1,b=>(chk (decide (b<((a.length:Nat):Int))) (n5 (c,d,a)) false).bind λf=>(if(bif(decide (b<((a.length:Nat):Int)))then f else false)=true then(i7 b a W0 0).bind λe=>j0p e (λ_=>(C5 a c d fuel (IntKind.i64.wrap (b+1))))else some (.inr ()))
def K9(e:l0):Option (Bool):=match e with|(a,b,c)=>(C5 c a b W0 0).bind λd=>Q8 d (λ_=>(n5 (a,b,c)).bind λf=>some f)
def j7(a:M0)(d:Int)(e:Int)(f:V0):Nat->Int->Int->Option ((Int×Bool) ⊕ (Int))
 |0,_,_=>none
 |fuel+1,g,b=>(if(decide (b<((a.length:Nat):Int)))=true then(gi a b).bind λh=>(F9 (d,e,f) g h).bind λc=>(grd (J0 c)).bind λ_=>(if(decide (c<0))=true then some (.inl ((-1),false))else(j7 a d e f fuel c (IntKind.i64.wrap (b+1))))else some (.inr (g)))
def E01(g:l0)(d:Int)(h:M0):Option (Int×Bool):=match g with|(b,a,c)=>(K9 (b,a,c)).bind λe=>(chk (!(!e)) (W4 d 0 (IntKind.i64.wrap (a-1))) false).bind λi=>(if(bif(!e)then true else(!i))=true then some ((-1),false)else(j7 h b a c W0 d 0).bind λf=>Q8 f (λj=>some (j,true)))
def T4(c:V0)(a:Int)(d:Int):Nat->Int->(List Int)->Option ((List Int))
 |0,_,_=>none
 |fuel+1,e,b=>(if(decide (e<((c.length:Nat):Int)))=true then(gi c e).bind λi=>match i with|(f,h,g)=>(if(bif(bif(decide (a>0))then(decide (h=a))else false)then(decide (f=d))else false)=true then(grd ((b.length + [g].length)*8<=140737488355328)).bind λ_=>(T4 c a d fuel (IntKind.i64.wrap (e+1)) (b ++ [g]))else(if(bif(bif(bif(decide (a<0))then(!decide (a=(-9223372036854775808)))else false)then(decide (h=(IntKind.i64.wrap (0-a))))else false)then(decide (g=d))else false)=true then(grd ((b.length + [f].length)*8<=140737488355328)).bind λ_=>(T4 c a d fuel (IntKind.i64.wrap (e+1)) (b ++ [f]))else(T4 c a d fuel (IntKind.i64.wrap (e+1)) b)))else some (b))
def U00(b:l0)(d:Int)(e:Int):Option (M0):=match b with|(f,g,c)=>(T4 c e d W0 0 ([]:M0)).bind (λa=>(grd (a.length<4611686018427387904)).bind λ_=>some (X03 eqI (X06 D9 a)))
def A4(b:l0)(f:Int)(g:Int):Option (Int):=match b with|(c,d,e)=>(U00 (c,d,e) f g).bind λa=>(if(decide (((a.length:Nat):Int)=0))=true then some (-1)else(gi a 0).bind λh=>some h)
def l7(b:V0)(d:Int)(c:Int)(e:Int):Nat->Int->Option ((Bool) ⊕ (Unit))
 |0,_=>none
 |fuel+1,a=>(if(decide (a<((b.length:Nat):Int)))=true then(gi b a).bind λf=>match f with|(g,h,i)=>(if(bif(decide (d=h))then(bif(decide (c=g))then true else(decide (e=i)))else false)=true then some (.inl false)else(l7 b d c e fuel (IntKind.i64.wrap (a+1))))else some (.inr ()))
def n7(a:V0):Nat->Int->Option ((Bool) ⊕ (Unit))
 |0,_=>none
 |fuel+1,b=>(if(decide (b<((a.length:Nat):Int)))=true then(gi a b).bind λd=>match d with|(e,f,g)=>(V06 a (IntKind.i64.wrap (b+1)) (a.length:Int)).bind λh=>(l7 h f e g W0 0).bind λc=>j0p c (λ_=>(n7 a fuel (IntKind.i64.wrap (b+1))))else some (.inr ()))
def W5(c:l0):Option (Bool):=match c with|(d,e,a)=>(t6 (d,e,a)).bind λf=>(if(!f)=true then some false else(n7 a W0 0).bind λb=>Q8 b (λ_=>some true))
def Z5(b:M0)(e:Int)(f:Int)(g:V0):Nat->Int->Int->Option ((Int×Int) ⊕ (Int))
 |0,_,_=>none
 |fuel+1,c,a=>(if(decide (a<((b.length:Nat):Int)))=true then(gi b a).bind λh=>(A4 (e,f,g) c h).bind λd=>(grd (J0 d)).bind λ_=>(if(decide (d<0))=true then some (.inl (c,a))else(Z5 b e f g fuel d (IntKind.i64.wrap (a+1))))else some (.inr (c)))
def G9(c:l0)(g:Int)(a:M0):Option (Int×Int):=match c with|(d,e,f)=>(Z5 a d e f W0 g 0).bind λb=>Q8 b (λh=>some (h,((a.length:Nat):Int)))
def I6(b:l0):Option (l0):=match b with|(c,d,a)=>(grd ((([]:V0).length+a.length)*24<=140737488355328)).bind λ_=>some (c,d,(([]:V0)++a))
def K4(e:V0)(a:Int)(b:Int)(c:Int):Nat->Bool->Int->(List K0)->Option (Bool×(List K0))
 |0,_,_,_=>none
 |fuel+1,h,f,d=>(if(decide (f<((e.length:Nat):Int)))=true then(gi e f).bind λz=>match z with|(A,B,C)=>(J8 (a,b,c) (A,B,C)).bind λg=>(grd (J0 g)).bind λ_=>(if(decide (g=0))=true then(if(bif(decide (g<0))then(!true)else false)=true then(grd ((d.length+([(a,b,c)]).length)*24<=140737488355328)).bind λ_=>(gi e f).bind λv=>match v with|(i,j,k)=>(grd (((d ++ [(a,b,c)]).length+([(i,j,k)]).length)*24<=140737488355328)).bind λ_=>(K4 e a b c fuel true (IntKind.i64.wrap (f+1)) ((d ++ [(a,b,c)]) ++ [(i,j,k)]))else(gi e f).bind λw=>match w with|(l,m,n)=>(grd ((d.length+([(l,m,n)]).length)*24<=140737488355328)).bind λ_=>(K4 e a b c fuel true (IntKind.i64.wrap (f+1)) (d ++ [(l,m,n)])))else(if(bif(decide (g<0))then(!h)else false)=true then(grd ((d.length+([(a,b,c)]).length)*24<=140737488355328)).bind λ_=>(gi e f).bind λx=>match x with|(o,p,q)=>(grd (((d ++ [(a,b,c)]).length+([(o,p,q)]).length)*24<=140737488355328)).bind λ_=>(K4 e a b c fuel true (IntKind.i64.wrap (f+1)) ((d ++ [(a,b,c)]) ++ [(o,p,q)]))else(gi e f).bind λy=>match y with|(s,t,u)=>(grd ((d.length+([(s,t,u)]).length)*24<=140737488355328)).bind λ_=>(K4 e a b c fuel h (IntKind.i64.wrap (f+1)) (d ++ [(s,t,u)]))))else some (h,d))
def b9(e:V0)(f:K0):Option (V0):=match f with|(a,b,c)=>(K4 e a b c W0 false 0 ([]:V0)).bind (λd=>match d with|(y35,y36)=>(if(!y35)=true then(grd ((y36.length+([(a,b,c)]).length)*24<=140737488355328)).bind λ_=>some (y36 ++ [(a,b,c)])else some y36))
def U3(a:V0)(c:Int):Nat->Int->Int->Option (Int)
 |0,_,_=>none
 |fuel+1,d,b=>(if(decide (b<((a.length:Nat):Int)))=true then(gi a b).bind λg=>match g with|(h,m,n)=>(if(decide (h=c))=true then(gi a b).bind λi=>match i with|(o,p,j)=>(if(decide (j=c))=true then(U3 a c fuel (IntKind.i64.wrap ((IntKind.i64.wrap (d+1))+1)) (IntKind.i64.wrap (b+1)))else(U3 a c fuel (IntKind.i64.wrap (d+1)) (IntKind.i64.wrap (b+1))))else(gi a b).bind λe=>match e with|(k,l,f)=>(if(decide (f=c))=true then(U3 a c fuel (IntKind.i64.wrap (d+1)) (IntKind.i64.wrap (b+1)))else(U3 a c fuel d (IntKind.i64.wrap (b+1)))))else some (d))
def x00(a:l0)(c:Int):Option (Int):=match a with|(e,f,b)=>(U3 b c W0 0 0).bind (λd=>some d)
def w6(b:V0)(c:V0):Nat->Int->Option ((Bool) ⊕ (Unit))
 |0,_=>none
 |fuel+1,a=>(if(decide (a<((b.length:Nat):Int)))=true then(gi b a).bind λd=>match d with|(e,f,g)=>(gi c a).bind λh=>match h with|(i,j,k)=>(if(!eqE (e,f,g) (i,j,k))=true then some (.inl false)else(w6 b c fuel (IntKind.i64.wrap (a+1))))else some (.inr ()))
def K7(d:l0)(g:l0):Option (Bool):=match d with|(e,f,a)=>match g with|(h,i,b)=>(if(bif(bif(!decide (e=h))then true else(!decide (f=i)))then true else(!decide (((a.length:Nat):Int)=((b.length:Nat):Int))))=true then some false else(w6 a b W0 0).bind λc=>Q8 c (λ_=>some true))
def S3(a:V0):Nat->M0->Int->Option (M0)
 |0,_,_=>none
 |fuel+1,b,c=>(if(decide (c<((a.length:Nat):Int)))=true then(gi a c).bind λg=>match g with|(d,m,e)=>(U9 b d).bind λh=>(if h=true then(Z8 b e).bind λf=>(U9 f e).bind λi=>(if i=true then(Z8 f d).bind λj=>(S3 a fuel j (IntKind.i64.wrap (c+1)))else(S3 a fuel f (IntKind.i64.wrap (c+1))))else(U9 b e).bind λk=>(if k=true then(Z8 b d).bind λl=>(S3 a fuel l (IntKind.i64.wrap (c+1)))else(S3 a fuel b (IntKind.i64.wrap (c+1)))))else some (b))
def G5(a:V0):Nat->M0->Int->Option (M0)
 |0,_,_=>none
 |fuel+1,b,c=>(if(decide (c<(IntKind.i64.wrap (((a.length:Nat):Int)+1))))=true then(S3 a W0 b 0).bind (λd=>(G5 a fuel d (IntKind.i64.wrap (c+1))))else some (b))
def m00(e:l0)(c:Int):Option (M0):=match e with|(f,a,b)=>(n5 (f,a,b)).bind λd=>(chk (!(!d)) (W4 c 0 (IntKind.i64.wrap (a-1))) false).bind λg=>(if(bif(!d)then true else(!g))=true then some ([]:M0)else(G5 b W0 [c] 0).bind (λh=>some h))
def O8(b:Int)(d:Int)(e:V0)(f:M0):Nat->Int->Option ((Int) ⊕ (Unit))
 |0,_=>none
 |fuel+1,a=>(if(decide (a<b))=true then(x00 (d,b,e) a).bind λc=>(grd (J0 c)).bind λ_=>(chk (!(decide (c<2))) (U9 f a) false).bind λg=>(if(bif(decide (c<2))then true else(!g))=true then some (.inl a)else(O8 b d e f fuel (IntKind.i64.wrap (a+1))))else some (.inr ()))
def U01(e:l0):Option (Int):=match e with|(a,b,c)=>(m00 (a,b,c) 0).bind λf=>(O8 b a c f W0 1).bind λd=>Q8 d (λ_=>some (-1))
def d4(b:V0)(a:(List Int)):Nat->Int->Int->Int->V0->Option (Int×Int×V0)
 |0,_,_,_,_=>none
 |fuel+1,c,d,e,f=>(if(decide (c<((b.length:Nat):Int)))=true then(gi b c).bind λj=>match j with|(g,k,h)=>(gi a g).bind λi=>(chk (decide (i>0)) (gi a h) 0).bind λl=>(if(bif(decide (i>0))then(decide (l>0))else false)=true then(gi a g).bind λm=>(gi a h).bind λn=>(b9 f ((IntKind.i64.wrap (m-1)),k,(IntKind.i64.wrap (n-1)))).bind λo=>(d4 b a fuel (IntKind.i64.wrap (c+1)) d e o)else(d4 b a fuel (IntKind.i64.wrap (c+1)) d e f))else some (d,e,f))
def L4(a:M0)(c:Int)(e:Int)(f:V0):Nat->Int->(List Int)->Option ((l0×Bool) ⊕ ((List Int)))
 |0,_,_=>none
 |fuel+1,u8,b=>(if(decide (u8<((a.length:Nat):Int)))=true then(gi a u8).bind λh=>(W4 h 0 (IntKind.i64.wrap (c-1))).bind λd=>(chk (!(!d)) (gi a u8) 0).bind λi=>(chk (!(!d)) (gi b i) 0).bind λj=>(if(bif(!d)then true else(!decide (j=0)))=true then(I6 (e,c,f)).bind λk=>match k with|(l,m,n)=>some (.inl ((l,m,n),false))else(gi a u8).bind λg=>(gi b g).bind λo=>(L4 a c e f fuel (IntKind.i64.wrap (u8+1)) (b.set g.toNat (IntKind.i64.wrap (u8+1)))))else some (.inr (b)))
def S7(g:l0)(d:M0):Option (l0×Bool):=match g with|(b,a,c)=>(n5 (b,a,c)).bind λh=>(if(bif(bif(!h)then true else(decide (((d.length:Nat):Int)=0)))then true else(decide (((d.length:Nat):Int)>a)))=true then(I6 (b,a,c)).bind λi=>match i with|(j,k,l)=>some ((j,k,l),false)else(grd ((0:Int)<=a/\a<=a/\a*8<=140737488355328/\a<=9223372036854775807)).bind λ_=>(L4 d a b c W0 0 (List.replicate a.toNat (0:Int))).bind λf=>Q8 f (λm=>(d4 c m W0 0 b ((d.length:Nat):Int) ([]:V0)).bind (λe=>match e with|(y86,y87,y88)=>some ((y86,y87,y88),true))))
def A6(c:Int):Nat->Int->(List Int)->Option ((List Int))
 |0,_,_=>none
 |fuel+1,a,b=>(if(decide (a<=c))=true then(grd ((b.length + [a].length)*8<=140737488355328)).bind λ_=>(grd (((b ++ [a]).length+([(IntKind.i64.wrap (0-a))]).length)*8<=140737488355328)).bind λ_=>(A6 c fuel (IntKind.i64.wrap (a+1)) ((b ++ [a]) ++ [(IntKind.i64.wrap (0-a))]))else some (b))
def V00(a:Int):Option (M0):=(A6 a W0 1 ([]:M0)).bind (λb=>some b)
def V3(d:M0)(h:Int)(e:Int)(f:Int)(g:V0):Nat->Int->(List Int)->Option ((List Int))
 |0,_,_=>none
 |fuel+1,c,a=>(if(decide (c<((d.length:Nat):Int)))=true then(gi a h).bind λi=>(gi d c).bind λj=>(F9 (e,f,g) i j).bind λb=>(grd (J0 b)).bind λ_=>(chk (decide (b ≥ 0)) (U9 a b) false).bind λk=>(if(bif(decide (b ≥ 0))then(!k)else false)=true then(grd ((a.length + [b].length)*8<=140737488355328)).bind λ_=>(V3 d h e f g fuel (IntKind.i64.wrap (c+1)) (a ++ [b]))else(V3 d h e f g fuel (IntKind.i64.wrap (c+1)) a))else some (a))
def o5(g:M0)(d:Int)(e:Int)(f:V0):Nat->Int->(List Int)->Option ((List Int))
 |0,_,_=>none
 |fuel+1,a,b=>(some b.length).bind λc=>(grd (c<=9223372036854775807)).bind λ_=>(if(decide (a<((c:Nat):Int)))=true then(V3 g a d e f W0 0 b).bind (λh=>(o5 g d e f fuel (IntKind.i64.wrap (a+1)) h))else some (b))
def R8(d:l0):Option (M0):=match d with|(a,b,c)=>(K9 (a,b,c)).bind λe=>(if(!e)=true then some ([]:M0)else(V00 a).bind λf=>(o5 f a b c W0 0 [0]).bind (λg=>some g))
def B7(e:l0):Option (l0):=match e with|(a,b,c)=>(R8 (a,b,c)).bind λd=>(if(decide (((d.length:Nat):Int)=0))=true then(I6 (a,b,c)).bind λf=>match f with|(g,h,i)=>some (g,h,i)else(S7 (a,b,c) d).bind λj=>match j with|(k,o)=>match k with|(l,m,n)=>some (l,m,n))
def V01(f:l0):Option (Bool):=match f with|(a,b,c)=>(K9 (a,b,c)).bind λd=>(chk d (U01 (a,b,c)) 0).bind λe=>(grd (J0 e)).bind λl=>(chk (bif d then(decide (e<0))else false) (B7 (a,b,c)) (0,0,[])).bind λg=>match g with|(h,i,j)=>(chk (bif d then(decide (e<0))else false) (K7 (h,i,j) (a,b,c)) false).bind λk=>some (bif(bif d then(decide (e<0))else false)then k else false)
def A00(a:l0):Option (Bool):=match a with|(b,c,d)=>(V01 (b,c,d)).bind λe=>some e
def N3(b:l0):Option (l0):=match b with|(c,d,a)=>(grd ((([]:V0).length+a.length)*24<=140737488355328)).bind λ_=>some (c,d,(([]:V0)++a))
def D5(b:V0)(a:Int):Nat->Int->Int->Option (Int)
 |0,_,_=>none
 |fuel+1,d,c=>(if(decide (c<((b.length:Nat):Int)))=true then(gi b c).bind λf=>match f with|(g,h,e)=>(if(decide (g=a))=true then(if(decide (e=a))=true then(D5 b a fuel (IntKind.i64.wrap ((IntKind.i64.wrap (d+1))+1)) (IntKind.i64.wrap (c+1)))else(D5 b a fuel (IntKind.i64.wrap (d+1)) (IntKind.i64.wrap (c+1))))else(if(decide (e=a))=true then(D5 b a fuel (IntKind.i64.wrap (d+1)) (IntKind.i64.wrap (c+1)))else(D5 b a fuel d (IntKind.i64.wrap (c+1)))))else some (d))
def F01(a:l0)(c:Int):Option (Int):=match a with|(e,f,b)=>(D5 b c W0 0 0).bind (λd=>some d)
def K1(b:V0)(c:V0):Nat->Int->Option ((Bool) ⊕ (Unit))
 |0,_=>none
 |fuel+1,a=>(if(decide (a<((b.length:Nat):Int)))=true then(gi b a).bind λd=>match d with|(e,f,g)=>(gi c a).bind λh=>match h with|(i,j,k)=>(if(!eqE (e,f,g) (i,j,k))=true then some (.inl false)else(K1 b c fuel (IntKind.i64.wrap (a+1))))else some (.inr ()))
def C3(a:V0)(b:V0):Option (Bool):=(if(!decide (((a.length:Nat):Int)=((b.length:Nat):Int)))=true then some false else(K1 a b W0 0).bind λc=>Q8 c (λ_=>some true))
def B6(e:l0)(g:l0):Option (Bool):=match e with|(a,b,f)=>match g with|(c,d,h)=>(chk (bif(decide (a=c))then(decide (b=d))else false) (C3 f h) false).bind λi=>some (bif(bif(decide (a=c))then(decide (b=d))else false)then i else false)
def F4(b:V0):Nat->Bool->Int->(List Bool)->Option (Bool×(List Bool))
 |0,_,_,_=>none
 |fuel+1,f,c,a=>(if(decide (c<((b.length:Nat):Int)))=true then(gi b c).bind λg=>match g with|(d,j,e)=>(gi a d).bind λh=>(gi a e).bind λi=>(if(!(h == i))=true then(gi a d).bind λk=>(gi (a.set d.toNat true) e).bind λl=>(F4 b fuel true (IntKind.i64.wrap (c+1)) ((a.set d.toNat true).set e.toNat true))else(F4 b fuel f (IntKind.i64.wrap (c+1)) a))else some (f,a))
def Y4(a:V0):Nat->Bool->(List Bool)->Option ((List Bool))
 |0,_,_=>none
 |fuel+1,d,b=>(if d=true then(F4 a W0 false 0 b).bind (λc=>match c with|(y23,y24)=>(Y4 a fuel y23 y24))else some (b))
def R9(c:l0)(b:Int):Option ((List Bool)):=match c with|(f,a,d)=>(grd ((0:Int)<=a/\a<=a/\a*1<=140737488355328/\a<=9223372036854775807)).bind λ_=>(gi (List.replicate a.toNat (false:Bool)) b).bind λg=>(Y4 d W0 true ((List.replicate a.toNat (false:Bool)).set b.toNat true)).bind (λe=>some e)
def T7(c:Int):Nat->Int->(List Int)->Option ((List Int))
 |0,_,_=>none
 |fuel+1,a,b=>(if(decide (a<=c))=true then(grd ((b.length+([a,(IntKind.i64.wrap (0-a))]).length)*8<=140737488355328)).bind λ_=>(T7 c fuel (IntKind.i64.wrap (a+1)) (b ++ [a,(IntKind.i64.wrap (0-a))]))else some (b))
def w9(a:Int):Option (M0):=(T7 a W0 1 ([]:M0)).bind (λb=>some b)
def c9(a:V0):Option (V0):=(grd ((([]:V0).length+a.length)*24<=140737488355328)).bind λ_=>(grd ((([]:V0)++a).length<4611686018427387904)).bind λ_=>some (X03 eqE (X06 T0 (([]:V0)++a)))
def d9(b:V0)(a:(List Int)):Nat->Int->Int->Int->(List K0)->Option (Int×Int×(List K0))
 |0,_,_,_,_=>none
 |fuel+1,c,e,f,d=>(if(decide (c<((b.length:Nat):Int)))=true then(gi b c).bind λm=>match m with|(g,h,i)=>(gi a g).bind λj=>(chk (decide (j ≥ 0)) (gi a i) 0).bind λn=>(if(bif(decide (j ≥ 0))then(decide (n ≥ 0))else false)=true then(gi a g).bind λk=>(gi a i).bind λl=>(grd ((d.length+([(k,h,l)]).length)*24<=140737488355328)).bind λ_=>(d9 b a fuel (IntKind.i64.wrap (c+1)) e f (d ++ [(k,h,l)]))else(d9 b a fuel (IntKind.i64.wrap (c+1)) e f d))else some (e,f,d))
def Z9(b:M0):Nat->Int->(List Int)->Option ((List Int))
 |0,_,_=>none
 |fuel+1,a,c=>(if(decide (a<((b.length:Nat):Int)))=true then(gi b a).bind λd=>(gi c d).bind λe=>(Z9 b fuel (IntKind.i64.wrap (a+1)) (c.set d.toNat a))else some (c))
def a00(c:Nat):Nat->Int->(List Int)->Option ((List Int))
 |0,_,_=>none
 |fuel+1,a,b=>(if(decide (a<((c:Nat):Int)))=true then(gi b a).bind λd=>(a00 c fuel (IntKind.i64.wrap (a+1)) (b.set a.toNat (-1)))else some (b))
def e02(e:l0)(c:M0):Option (l0):=match e with|(f,a,g)=>(grd ((0:Int)<=a/\a<=a/\a*8<=140737488355328/\a<=9223372036854775807)).bind λ_=>(some (List.replicate a.toNat (0:Int)).length).bind λb=>(grd (b<=9223372036854775807)).bind λ_=>(a00 b W0 0 (List.replicate a.toNat (0:Int))).bind (λi=>(Z9 c W0 0 i).bind (λj=>(d9 g j W0 0 f ((c.length:Nat):Int) ([]:V0)).bind (λd=>match d with|(y203,y204,y205)=>(c9 y205).bind λh=>some (y203,y204,h))))
def I7(a:M0):Option (M0):=(grd ((([]:M0).length+a.length)*8<=140737488355328)).bind λ_=>some (([]:M0)++a)
def R3(f:M0)(g:Int)(h:Int)(i:V0)(e:Int):Nat->Int->(List (Option M0))->(List Int)->Option ((List (Option M0))×(List Int))
 |0,_,_,_=>none
 |fuel+1,c,b,d=>(if(decide (c<((f.length:Nat):Int)))=true then(gi f c).bind λj=>(A4 (g,h,i) e j).bind λa=>(grd (J0 a)).bind λ_=>(chk (decide (a ≥ 0)) (gi b a) (none:Option M0)).bind λl=>(if(bif(decide (a ≥ 0))then l.isNone else false)=true then(gi b e).bind λm=>(I7 (m.getD [])).bind λk=>(grd ((k.length + [j].length)*8<=140737488355328)).bind λ_=>(gi b a).bind λn=>(grd ((d.length + [a].length)*8<=140737488355328)).bind λ_=>(R3 f g h i e fuel (IntKind.i64.wrap (c+1)) (b.set a.toNat (some (k ++ [j]))) (d ++ [a]))else(R3 f g h i e fuel (IntKind.i64.wrap (c+1)) b d))else some (b,d))
def d5(b:Int)(d:Int)(e:V0):Nat->Int->(List (Option M0))->(List Int)->Option ((List (Option M0))×(List Int))
 |0,_,_,_=>none
 |fuel+1,u8,f,a=>(some a.length).bind λc=>(grd (c<=9223372036854775807)).bind λ_=>(if(decide (u8<((c:Nat):Int)))=true then(gi a u8).bind λh=>(w9 b).bind λi=>(R3 i b d e h W0 0 f a).bind (λg=>match g with|(y41,y42)=>(d5 b d e fuel (IntKind.i64.wrap (u8+1)) y41 y42))else some (f,a))
def o7(d:l0)(b:Int):Option (M0×E2):=match d with|(e,a,f)=>(grd ((0:Int)<=a/\a<=a/\a*24<=140737488355328/\a<=9223372036854775807)).bind λ_=>(gi (List.replicate a.toNat (none:Option M0)) b).bind λg=>(d5 e a f W0 0 ((List.replicate a.toNat (none:Option M0)).set b.toNat (some ([]:M0))) [b]).bind (λc=>match c with|(y54,y55)=>some (y55,(List.map (λo:Option M0=>o.getD ([]:M0)) y54)))
def S8(d:l0):Option (M0):=match d with|(a,b,c)=>(W5 (a,b,c)).bind λe=>(if(!e)=true then some ([]:M0)else(o7 (a,b,c) 0).bind λf=>match f with|(g,h)=>some g)
def C7(d:l0):Option (l0):=match d with|(a,b,c)=>(W5 (a,b,c)).bind λe=>(if(!e)=true then(N3 (a,b,c)).bind λj=>match j with|(k,l,m)=>some (k,l,m)else(S8 (a,b,c)).bind λn=>(e02 (a,b,c) n).bind λf=>match f with|(g,h,i)=>some (g,h,i))
def L5(c:Int)(d:Int):Nat->Int->(List Int)->Option ((List Int))
 |0,_,_=>none
 |fuel+1,a,b=>(if(decide (a<c))=true then(if(!decide (a=d))=true then(grd ((b.length + [a].length)*8<=140737488355328)).bind λ_=>(L5 c d fuel (IntKind.i64.wrap (a+1)) (b ++ [a]))else(L5 c d fuel (IntKind.i64.wrap (a+1)) b))else some (b))
def E4(b:Int)(c:Int)(d:V0)(f:(List Bool)):Nat->Int->Int->Option (Int)
 |0,_,_=>none
 |fuel+1,e,a=>(if(bif(decide (a<b))then(decide (e=0))else false)=true then(F01 (c,b,d) a).bind λg=>(grd (J0 g)).bind λ_=>(chk (!(decide (g<2))) (gi f a) false).bind λh=>(if(bif(decide (g<2))then true else(!h))=true then(E4 b c d f fuel a (IntKind.i64.wrap (a+1)))else(E4 b c d f fuel e (IntKind.i64.wrap (a+1))))else some (e))
def M5:Nat->M0->Int->Int->V0->Option ((l0×M0) ⊕ (Int×Int×V0))
 |0,_,_,_,_=>none
 |fuel+1,b,c,a,d=>(R9 (c,a,d) 0).bind λl=>(E4 a c d l W0 0 1).bind (λe=>(if(decide (e=0))=true then some (.inl ((c,a,d),b))else(L5 a e W0 0 ([]:M0)).bind (λm=>(e02 (c,a,d) m).bind λh=>match h with|(i,j,k)=>(V06 b 0 e).bind λf=>(V06 b (IntKind.i64.wrap (e+1)) (b.length:Int)).bind λg=>(grd ((f.length+g.length)*8<=140737488355328)).bind λ_=>(M5 fuel (f++g) i j k))))
def C6(c:Int):Nat->Int->(List Int)->Option ((List Int))
 |0,_,_=>none
 |fuel+1,a,b=>(if(decide (a<c))=true then(grd ((b.length + [a].length)*8<=140737488355328)).bind λ_=>(C6 c fuel (IntKind.i64.wrap (a+1)) (b ++ [a]))else some (b))
def U7(h:l0):Option (l0×M0):=match h with|(b,a,c)=>(N3 (b,a,c)).bind λi=>match i with|(d,e,f)=>(t6 (b,a,c)).bind λj=>(if(!j)=true then some ((d,e,f),([]:M0))else(C6 a W0 0 ([]:M0)).bind (λk=>(M5 W0 k d e f).bind λg=>Q8 g (λ_=>none)))
def U4(e:l0):Option (Bool):=match e with|(b,a,c)=>(W5 (b,a,c)).bind λf=>(if(!f)=true then some false else(U7 (b,a,c)).bind λh=>match h with|(i,p)=>match i with|(n,d,o)=>(chk (decide (d=a)) (C7 (b,a,c)) (0,0,[])).bind λj=>match j with|(k,l,m)=>(chk (decide (d=a)) (B6 (k,l,m) (b,a,c)) false).bind λg=>some (bif(decide (d=a))then g else false))
def H01(a:Int):Option (l0×Bool):=(W4 a 1 3).bind λb=>(if(!b)=true then some ((0,0,[]),false)else some ((a,1,[]),true))
def p5(a:M0)(d:Int):Nat->Int->Int->Int->Int->V0->Option (Int×Int×V0)
 |0,_,_,_,_,_=>none
 |fuel+1,g,b,e,c,f=>(if(decide (b<((a.length:Nat):Int)))=true then(if(decide ((IntKind.i64.wrap (b+1))<((a.length:Nat):Int)))=true then(gi a b).bind λh=>(if(decide (h>0))=true then(gi a b).bind λi=>(b9 f (g,i,c)).bind λj=>(p5 a d fuel c (IntKind.i64.wrap (b+1)) e (IntKind.i64.wrap (c+1)) j)else(gi a b).bind λk=>(b9 f (c,(IntKind.i64.wrap (0-k)),g)).bind λl=>(p5 a d fuel c (IntKind.i64.wrap (b+1)) e (IntKind.i64.wrap (c+1)) l))else(gi a b).bind λm=>(if(decide (m>0))=true then(gi a b).bind λn=>(b9 f (g,n,d)).bind λo=>(p5 a d fuel d (IntKind.i64.wrap (b+1)) e c o)else(gi a b).bind λp=>(b9 f (d,(IntKind.i64.wrap (0-p)),g)).bind λq=>(p5 a d fuel d (IntKind.i64.wrap (b+1)) e c q)))else some (e,c,f))
def j02(n:l0)(g:Int)(b:M0)(h:Int):Option (l0×Bool):=match n with|(d,a,e)=>(I6 (d,a,e)).bind λo=>match o with|(i,j,k)=>(n5 (d,a,e)).bind λc=>(chk (!(!c)) (W4 g 0 (IntKind.i64.wrap (a-1))) false).bind λf=>(chk (!(bif(!c)then true else(!f))) (W4 h 0 (IntKind.i64.wrap (a-1))) false).bind λl=>(chk (!(bif(bif(!c)then true else(!f))then true else(!l))) (T01 d b) false).bind λp=>(if(bif(bif(bif(bif(bif(bif(!c)then true else(!f))then true else(!l))then true else(!p))then true else(decide (((b.length:Nat):Int)=0)))then true else(decide ((IntKind.i64.wrap ((IntKind.i64.wrap (a+((b.length:Nat):Int)))-1))>40)))then true else(decide ((IntKind.i64.wrap (((e.length:Nat):Int)+((b.length:Nat):Int)))>120)))=true then some ((i,j,k),false)else(p5 b h W0 g 0 i j k).bind (λm=>match m with|(y68,y69,y70)=>some ((y68,y69,y70),true)))
def I01(a:l0)(e:M0):Option (l0×Bool):=match a with|(b,c,d)=>(j02 (b,c,d) 0 e 0).bind λf=>match f with|(g,k)=>match g with|(h,i,j)=>some ((h,i,j),k)
def p7(a:E2):Nat->Int->Int->Int->V0->Option (Int×Int×V0)
 |0,_,_,_,_=>none
 |fuel+1,b,u8,d,c=>(if(decide (b<((a.length:Nat):Int)))=true then(gi a b).bind λe=>(I01 (u8,d,c) e).bind λf=>match f with|(g,k)=>match g with|(h,i,j)=>(p7 a fuel (IntKind.i64.wrap (b+1)) h i j)else some (u8,d,c))
def M9(a:Int)(b:E2):Option (l0×Bool):=(C01 a b).bind λd=>(if(!d)=true then some ((0,0,[]),false)else(H01 a).bind λe=>match e with|(f,j)=>match f with|(g,h,i)=>(p7 b W0 0 g h i).bind (λc=>match c with|(y35,y36,y37)=>some ((y35,y36,y37),true)))
def H4(f:V0)(g:Int):Nat->Int->(List S4)->Option ((List S4))
 |0,_,_=>none
 |fuel+1,u8,e=>(if(decide (u8<((f.length:Nat):Int)))=true then(gi f g).bind λj=>match j with|(c,h,a)=>(gi f u8).bind λk=>match k with|(d,i,b)=>(if(bif(decide (h=i))then(decide (c=d))else false)=true then(grd ((e.length+([((if b<a then b else a),(if b>a then b else a))]).length)*16<=140737488355328)).bind λ_=>(if(bif(decide (h=i))then(decide (a=b))else false)=true then(grd (((e ++ [((if b<a then b else a),(if b>a then b else a))]).length+([((if d<c then d else c),(if d>c then d else c))]).length)*16<=140737488355328)).bind λ_=>(H4 f g fuel (IntKind.i64.wrap (u8+1)) ((e ++ [((if b<a then b else a),(if b>a then b else a))]) ++ [((if d<c then d else c),(if d>c then d else c))]))else(H4 f g fuel (IntKind.i64.wrap (u8+1)) (e ++ [((if b<a then b else a),(if b>a then b else a))])))else(if(bif(decide (h=i))then(decide (a=b))else false)=true then(grd ((e.length+([((if d<c then d else c),(if d>c then d else c))]).length)*16<=140737488355328)).bind λ_=>(H4 f g fuel (IntKind.i64.wrap (u8+1)) (e ++ [((if d<c then d else c),(if d>c then d else c))]))else(H4 f g fuel (IntKind.i64.wrap (u8+1)) e)))else some (e))
def V7(b:V0):Nat->Int->(List S4)->Option ((List S4))
 |0,_,_=>none
 |fuel+1,a,c=>(if(decide (a<((b.length:Nat):Int)))=true then(H4 b a W0 (IntKind.i64.wrap (a+1)) c).bind (λd=>(V7 b fuel (IntKind.i64.wrap (a+1)) d))else some (c))
def k02(a:l0):Option (p6):=match a with|(d,e,b)=>(V7 b W0 0 ([]:p6)).bind (λc=>some c)
def f00(e:l0):Option (S4×Bool):=match e with|(a,b,c)=>(n5 (a,b,c)).bind λf=>(if(!f)=true then some ((0,0),false)else(k02 (a,b,c)).bind λd=>(if(decide (((d.length:Nat):Int)=0))=true then some ((0,0),false)else(gi d 0).bind λg=>match g with|(h,i)=>some ((h,i),true)))
def A02(a:Int)(d:S4):Option (Int):=match d with|(b,c)=>(if(decide (a=c))=true then(if(decide (b>c))=true then some (IntKind.i64.wrap (b-1))else some b)else(if(decide (a>c))=true then some (IntKind.i64.wrap (a-1))else some a))
def M4(a:V0)(b:Int)(c:Int):Nat->Int->Int->Int->V0->Option (Int×Int×V0)
 |0,_,_,_,_=>none
 |fuel+1,d,u8,f,e=>(if(decide (d<((a.length:Nat):Int)))=true then(gi a d).bind λi=>match i with|(j,k,l)=>(A02 j (b,c)).bind λg=>(grd (J0 g)).bind λn=>(A02 l (b,c)).bind λh=>(grd (J0 h)).bind λo=>(b9 e (g,k,h)).bind λm=>(M4 a b c fuel (IntKind.i64.wrap (d+1)) u8 f m)else some (u8,f,e))
def W7(g:l0)(h:S4):Option (l0×Bool):=match g with|(b,a,c)=>match h with|(d,e)=>(n5 (b,a,c)).bind λi=>(if(bif(bif(bif(!i)then true else(decide (d<0)))then true else(decide (d ≥ e)))then true else(decide (e ≥ a)))=true then(I6 (b,a,c)).bind λj=>match j with|(k,l,m)=>some ((k,l,m),false)else(M4 c d e W0 0 b (IntKind.i64.wrap (a-1)) ([]:V0)).bind (λf=>match f with|(y29,y30,y31)=>some ((y29,y30,y31),true)))
def J01(f:l0):Option (l0×S4×Bool):=match f with|(a,b,c)=>(f00 (a,b,c)).bind λg=>match g with|(h,i)=>match h with|(d,e)=>(if(!i)=true then(I6 (a,b,c)).bind λj=>match j with|(k,l,m)=>some ((k,l,m),(0,0),false)else(W7 (a,b,c) (d,e)).bind λn=>match n with|(o,t)=>match o with|(p,q,s)=>some ((p,q,s),(d,e),true))
def J6:Nat->Int->Int->Int->V0->(List S4)->Option ((l0×p6) ⊕ (Int×Int×V0×(List S4)))
 |0,_,_,_,_,_=>none
 |fuel+1,d,b,c,u8,a=>(if(decide (d<40))=true then(J01 (b,c,u8)).bind λg=>match g with|(h,l,m)=>match h with|(i,j,k)=>match l with|(e,f)=>(if(!m)=true then some (.inl ((b,c,u8),a))else(grd ((a.length+([(e,f)]).length)*16<=140737488355328)).bind λ_=>(J6 fuel (IntKind.i64.wrap (d+1)) i j k (a ++ [(e,f)])))else some (.inr (b,c,u8,a)))
def l02(c:l0):Option (l0×p6):=match c with|(d,e,f)=>(I6 (d,e,f)).bind λg=>match g with|(h,i,j)=>(J6 W0 0 h i j ([]:p6)).bind λb=>Q8 b (λa=>match a with|(y27,y28,y29,y30)=>some ((y27,y28,y29),y30))
def q01(b:Int)(a:Int)(c:Int):Option (K0):=(if(decide (a<0))=true then some (c,(IntKind.i64.wrap (0-a)),b)else some (b,a,c))
def I1(b:V0)(c:Int)(d:Int)(e:Int):Nat->Int->Option ((Int) ⊕ (Unit))
 |0,_=>none
 |fuel+1,a=>(if(decide (a<((b.length:Nat):Int)))=true then(gi b a).bind λf=>match f with|(g,h,i)=>(if(eqE (c,d,e) (g,h,i))=true then some (.inl a)else(I1 b c d e fuel (IntKind.i64.wrap (a+1))))else some (.inr ()))
def M2(b:V0)(c:K0):Option (Int):=match c with|(d,e,f)=>(I1 b d e f W0 0).bind λa=>Q8 a (λ_=>some (-1))
def M3(b:V0)(c:K0):Option (Bool):=match c with|(d,e,f)=>(M2 b (d,e,f)).bind λa=>(grd (J0 a)).bind λ_=>some (decide (a ≥ 0))
def K6(a:Int)(c:S4):Option (Int):=match c with|(d,b)=>(if(decide (a=b))=true then some d else(if(decide (a>b))=true then some (IntKind.i64.wrap (a-1))else some a))
def L6(a:M0)(e:Int):Nat->Int->Int->Int->Int->V0->Option (Int×Int×V0)
 |0,_,_,_,_,_=>none
 |fuel+1,g,b,f,c,d=>(if(decide (b<((a.length:Nat):Int)))=true then(gi a b).bind λh=>(if(decide (b<(IntKind.i64.wrap (((a.length:Nat):Int)-1))))=true then(q01 g h c).bind λo=>match o with|(i,j,k)=>(grd ((d.length+([(i,j,k)]).length)*24<=140737488355328)).bind λ_=>(L6 a e fuel c (IntKind.i64.wrap (b+1)) f (IntKind.i64.wrap (c+1)) (d ++ [(i,j,k)]))else(q01 g h e).bind λp=>match p with|(l,m,n)=>(grd ((d.length+([(l,m,n)]).length)*24<=140737488355328)).bind λ_=>(L6 a e fuel e (IntKind.i64.wrap (b+1)) f c (d ++ [(l,m,n)])))else some (f,c,d))
def X00(n:l0)(g:Int)(a:M0)(h:Int):Option (l0×Bool):=match n with|(b,c,d)=>(N3 (b,c,d)).bind λo=>match o with|(i,j,k)=>(t6 (b,c,d)).bind λe=>(chk (!(!e)) (G4 (b,c,d) g) false).bind λf=>(chk (!(bif(!e)then true else(!f))) (G4 (b,c,d) h) false).bind λl=>(chk (!(bif(bif(bif(!e)then true else(!f))then true else(!l))then true else(decide (((a.length:Nat):Int)=0)))) (E7 b a) false).bind λq=>(if(bif(bif(bif(bif(bif(bif(!e)then true else(!f))then true else(!l))then true else(decide (((a.length:Nat):Int)=0)))then true else(!q))then true else(decide ((IntKind.i64.wrap ((IntKind.i64.wrap (c+((a.length:Nat):Int)))-1))>40)))then true else(decide ((IntKind.i64.wrap (((d.length:Nat):Int)+((a.length:Nat):Int)))>120)))=true then some ((i,j,k),false)else(L6 a h W0 g 0 i j k).bind (λm=>match m with|(y35,y36,y37)=>(c9 y37).bind λp=>some ((y35,y36,p),true)))
def K01(a:Int):Option (l0×Bool):=(Y5 a 1 3).bind λb=>(if(!b)=true then some ((0,0,[]),false)else some ((a,1,[]),true))
def y00(a:l0)(e:M0):Option (l0×Bool):=match a with|(b,c,d)=>(X00 (b,c,d) 0 e 0).bind λf=>match f with|(g,k)=>match g with|(h,i,j)=>some ((h,i,j),k)
def l6(a:E2):Nat->Int->Int->Int->V0->Option (Int×Int×V0)
 |0,_,_,_,_=>none
 |fuel+1,u8,d,b,c=>(if(decide (u8<((a.length:Nat):Int)))=true then(gi a u8).bind λe=>(if(decide (((e.length:Nat):Int)>0))=true then(y00 (d,b,c) e).bind λf=>match f with|(g,k)=>match g with|(h,i,j)=>(l6 a fuel (IntKind.i64.wrap (u8+1)) h i j)else(l6 a fuel (IntKind.i64.wrap (u8+1)) d b c))else some (d,b,c))
def L01(a:Int)(b:E2):Option (l0×Bool):=(w00 a b).bind λd=>(if(!d)=true then some ((0,0,[]),false)else(K01 a).bind λe=>match e with|(f,j)=>match f with|(g,h,i)=>(l6 b W0 0 g h i).bind (λc=>match c with|(y22,y23,y24)=>some ((y22,y23,y24),true)))
def w5(g:V0)(h:Int)(b:Int)(a:Int):Nat->Int->(List S4)->Option ((List S4))
 |0,_,_=>none
 |fuel+1,f,e=>(if(decide (f<((g.length:Nat):Int)))=true then(gi g f).bind λi=>match i with|(d,j,c)=>(if(!decide (h=j))=true then(w5 g h b a fuel (IntKind.i64.wrap (f+1)) e)else(if(decide (b=d))=true then(grd ((e.length+([((if c<a then c else a),(if c>a then c else a))]).length)*16<=140737488355328)).bind λ_=>(if(decide (a=c))=true then(grd (((e ++ [((if c<a then c else a),(if c>a then c else a))]).length+([((if d<b then d else b),(if d>b then d else b))]).length)*16<=140737488355328)).bind λ_=>(w5 g h b a fuel (IntKind.i64.wrap (f+1)) ((e ++ [((if c<a then c else a),(if c>a then c else a))]) ++ [((if d<b then d else b),(if d>b then d else b))]))else(w5 g h b a fuel (IntKind.i64.wrap (f+1)) (e ++ [((if c<a then c else a),(if c>a then c else a))])))else(if(decide (a=c))=true then(grd ((e.length+([((if d<b then d else b),(if d>b then d else b))]).length)*16<=140737488355328)).bind λ_=>(w5 g h b a fuel (IntKind.i64.wrap (f+1)) (e ++ [((if d<b then d else b),(if d>b then d else b))]))else(w5 g h b a fuel (IntKind.i64.wrap (f+1)) e))))else some (e))
def A9(a:V0):Nat->Int->(List S4)->Option ((List S4))
 |0,_,_=>none
 |fuel+1,b,c=>(if(decide (b<((a.length:Nat):Int)))=true then(gi a b).bind λd=>match d with|(e,f,g)=>(V06 a (IntKind.i64.wrap (b+1)) (a.length:Int)).bind λh=>(w5 h f e g W0 0 c).bind (λi=>(A9 a fuel (IntKind.i64.wrap (b+1)) i))else some (c))
def B02(a:l0):Option (p6):=match a with|(d,e,b)=>(A9 b W0 0 ([]:p6)).bind (λc=>some c)
def g00(e:l0):Option (S4×Bool):=match e with|(a,b,c)=>(t6 (a,b,c)).bind λf=>(if(!f)=true then some ((0,0),false)else(B02 (a,b,c)).bind λd=>(if(decide (((d.length:Nat):Int)=0))=true then some ((0,0),false)else(gi d 0).bind λg=>match g with|(h,i)=>some ((h,i),true)))
def N4(f:V0)(c:Int)(d:Int):Nat->Int->V0->Option (V0)
 |0,_,_=>none
 |fuel+1,a,b=>(if(decide (a<((f.length:Nat):Int)))=true then(gi b a).bind λh=>match h with|(i,j,k)=>(K6 i (c,d)).bind λe=>(grd (J0 e)).bind λm=>(K6 k (c,d)).bind λg=>(grd (J0 g)).bind λn=>(gi b a).bind λl=>match l with|(o,p,q)=>(N4 f c d fuel (IntKind.i64.wrap (a+1)) (b.set a.toNat (e,j,g)))else some (b))
def O4(i:l0)(j:S4):Option (l0×Bool):=match i with|(e,a,f)=>match j with|(b,c)=>(N3 (e,a,f)).bind λk=>match k with|(g,h,d)=>(t6 (e,a,f)).bind λm=>(if(bif(bif(bif(!m)then true else(decide (b<0)))then true else(decide (b ≥ c)))then true else(decide (c ≥ a)))=true then some ((g,h,d),false)else(N4 d b c W0 0 d).bind (λn=>(c9 n).bind λl=>some ((g,(IntKind.i64.wrap (h-1)),l),true)))
def M01(f:l0):Option (l0×S4×Bool):=match f with|(a,b,c)=>(g00 (a,b,c)).bind λg=>match g with|(h,i)=>match h with|(d,e)=>(if(!i)=true then(N3 (a,b,c)).bind λj=>match j with|(k,l,m)=>some ((k,l,m),(0,0),false)else(O4 (a,b,c) (d,e)).bind λn=>match n with|(o,t)=>match o with|(p,q,s)=>some ((p,q,s),(d,e),true))
def Y7:Nat->Int->Int->V0->(List S4)->Option ((l0×p6) ⊕ (Int×Int×V0×(List S4)))
 |0,_,_,_,_=>none
 |fuel+1,b,c,u8,a=>(M01 (b,c,u8)).bind λf=>match f with|(g,k,l)=>match g with|(h,i,j)=>match k with|(d,e)=>(if(!l)=true then some (.inl ((b,c,u8),a))else(grd ((a.length+([(d,e)]).length)*16<=140737488355328)).bind λ_=>(Y7 fuel h i j (a ++ [(d,e)])))
def m02(b:l0):Option (l0×p6):=match b with|(c,d,e)=>(N3 (c,d,e)).bind λf=>match f with|(g,h,i)=>(Y7 W0 g h i ([]:p6)).bind λa=>Q8 a (λ_=>none)
def Y00(g:l0):Option (l0×Bool):=match g with|(b,a,c)=>(N3 (b,a,c)).bind λh=>match h with|(d,e,f)=>(t6 (b,a,c)).bind λi=>(if(bif(!i)then true else(decide (a=40)))=true then some ((d,e,f),false)else some ((d,(IntKind.i64.wrap (e+1)),f),true))
def W3(c:M0)(d:Int)(e:Int)(f:V0)(u8:Int):Nat->Int->(List K0)->Option ((List K0))
 |0,_,_=>none
 |fuel+1,a,b=>(if(decide (a<((c.length:Nat):Int)))=true then(gi c a).bind λg=>(A4 (d,e,f) u8 g).bind λh=>(grd (J0 h)).bind λ_=>(if(decide (h<0))=true then(grd ((b.length+([(u8,g,(-1))]).length)*24<=140737488355328)).bind λ_=>(W3 c d e f u8 fuel (IntKind.i64.wrap (a+1)) (b ++ [(u8,g,(-1))]))else(W3 c d e f u8 fuel (IntKind.i64.wrap (a+1)) b))else some (b))
def Z4(b:Int)(a:Int)(c:V0):Nat->Int->(List K0)->Option ((List K0))
 |0,_,_=>none
 |fuel+1,u8,d=>(if(decide (u8<b))=true then(w9 a).bind λe=>(W3 e a b c u8 W0 0 d).bind (λf=>(Z4 b a c fuel (IntKind.i64.wrap (u8+1)) f))else some (d))
def K8(d:l0):Option (V0):=match d with|(a,b,c)=>(W5 (a,b,c)).bind λe=>(if(!e)=true then some ([]:V0)else(Z4 b a c W0 0 ([]:V0)).bind (λf=>some f))
def O5(e:Int)(f:Int)(d:M0):Nat->Int->(List Int)->(List Int)->Option ((List Int)×(List Int))
 |0,_,_,_=>none
 |fuel+1,a,b,c=>(if(decide (a<e))=true then(if(!decide (a=f))=true then(grd ((b.length + [a].length)*8<=140737488355328)).bind λ_=>(gi d a).bind λg=>(grd ((c.length + [g].length)*8<=140737488355328)).bind λ_=>(O5 e f d fuel (IntKind.i64.wrap (a+1)) (b ++ [a]) (c ++ [g]))else(O5 e f d fuel (IntKind.i64.wrap (a+1)) b c))else some (b,c))
def D6(g:Int)(h:Int)(i:V0):Nat->M0->Int->Int->Int->V0->Option ((l0×M0) ⊕ (M0×Int×Int×V0))
 |0,_,_,_,_,_=>none
 |fuel+1,d,e,b,a,c=>(chk (decide (e<40)) (n5 (g,h,i)) false).bind λk=>(if(bif(decide (e<40))then k else false)=true then(U01 (b,a,c)).bind λf=>(grd (J0 f)).bind λ_=>(if(decide (f<0))=true then some (.inl ((b,a,c),d))else(O5 a f d W0 0 ([]:M0) ([]:M0)).bind (λj=>match j with|(y52,y53)=>(S7 (b,a,c) y52).bind λl=>match l with|(m,q)=>match m with|(n,o,p)=>(D6 g h i fuel y53 (IntKind.i64.wrap (e+1)) n o p)))else some (.inr (d,b,a,c)))
def E6(b:Int)(d:Int)(e:V0):Nat->Int->(List Int)->Option ((List Int))
 |0,_,_=>none
 |fuel+1,a,c=>(chk (decide (a<b)) (n5 (d,b,e)) false).bind λf=>(if(bif(decide (a<b))then f else false)=true then(grd ((c.length + [a].length)*8<=140737488355328)).bind λ_=>(E6 b d e fuel (IntKind.i64.wrap (a+1)) (c ++ [a]))else some (c))
def a01(f:l0):Option (l0×M0):=match f with|(a,b,c)=>(I6 (a,b,c)).bind λg=>match g with|(h,i,j)=>(E6 b a c W0 0 ([]:M0)).bind (λk=>(D6 a b c W0 k 0 h i j).bind λe=>Q8 e (λd=>match d with|(y132,y133,y134,y135)=>some ((y133,y134,y135),y132)))
def b01(a:l0):Option (l0):=match a with|(b,c,d)=>(l02 (b,c,d)).bind λe=>match e with|(f,t)=>match f with|(g,h,i)=>(a01 (g,h,i)).bind λj=>match j with|(k,u)=>match k with|(l,m,n)=>(B7 (l,m,n)).bind λo=>match o with|(p,q,s)=>some (p,q,s)
def A5(a:l0):Option (l0):=match a with|(b,c,d)=>(m02 (b,c,d)).bind λe=>match e with|(f,t)=>match f with|(g,h,i)=>(U7 (g,h,i)).bind λj=>match j with|(k,u)=>match k with|(l,m,n)=>(C7 (l,m,n)).bind λo=>match o with|(p,q,s)=>some (p,q,s)
def U6(c:M0):Nat->Int->(List Int)->Option ((List Int))
 |0,_,_=>none
 |fuel+1,a,b=>(if(decide (a ≥ 0))=true then(gi c a).bind λd=>(grd ((b.length+([(IntKind.i64.wrap (0-d))]).length)*8<=140737488355328)).bind λ_=>(U6 c fuel (IntKind.i64.wrap (a-1)) (b ++ [(IntKind.i64.wrap (0-d))]))else some (b))
def J03(a:M0):Option (M0):=(U6 a W0 (IntKind.i64.wrap (((a.length:Nat):Int)-1)) ([]:M0)).bind (λb=>some b)
def l3(c:M0):Nat->Int->(List Int)->Option ((List Int))
 |0,_,_=>none
 |fuel+1,d,b=>(if(decide (d<((c.length:Nat):Int)))=true then(some b.length).bind λa=>(grd (a<=9223372036854775807)).bind λ_=>(chk (decide (((a:Nat):Int)>0)) (gi c d) 0).bind λe=>(chk (bif(decide (((a:Nat):Int)>0))then(!decide (e=0))else false) (gi b (IntKind.i64.wrap (((a:Nat):Int)-1))) 0).bind λf=>(chk (bif(decide (((a:Nat):Int)>0))then(!decide (e=0))else false) (gi c d) 0).bind λg=>(chk (bif(bif(decide (((a:Nat):Int)>0))then(!decide (e=0))else false)then(decide (f=(IntKind.i64.wrap (0-g))))else false) (gi b (IntKind.i64.wrap (((a:Nat):Int)-1))) 0).bind λi=>(chk (bif(bif(decide (((a:Nat):Int)>0))then(!decide (e=0))else false)then(decide (f=(IntKind.i64.wrap (0-g))))else false) (gi c d) 0).bind λj=>(if(bif(bif(bif(decide (((a:Nat):Int)>0))then(!decide (e=0))else false)then(decide (f=(IntKind.i64.wrap (0-g))))else false)then(!decide (i=j))else false)=true then(grd (0<=(IntKind.i64.wrap (((a:Nat):Int)-1))/\(IntKind.i64.wrap (((a:Nat):Int)-1))<=(b.length:Int))).bind λ_=>(l3 c fuel (IntKind.i64.wrap (d+1)) (b.take (IntKind.i64.wrap (((a:Nat):Int)-1)).toNat))else(gi c d).bind λh=>(grd ((b.length + [h].length)*8<=140737488355328)).bind λ_=>(l3 c fuel (IntKind.i64.wrap (d+1)) (b ++ [h])))else some (b))
def j4(b:M0):Option (M0):=(l3 b W0 0 ([]:M0)).bind (λa=>(grd ((([]:M0).length+a.length)*8<=140737488355328)).bind λ_=>some (([]:M0)++a))
def V6(c:M0):Nat->Int->(List Int)->Option ((List Int))
 |0,_,_=>none
 |fuel+1,a,b=>(if(decide (a ≥ 0))=true then(gi c a).bind λd=>(grd ((b.length+([(IntKind.i64.wrap (0-d))]).length)*8<=140737488355328)).bind λ_=>(V6 c fuel (IntKind.i64.wrap (a-1)) (b ++ [(IntKind.i64.wrap (0-d))]))else some (b))
def B8(a:M0):Option (M0):=(grd ((0:Int)<=0/\0<=((a.length:Nat):Int)/\((a.length:Nat):Int)*8<=140737488355328/\((a.length:Nat):Int)<=9223372036854775807)).bind λ_=>(V6 a W0 (IntKind.i64.wrap (((a.length:Nat):Int)-1)) (List.replicate (0:Int).toNat (0:Int))).bind (λb=>some b)
def M6(e:M0):Nat->Int->(List Int)->Option ((List Int))
 |0,_,_=>none
 |fuel+1,d,a=>(if(decide (d<((e.length:Nat):Int)))=true then(gi e d).bind λf=>(some a.length).bind λb=>(grd (b<=9223372036854775807)).bind λ_=>(some a.length).bind λg=>(grd (g<=9223372036854775807)).bind λ_=>(chk (decide (((b:Nat):Int)>0)) (gi a (IntKind.i64.wrap (((g:Nat):Int)-1))) 0).bind λh=>(chk (decide (((b:Nat):Int)>0)) (E9 h f) false).bind λi=>(if(bif(decide (((b:Nat):Int)>0))then i else false)=true then(some a.length).bind λc=>(grd (c<=9223372036854775807)).bind λ_=>(grd (0<=(IntKind.i64.wrap (((c:Nat):Int)-1))/\(IntKind.i64.wrap (((c:Nat):Int)-1))<=(a.length:Int))).bind λ_=>(M6 e fuel (IntKind.i64.wrap (d+1)) (a.take (IntKind.i64.wrap (((c:Nat):Int)-1)).toNat))else(grd ((a.length + [f].length)*8<=140737488355328)).bind λ_=>(M6 e fuel (IntKind.i64.wrap (d+1)) (a ++ [f])))else some (a))
def Z7(a:E2):Nat->Int->(List Int)->Option ((List Int))
 |0,_,_=>none
 |fuel+1,b,c=>(if(decide (b<((a.length:Nat):Int)))=true then(gi a b).bind λd=>(M6 d W0 0 c).bind (λe=>(Z7 a fuel (IntKind.i64.wrap (b+1)) e))else some (c))
def C8(a:E2):Option (M0):=(Z7 a W0 0 ([]:M0)).bind (λb=>some b)
def O01(e:l0)(f:M0):Option (Bool):=match e with|(a,b,c)=>(j4 f).bind λg=>(E01 (a,b,c) 0 g).bind λi=>match i with|(d,j)=>(grd (J0 d)).bind λk=>(A00 (a,b,c)).bind λh=>some (bif(bif h then j else false)then(decide (d=0))else false)
def P5(d:l0)(a:M0):Option (Bool):=match d with|(e,f,g)=>(G9 (e,f,g) 0 a).bind λh=>match h with|(b,c)=>(grd (J0 b)).bind λ_=>(grd (J0 c)).bind λ_=>some (bif(decide (c=((a.length:Nat):Int)))then(decide (b=0))else false)
def F6(a:M0):Option (M0):=(C8 [a]).bind λb=>some b
def G6(d:M0)(n:E2)(e:Int)(f:Int)(g:V0):Nat->Int->(List K0)->Option ((List K0))
 |0,_,_=>none
 |fuel+1,a,b=>(if(decide (a<((d.length:Nat):Int)))=true then(gi d a).bind λc=>(gi n c).bind λh=>(gi h (IntKind.i64.wrap (((h.length:Nat):Int)-1))).bind λi=>(A4 (e,f,g) c (IntKind.i64.wrap (0-i))).bind λj=>(grd (J0 j)).bind λ_=>(q01 j i c).bind λo=>match o with|(k,l,m)=>(grd ((b.length+([(k,l,m)]).length)*24<=140737488355328)).bind λ_=>(G6 d n e f g fuel (IntKind.i64.wrap (a+1)) (b ++ [(k,l,m)]))else some (b))
def c01(e:l0):Option (V0):=match e with|(a,b,c)=>(o7 (a,b,c) 0).bind λf=>match f with|(d,g)=>(V06 d 1 (d.length:Int)).bind λi=>(G6 i g a b c W0 0 ([]:V0)).bind (λj=>(c9 j).bind λh=>some h)
def j5(a:V0)(g:V0):Nat->Int->(List K0)->Option ((List K0))
 |0,_,_=>none
 |fuel+1,b,c=>(if(decide (b<((a.length:Nat):Int)))=true then(gi a b).bind λh=>match h with|(d,e,f)=>(M3 g (d,e,f)).bind λi=>(if(!i)=true then(grd ((c.length+([(d,e,f)]).length)*24<=140737488355328)).bind λ_=>(j5 a g fuel (IntKind.i64.wrap (b+1)) (c ++ [(d,e,f)]))else(j5 a g fuel (IntKind.i64.wrap (b+1)) c))else some (c))
def H9(d:l0):Option (V0):=match d with|(b,c,a)=>(W5 (b,c,a)).bind λe=>(if(!e)=true then some ([]:V0)else(c01 (b,c,a)).bind λf=>(j5 a f W0 0 ([]:V0)).bind (λg=>some g))
def c8(c:V0)(d:E2):Nat->Int->(List M0)->Option ((List M0))
 |0,_,_=>none
 |fuel+1,a,b=>(if(decide (a<((c.length:Nat):Int)))=true then(gi c a).bind λf=>match f with|(g,h,i)=>(gi d g).bind λj=>(some [h]).bind λk=>(gi d i).bind λl=>(B8 l).bind λm=>(some [j,k,m]).bind λn=>(C8 n).bind λo=>(some [o]).bind λe=>(grd ((b.length+e.length)*24<=140737488355328)).bind λ_=>(c8 c d fuel (IntKind.i64.wrap (a+1)) (b++e))else some (b))
def o02(d:l0):Option (E2):=match d with|(a,b,c)=>(U4 (a,b,c)).bind λe=>(if(!e)=true then some ([]:E2)else(o7 (a,b,c) 0).bind λg=>match g with|(j,h)=>(H9 (a,b,c)).bind λf=>(c8 f h W0 0 ([]:E2)).bind (λi=>some i))
def I5(a:E2)(c:Int)(d:Int)(e:V0):Nat->Int->Option ((Bool) ⊕ (Unit))
 |0,_=>none
 |fuel+1,b=>(if(decide (b<((a.length:Nat):Int)))=true then(gi a b).bind λg=>(F6 g).bind λh=>(P5 (c,d,e) h).bind λf=>(if(!f)=true then some (.inl false)else(I5 a c d e fuel (IntKind.i64.wrap (b+1))))else some (.inr ()))
def M7(e:l0)(f:E2):Option (Bool):=match e with|(a,b,c)=>(U4 (a,b,c)).bind λg=>(if(!g)=true then some false else(I5 f a b c W0 0).bind λd=>Q8 d (λ_=>some true))
def D8(b:Int)(c:Int):Nat->Int->(List Int)->Option ((List Int))
 |0,_,_=>none
 |fuel+1,u8,a=>(if(decide (u8<b))=true then(if(!decide (u8=c))=true then(grd ((a.length + [u8].length)*8<=140737488355328)).bind λ_=>(D8 b c fuel (IntKind.i64.wrap (u8+1)) (a ++ [u8]))else(D8 b c fuel (IntKind.i64.wrap (u8+1)) a))else some (a))
def B9(f:l0):Option (Bool):=match f with|(a,b,c)=>(U4 (a,b,c)).bind λd=>(chk d (K8 (a,b,c)) []).bind λe=>(grd (e.length<=9223372036854775807)).bind λg=>some (bif d then(decide (((e.length:Nat):Int)=0))else false)
def r7(c:Int)(d:Int):Nat->Int->(List Int)->Option ((List Int))
 |0,_,_=>none
 |fuel+1,a,b=>(if(decide (a<c))=true then(if(!decide (a=d))=true then(grd ((b.length + [a].length)*8<=140737488355328)).bind λ_=>(r7 c d fuel (IntKind.i64.wrap (a+1)) (b ++ [a]))else(r7 c d fuel (IntKind.i64.wrap (a+1)) b))else some (b))
def P8(f:l0)(d:Int):Option (l0×Bool):=match f with|(b,a,c)=>(W5 (b,a,c)).bind λe=>(chk (!(!e)) (G4 (b,a,c) d) false).bind λg=>(if(bif(!e)then true else(!g))=true then(N3 (b,a,c)).bind λp=>match p with|(q,s,t)=>some ((q,s,t),false)else(r7 a d W0 0 [d]).bind (λu=>(e02 (b,a,c) u).bind λh=>match h with|(i,j,k)=>(A5 (i,j,k)).bind λl=>match l with|(m,n,o)=>some ((m,n,o),true)))
def d6(b:M0)(c:M0):Nat->Int->Option ((Bool) ⊕ (Unit))
 |0,_=>none
 |fuel+1,a=>(if(decide (a<((b.length:Nat):Int)))=true then(gi b a).bind λd=>(gi c a).bind λe=>(if(!decide (d=e))=true then some (.inl false)else(d6 b c fuel (IntKind.i64.wrap (a+1))))else some (.inr ()))
def D00(a:M0)(b:M0):Option (Bool):=(if(!decide (((a.length:Nat):Int)=((b.length:Nat):Int)))=true then some false else(d6 a b W0 0).bind λc=>Q8 c (λ_=>some true))
def E00(a:Int)(b:E2):Option (l0×Bool):=(M9 a b).bind λc=>match c with|(d,h)=>match d with|(e,f,g)=>(if(!h)=true then some ((0,0,[]),false)else(b01 (e,f,g)).bind λi=>match i with|(j,k,l)=>some ((j,k,l),true))
def E5(d:M0)(a:E2):Nat->Int->(List M0)->Option ((List M0))
 |0,_,_=>none
 |fuel+1,c,b=>(if(decide (c<((d.length:Nat):Int)))=true then(gi d c).bind λe=>(Y5 e 1 ((a.length:Nat):Int)).bind λj=>(if j=true then(gi a (IntKind.i64.wrap (e-1))).bind λf=>(grd ((b.length + [f].length)*24<=140737488355328)).bind λ_=>(E5 d a fuel (IntKind.i64.wrap (c+1)) (b ++ [f]))else(Y5 e (IntKind.i64.wrap (0-((a.length:Nat):Int))) (-1)).bind λh=>(if h=true then(gi a (IntKind.i64.wrap ((IntKind.i64.wrap (0-e))-1))).bind λi=>(B8 i).bind λg=>(grd ((b.length + [g].length)*24<=140737488355328)).bind λ_=>(E5 d a fuel (IntKind.i64.wrap (c+1)) (b ++ [g]))else(E5 d a fuel (IntKind.i64.wrap (c+1)) b)))else some (b))
def P01(b:E2)(a:M0):Option (M0):=(V06 a 0 (if 200<((a.length:Nat):Int)then 200 else((a.length:Nat):Int))).bind λc=>(E5 c b W0 0 ([]:E2)).bind (λe=>(C8 e).bind λd=>some d)
def E8(a:Int)(b:E2):Option (l0×Bool):=(L01 a b).bind λc=>match c with|(d,h)=>match d with|(e,f,g)=>(if(!h)=true then some ((0,0,[]),false)else(A5 (e,f,g)).bind λi=>match i with|(j,k,l)=>some ((j,k,l),true))
def l5(e:l0)(f:E2):Option (Bool):=match e with|(a,b,c)=>(U4 (a,b,c)).bind λg=>(if(!g)=true then some false else(E8 a f).bind λh=>match h with|(i,d)=>match i with|(j,k,l)=>(chk d (B6 (a,b,c) (j,k,l)) false).bind λm=>some (bif d then m else false))
def N9(e:l0)(f:M0):Option (Bool):=match e with|(b,c,d)=>(U4 (b,c,d)).bind λa=>(chk a (F6 f) []).bind λg=>(chk a (P5 (b,c,d) g) false).bind λh=>some (bif a then h else false)
def J00(g:l0)(b:M0):Option (l0×Int×Bool):=match g with|(c,a,d)=>(G9 (c,a,d) 0 b).bind λh=>match h with|(e,f)=>(grd (J0 e)).bind λ_=>(grd (J0 f)).bind λ_=>(if(decide (f=((b.length:Nat):Int)))=true then some ((c,a,d),e,true)else(Y00 (c,a,d)).bind λo=>match o with|(p,u)=>match p with|(q,s,t)=>(if(!u)=true then some ((0,0,[]),0,false)else(V06 b f (b.length:Int)).bind λv=>(X00 (q,s,t) e v a).bind λi=>match i with|(j,n)=>match j with|(k,l,m)=>(if(!n)=true then some ((0,0,[]),0,false)else some ((k,l,m),a,true))))
def l4(g:l0)(d:M0):Option (l0×Bool):=match g with|(a,b,c)=>(U4 (a,b,c)).bind λe=>(chk (!(!e)) (E7 a d) false).bind λh=>(if(bif(!e)then true else(!h))=true then some ((0,0,[]),false)else(J00 (a,b,c) d).bind λi=>match i with|(j,f,n)=>match j with|(k,l,m)=>(grd (J0 f)).bind λ_=>(if(!n)=true then some ((0,0,[]),false)else(P8 (k,l,m) f).bind λo=>match o with|(p,u)=>match p with|(q,s,t)=>some ((q,s,t),u)))
def K00(c:l0):Option (Int):=match c with|(d,a,b)=>(U4 (d,a,b)).bind λe=>(if(!e)=true then some (-1)else some (IntKind.i64.wrap ((IntKind.i64.wrap (((b.length:Nat):Int)-a))+1)))
def d01(b:l0):Option (Int):=match b with|(c,a,d)=>(B9 (c,a,d)).bind λe=>(if(!e)=true then some (-1)else some a)
def o6(t:L04):Option (Bool):=match t with|(e,i,d,f,u,(a,b,c),g)=>(w00 i d).bind λj=>(chk (!(!j)) (E7 i f) false).bind λk=>(chk (!(bif(!j)then true else(!k))) (U4 (a,b,c)) false).bind λA=>(if(bif(bif(bif(!j)then true else(!k))then true else(!A))then true else(!decide (a=i)))=true then some false else(if(decide (e=1))=true then(l5 (a,b,c) d).bind λh=>(chk h (o02 (a,b,c)) []).bind λH=>(chk h (P01 H u) []).bind λv=>(chk h (D00 v f) false).bind λw=>some (bif h then w else false)else(if(decide (e=2))=true then(M7 (a,b,c) d).bind λl=>(chk l (N9 (a,b,c) f) false).bind λx=>some (bif l then(!x)else false)else(if(decide (e=3))=true then(l5 (a,b,c) d).bind λm=>(chk m (N9 (a,b,c) f) false).bind λy=>some (bif m then y else false)else(if(decide (e=4))=true then(B8 f).bind λz=>(l4 (a,b,c) z).bind λB=>match B with|(C,n)=>match C with|(D,E,F)=>(chk n (l5 (D,E,F) d) false).bind λG=>some (bif n then G else false)else(if(decide (e=5))=true then(l5 (a,b,c) d).bind λo=>(chk o (K00 (a,b,c)) 0).bind λp=>(grd (J0 p)).bind λ_=>some (bif(bif o then(decide (p=((d.length:Nat):Int)))else false)then(decide (g=((d.length:Nat):Int)))else false)else(if(decide (e=6))=true then(l5 (a,b,c) d).bind λq=>(chk (bif q then(decide (g>0))else false) (d01 (a,b,c)) 0).bind λs=>(grd (J0 s)).bind λ_=>some (bif(bif q then(decide (g>0))else false)then(decide (s=g))else false)else some false)))))))
def V4(d:M0)(f:Int)(g:Int)(h:V0)(i:V0):Nat->Int->Int->(List Int)->Option ((List Int))
 |0,_,_,_=>none
 |fuel+1,k,c,a=>(if(decide (c<((d.length:Nat):Int)))=true then(gi d c).bind λj=>(A4 (f,g,h) k j).bind λe=>(grd (J0 e)).bind λ_=>(q01 k j e).bind λl=>match l with|(m,n,o)=>(M2 i (m,n,o)).bind λb=>(grd (J0 b)).bind λ_=>(if(decide (b ≥ 0))=true then(if(decide (j>0))=true then(grd ((a.length+([(IntKind.i64.wrap (b+1))]).length)*8<=140737488355328)).bind λ_=>(V4 d f g h i fuel e (IntKind.i64.wrap (c+1)) (a ++ [(IntKind.i64.wrap (b+1))]))else(grd ((a.length+([(IntKind.i64.wrap ((IntKind.i64.wrap (0-b))-1))]).length)*8<=140737488355328)).bind λ_=>(V4 d f g h i fuel e (IntKind.i64.wrap (c+1)) (a ++ [(IntKind.i64.wrap ((IntKind.i64.wrap (0-b))-1))])))else(V4 d f g h i fuel e (IntKind.i64.wrap (c+1)) a))else some (a))
def f01(e:l0)(d:M0):Option (M0×Bool):=match e with|(a,b,c)=>(N9 (a,b,c) d).bind λf=>(if(!f)=true then some (([]:M0),false)else(H9 (a,b,c)).bind λi=>(F6 d).bind λg=>(V4 g a b c i W0 0 0 ([]:M0)).bind (λj=>(C8 [j]).bind λh=>some (h,true)))
def P4(c:Nat)(d:(List Int))(e:(List Int))(u8:Int):Nat->Int->Int->Int->V0->Option (Int×Int×V0)
 |0,_,_,_,_=>none
 |fuel+1,a,f,g,b=>(if(decide (a<((c:Nat):Int)))=true then(gi d a).bind λh=>(gi e a).bind λi=>(grd ((b.length+([(h,u8,i)]).length)*24<=140737488355328)).bind λ_=>(P4 c d e u8 fuel (IntKind.i64.wrap (a+1)) f g (b ++ [(h,u8,i)]))else some (f,g,b))
def K3(b:Int)(c:Int)(d:V0)(u8:Int):Nat->Int->(List Int)->(List Int)->Option ((List Int)×(List Int))
 |0,_,_,_=>none
 |fuel+1,a,f,e=>(if(decide (a<b))=true then(A4 (c,b,d) a u8).bind λg=>(grd (J0 g)).bind λ_=>(if(decide (g<0))=true then(grd ((f.length + [a].length)*8<=140737488355328)).bind λ_=>(A4 (c,b,d) a (IntKind.i64.wrap (0-u8))).bind λh=>(grd (J0 h)).bind λ_=>(if(decide (h<0))=true then(grd ((e.length + [a].length)*8<=140737488355328)).bind λ_=>(K3 b c d u8 fuel (IntKind.i64.wrap (a+1)) (f ++ [a]) (e ++ [a]))else(K3 b c d u8 fuel (IntKind.i64.wrap (a+1)) (f ++ [a]) e))else(A4 (c,b,d) a (IntKind.i64.wrap (0-u8))).bind λi=>(grd (J0 i)).bind λ_=>(if(decide (i<0))=true then(grd ((e.length + [a].length)*8<=140737488355328)).bind λ_=>(K3 b c d u8 fuel (IntKind.i64.wrap (a+1)) f (e ++ [a]))else(K3 b c d u8 fuel (IntKind.i64.wrap (a+1)) f e)))else some (f,e))
def Q4(a:Int)(c:Int)(d:V0):Nat->Int->Int->Int->V0->Option (Int×Int×V0)
 |0,_,_,_,_=>none
 |fuel+1,u8,g,e,f=>(if(decide (u8<=a))=true then(K3 c a d u8 W0 0 ([]:M0) ([]:M0)).bind (λi=>match i with|(y65,y66)=>(some y65.length).bind λb=>(grd (b<=9223372036854775807)).bind λ_=>(P4 b y65 y66 u8 W0 0 g e f).bind (λh=>match h with|(y92,y93,y94)=>(Q4 a c d fuel (IntKind.i64.wrap (u8+1)) y92 y93 y94)))else some (g,e,f))
def d8(e:l0):Option (l0×Bool):=match e with|(a,b,c)=>(W5 (a,b,c)).bind λf=>(if(bif(!f)then true else(decide ((IntKind.i64.wrap (b*a))>120)))=true then some ((0,0,[]),false)else(N3 (a,b,c)).bind λh=>match h with|(i,j,k)=>(Q4 a b c W0 1 i j k).bind (λd=>match d with|(y103,y104,y105)=>(c9 y105).bind λg=>some ((y103,y104,g),true)))
def Q5(a:E2):Nat->Int->Int->Int->V0->Option ((l0×Bool) ⊕ (Int×Int×V0))
 |0,_,_,_,_=>none
 |fuel+1,b,c,d,e=>(if(decide (b<((a.length:Nat):Int)))=true then(gi a b).bind λf=>(J00 (c,d,e) f).bind λg=>match g with|(h,l,m)=>match h with|(i,j,k)=>(grd (J0 l)).bind λ_=>(if(!m)=true then some (.inl ((0,0,[]),false))else(Q5 a fuel (IntKind.i64.wrap (b+1)) i j k))else some (.inr (c,d,e)))
def R4(b:E2)(a:Int)(d:Int)(e:V0):Nat->Int->Option ((l0×Bool) ⊕ (Unit))
 |0,_=>none
 |fuel+1,c=>(if(decide (c<((b.length:Nat):Int)))=true then(gi b c).bind λf=>(E7 a f).bind λg=>(chk (!(!g)) (P5 (a,d,e) f) false).bind λh=>(if(bif(!g)then true else h)=true then some (.inl ((0,0,[]),false))else(R4 b a d e fuel (IntKind.i64.wrap (c+1))))else some (.inr ()))
def g8(h:l0)(d:E2):Option (l0×Bool):=match h with|(a,b,c)=>(U4 (a,b,c)).bind λi=>(if(bif(!i)then true else(decide (((d.length:Nat):Int)>6)))=true then some ((0,0,[]),false)else(R4 d a b c W0 0).bind λg=>Q8 g (λ_=>(Q5 d W0 0 a b c).bind λf=>Q8 f (λe=>match e with|(y75,y76,y77)=>(d8 (y75,y76,y77)).bind λj=>match j with|(k,o)=>match k with|(l,m,n)=>(if(!o)=true then some ((0,0,[]),false)else(A5 (l,m,n)).bind λp=>match p with|(q,s,t)=>some ((q,s,t),true)))))
def W6(a:l0)(e:M0):Option (l0×Bool):=match a with|(b,c,d)=>(g8 (b,c,d) [e]).bind λf=>match f with|(g,k)=>match g with|(h,i,j)=>some ((h,i,j),k)
def T3(b:M0):Nat->Int->Int->Int->V0->(List S4)->Option ((l0×p6) ⊕ (Int×Int×V0×(List S4)))
 |0,_,_,_,_,_=>none
 |fuel+1,c,e,f,g,d=>(B02 (e,f,g)).bind λa=>(if(decide (((a.length:Nat):Int)=0))=true then some (.inl ((e,f,g),d))else(chk (decide (c<((b.length:Nat):Int))) (gi b c) 0).bind λm=>(if(bif(decide (c<((b.length:Nat):Int)))then(decide (m>0))else false)=true then(gi b c).bind λh=>(grd (((a.length:Nat):Int)≠0)).bind λ_=>(gi a (Int.tmod h ((a.length:Nat):Int))).bind λn=>match n with|(o,p)=>(O4 (e,f,g) (o,p)).bind λq=>match q with|(s,G)=>match s with|(t,u,v)=>(gi a (Int.tmod h ((a.length:Nat):Int))).bind λw=>match w with|(i,j)=>(grd ((d.length+([(i,j)]).length)*16<=140737488355328)).bind λ_=>(T3 b fuel (IntKind.i64.wrap (c+1)) t u v (d ++ [(i,j)]))else(gi a 0).bind λx=>match x with|(y,z)=>(O4 (e,f,g) (y,z)).bind λA=>match A with|(B,H)=>match B with|(C,D,E)=>(gi a 0).bind λF=>match F with|(k,l)=>(grd ((d.length+([(k,l)]).length)*16<=140737488355328)).bind λ_=>(T3 b fuel (IntKind.i64.wrap (c+1)) C D E (d ++ [(k,l)]))))
def p00(h:l0)(i:M0):Option (l0×p6):=match h with|(a,b,c)=>(N3 (a,b,c)).bind λj=>match j with|(d,e,f)=>(t6 (a,b,c)).bind λk=>(if(!k)=true then some ((d,e,f),([]:p6))else(T3 i W0 0 d e f ([]:p6)).bind λg=>Q8 g (λ_=>none))
def H6(a:E2):Nat->Int->(List M0)->Option ((List M0))
 |0,_,_=>none
 |fuel+1,b,c=>(if(decide (b<((a.length:Nat):Int)))=true then(gi a b).bind λe=>(I7 e).bind λd=>(grd ((c.length + [d].length)*24<=140737488355328)).bind λ_=>(H6 a fuel (IntKind.i64.wrap (b+1)) (c ++ [d]))else some (c))
def h01(a:E2):Option (E2):=(grd ((0:Int)<=0/\0<=((a.length:Nat):Int)/\((a.length:Nat):Int)*24<=140737488355328/\((a.length:Nat):Int)<=9223372036854775807)).bind λ_=>(H6 a W0 0 (List.replicate (0:Int).toNat ([]:M0))).bind (λb=>some b)
def Q01(f:l0)(d:M0):Option (l0×Bool):=match f with|(a,b,c)=>(U4 (a,b,c)).bind λe=>(chk (!(!e)) (E7 a d) false).bind λk=>(if(bif(!e)then true else(!k))=true then some ((0,0,[]),false)else(if(decide (((d.length:Nat):Int)=0))=true then(N3 (a,b,c)).bind λl=>match l with|(m,n,o)=>some ((m,n,o),true)else(y00 (a,b,c) d).bind λp=>match p with|(q,v)=>match q with|(s,t,u)=>(if(!v)=true then some ((0,0,[]),false)else(A5 (s,t,u)).bind λg=>match g with|(h,i,j)=>some ((h,i,j),true))))
def i00(a:Int)(e:Int)(i:E2)(h:M0):Option (L04×Bool):=(E8 e i).bind λq=>match q with|(v,l)=>match v with|(b,c,d)=>(chk (!(!l)) (E7 e h) false).bind λL=>(if(bif(!l)then true else(!L))=true then some ((0,0,[],[],[],(0,0,[]),0),false)else(h01 i).bind λg=>(I7 h).bind λf=>(if(decide (a=1))=true then(f01 (b,c,d) h).bind λs=>match s with|(t,u)=>(if(!u)=true then some ((0,0,[],[],[],(0,0,[]),0),false)else some ((a,e,g,f,t,(b,c,d),0),true))else(if(decide (a=2))=true then(W6 (b,c,d) h).bind λw=>match w with|(x,B)=>match x with|(y,z,A)=>(if(!B)=true then some ((0,0,[],[],[],(0,0,[]),0),false)else some ((a,e,g,f,[],(y,z,A),0),true))else(if(decide (a=3))=true then(Q01 (b,c,d) h).bind λC=>match C with|(D,p)=>match D with|(m,n,o)=>(chk p (B6 (m,n,o) (b,c,d)) false).bind λE=>(if(!(bif p then E else false))=true then some ((0,0,[],[],[],(0,0,[]),0),false)else some ((a,e,g,f,[],(m,n,o),0),true))else(if(decide (a=4))=true then(l4 (b,c,d) h).bind λF=>match F with|(G,K)=>match G with|(H,I,J)=>(if(!K)=true then some ((0,0,[],[],[],(0,0,[]),0),false)else some ((a,e,g,f,[],(H,I,J),0),true))else(if(decide (a=5))=true then(K00 (b,c,d)).bind λj=>(grd (J0 j)).bind λ_=>(if(!(decide (j=((i.length:Nat):Int))))=true then some ((0,0,[],[],[],(0,0,[]),0),false)else some ((a,e,g,f,[],(b,c,d),j),true))else(if(decide (a=6))=true then(d01 (b,c,d)).bind λk=>(grd (J0 k)).bind λ_=>(if(!(decide (k>0)))=true then some ((0,0,[],[],[],(0,0,[]),0),false)else some ((a,e,g,f,[],(b,c,d),k),true))else(if(!false)=true then some ((0,0,[],[],[],(0,0,[]),0),false)else some ((a,e,g,f,[],(b,c,d),0),true)))))))))
def f0n(a b:Int):Int:=IntKind.i64.wrap ((BitVec.ofInt 64 a &&& BitVec.ofInt 64 b).toNat:Int)
def q0u(a b:Int):Int:=IntKind.i64.wrap ((BitVec.ofInt 64 a ^^^ BitVec.ofInt 64 b).toNat:Int)
def C9(b:List Int):Nat->Int->Int->Option Int
 |0,_,_=>none
 |fuel+1,c,a=>if(bif decide (a<((b.length:Nat):Int))then decide (a<4000)else false)=true then(gi b a).bind λx=>C9 b fuel (f0n (IntKind.i64.wrap (IntKind.i64.wrap (IntKind.i64.wrap (c*131)+IntKind.i64.wrap x)+7)) 1073741823) (IntKind.i64.wrap (a+1))else some c
def P03(a:List Int):Option (Int×Int):=(C9 a W0 (IntKind.i64.wrap (10101+((a.length:Nat):Int))) 0).bind λy=>some (0,y)
def nxt(q:Int):Int:=IntKind.i64.wrap (IntKind.i64.wrap (q*6364136223846793005)+1442695040888963407)
def drw(q:Int):Int:=f0n (q0u (Int.fdiv q (2 ^ min (33:Int).toNat 64)) (Int.fdiv q (2 ^ min (45:Int).toNat 64))) 255
def l9(a:List Int)(q:Int×Int):Option (Int×(Int×Int)) :=
 if decide (q.1<((a.length:Nat):Int))=true then(gi a q.1).bind λc=>some (f0n (IntKind.i64.wrap (drw (nxt q.2)+IntKind.i64.wrap c)) 255,(IntKind.i64.wrap (q.1+1),nxt q.2))else some (drw (nxt q.2),(q.1,nxt q.2))
def G7(b:List Int)(c:Int×Int)(a:Int):Option (Int×(Int×Int)):=(if(decide (a<=0))=true then some (0,c)else(if(decide (a<=256))=true then(l9 b c).bind λo=>match o with|(g,p)=>(grd (J0 g)).bind λ_=>(grd (a≠0)).bind λ_=>some ((Int.tmod g a),p)else(l9 b c).bind λq=>match q with|(h,s)=>(grd (J0 h)).bind λ_=>(l9 b s).bind λi=>match i with|(d,j)=>(grd (J0 d)).bind λ_=>(l9 b j).bind λk=>match k with|(e,l)=>(grd (J0 e)).bind λ_=>(l9 b l).bind λm=>match m with|(f,n)=>(grd (J0 f)).bind λ_=>(grd (a≠0)).bind λ_=>some ((Int.tmod (IntKind.i64.wrap ((IntKind.i64.wrap ((IntKind.i64.wrap ((IntKind.i64.wrap (h*16777216))+(IntKind.i64.wrap (d*65536))))+(IntKind.i64.wrap (e*256))))+f)) a),n)))
def t04(b:List Int)(c:Int×Int)(d:Int):Option (Bool×(Int×Int)):=(G7 b c d).bind λe=>match e with|(a,f)=>(grd (J0 a)).bind λ_=>some ((decide (a=0)),f)
def i01(c:List Int)(d:Int×Int)(a:M0):Option (Int×(Int×Int)):=(G7 c d ((a.length:Nat):Int)).bind λe=>match e with|(b,f)=>(grd (J0 b)).bind λ_=>(gi a b).bind λg=>some (g,f)
def n8(c:(List Int))(d:Int):Nat->Int->(List Int)->(Int×Int)->Option ((List Int)×(Int×Int))
 |0,_,_,_=>none
 |fuel+1,e,a,u8=>(if(decide (e>0))=true then(G7 c u8 d).bind λg=>match g with|(b,h)=>(grd (J0 b)).bind λ_=>(t04 c h 2).bind λi=>match i with|(j,f)=>(if j=true then(grd ((a.length+([(IntKind.i64.wrap (0-(IntKind.i64.wrap (1+b))))]).length)*8<=140737488355328)).bind λ_=>(n8 c d fuel (IntKind.i64.wrap (e-1)) (a ++ [(IntKind.i64.wrap (0-(IntKind.i64.wrap (1+b))))]) f)else(grd ((a.length+([(IntKind.i64.wrap (1+b))]).length)*8<=140737488355328)).bind λ_=>(n8 c d fuel (IntKind.i64.wrap (e-1)) (a ++ [(IntKind.i64.wrap (1+b))]) f))else some (a,u8))
def y03(a:List Int)(d:Int×Int)(e:Int)(f:Int):Option (M0×(Int×Int)):=(G7 a d (IntKind.i64.wrap (f+1))).bind λg=>match g with|(b,h)=>(grd (J0 b)).bind λ_=>(n8 a e W0 b ([]:M0) h).bind (λc=>match c with|(y36,y37)=>(j4 y36).bind λi=>some (i,y37))
def i8(b:(List Int))(c:Int):Nat->Int->(List M0)->(Int×Int)->Option ((List M0)×(Int×Int))
 |0,_,_,_=>none
 |fuel+1,d,a,u8=>(if(decide (d>0))=true then(y03 b u8 c 5).bind λf=>match f with|(e,g)=>(grd ((a.length + [e].length)*24<=140737488355328)).bind λ_=>(i8 b c fuel (IntKind.i64.wrap (d-1)) (a ++ [e]) g)else some (a,u8))
def q02(a:List Int)(d:Int×Int)(e:Int):Option (E2×(Int×Int)):=(G7 a d 4).bind λf=>match f with|(b,g)=>(grd (J0 b)).bind λ_=>(i8 a e W0 b ([]:E2) g).bind (λc=>match c with|(y26,y27)=>some (y26,y27))
def F02(a:List Int)(g:Int×Int):Option (Int×E2×(Int×Int)):=(i01 a g ([1,2,2,2,3])).bind λm=>match m with|(c,n)=>(grd (J0 c)).bind λ_=>(q02 a n c).bind λh=>match h with|(b,i)=>(G7 a i 14).bind λj=>match j with|(d,e)=>(grd (J0 d)).bind λ_=>(if(decide (d=0))=true then(i01 a e ([0,1,4])).bind λk=>match k with|(f,l)=>(grd (J0 f)).bind λ_=>some (f,b,l)else(if(decide (d=1))=true then(grd ((b.length+([[1,(-1)]]).length)*24<=140737488355328)).bind λ_=>some (c,(b ++ [[1,(-1)]]),e)else some (c,b,e)))
def g6(a:(List Int)):Option (Int×E2):=(P03 a).bind λc=>(F02 a c).bind λd=>match d with|(b,e,f)=>(grd (J0 b)).bind λ_=>some (b,e)
def m04(a:(List Int)):Option (Bool):=some (decide (((a.length:Nat):Int)>1048576))
def n04(a:(List Int))(b:Int):Option (Int):=(if(decide (b<((a.length:Nat):Int)))=true then(gi a b).bind λc=>some (IntKind.i64.wrap c)else(grd (256≠0)).bind λ_=>some (Int.tmod (IntKind.i64.wrap ((IntKind.i64.wrap (b*37))+(IntKind.i64.wrap (((a.length:Nat):Int)*11)))) 256))
def o8(d:(List Int))(e:Int)(f:Int)(a:Int):Nat->Int->(List Int)->Option ((List Int))
 |0,_,_=>none
 |fuel+1,g,c=>(n04 d e).bind λh=>(grd (J0 h)).bind λ_=>(grd ((IntKind.i64.wrap (f+1))≠0)).bind λ_=>(if(decide (g<(Int.tmod h (IntKind.i64.wrap (f+1)))))=true then(n04 d (IntKind.i64.wrap ((IntKind.i64.wrap (e+1))+g))).bind λb=>(grd (J0 b)).bind λ_=>(grd (a≠0)).bind λ_=>(grd (8≠0)).bind λ_=>(grd (2≠0)).bind λ_=>(if(decide ((Int.tmod (IntKind.i64.wrap (Int.tdiv b 8)) 2)=1))=true then(grd ((c.length+([(IntKind.i64.wrap (0-(IntKind.i64.wrap (1+(Int.tmod b a)))))]).length)*8<=140737488355328)).bind λ_=>(o8 d e f a fuel (IntKind.i64.wrap (g+1)) (c ++ [(IntKind.i64.wrap (0-(IntKind.i64.wrap (1+(Int.tmod b a)))))]))else(grd ((c.length+([(IntKind.i64.wrap (1+(Int.tmod b a)))]).length)*8<=140737488355328)).bind λ_=>(o8 d e f a fuel (IntKind.i64.wrap (g+1)) (c ++ [(IntKind.i64.wrap (1+(Int.tmod b a)))])))else some (c))
def I04(a:(List Int))(b:Int)(c:Int)(d:Int):Option (M0):=(o8 a b d c W0 0 ([]:M0)).bind (λf=>(j4 f).bind λe=>some e)
def F8(d:(List Int)):Nat->Int->(List Int)->Option ((List Int))
 |0,_,_=>none
 |fuel+1,a,b=>(if(decide (a<20))=true then(n04 d (IntKind.i64.wrap (3*a))).bind λc=>(grd (J0 c)).bind λ_=>(grd ((b.length + [c].length)*8<=140737488355328)).bind λ_=>(F8 d fuel (IntKind.i64.wrap (a+1)) (b ++ [c]))else some (b))
def G02(g:(List Int)):Option (Bool):=(m04 g).bind λo=>(if o=true then some true else(g6 g).bind λz=>match z with|(a,d)=>(grd (J0 a)).bind λ_=>(E8 a d).bind λA=>match A with|(K,k)=>match K with|(L,M,N)=>(E00 a d).bind λp=>match p with|(s,m)=>match s with|(h,c,i)=>(chk (!(!(k == m))) (K7 (L,M,N) (h,c,i)) false).bind λt=>(if(bif(!(k == m))then true else(!t))=true then some false else(if(!k)=true then some true else(M9 a d).bind λu=>match u with|(v,am)=>match v with|(w,x,y)=>(F8 g W0 0 ([]:M0)).bind (λal=>(p00 (w,x,y) al).bind λB=>match B with|(C,an)=>match C with|(D,E,F)=>(A5 (D,E,F)).bind λG=>match G with|(H,I,J)=>(K7 (H,I,J) (h,c,i)).bind λn=>(chk (!(!n)) (M7 (h,c,i) d) false).bind λO=>(if(bif(!n)then true else(!O))=true then some false else(I04 g 40 a 6).bind λf=>(i00 1 a d f).bind λP=>match P with|(Q,b)=>match Q with|(R,S,T,U,V,(W,X,Y),Z)=>(i00 2 a d f).bind λaa=>match aa with|(ab,e)=>match ab with|(ac,ad,ae,af,ag,(ah,ai,aj),ak)=>(O01 (h,c,i) f).bind λj=>(chk ((!e)&&(b&&(!(!(b == j))))) (o6 (R,S,T,U,V,(W,X,Y),Z)) false).bind λl=>(chk (e&&(!(bif(!(b == j))then true else(bif b then(bif e then true else(!l))else false)))) (o6 (ac,ad,ae,af,ag,(ah,ai,aj),ak)) false).bind λq=>(if(bif(bif(!(b == j))then true else(bif b then(bif e then true else(!l))else false))then true else(bif e then(!q)else false))=true then some false else some (bif(bif(bif b then true else e)then true else(decide ((IntKind.i64.wrap (c+((f.length:Nat):Int)))>40)))then true else(decide ((IntKind.i64.wrap ((IntKind.i64.wrap (c+((f.length:Nat):Int)))*a))>120)))))))))
end Go.Proofs.YtmgikbbmpnbbjaaGreat
