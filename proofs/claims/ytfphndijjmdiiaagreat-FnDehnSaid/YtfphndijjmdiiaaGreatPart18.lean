/- Texts of the claim, joined: What functions of the program compute, in plain words: batch and others. -/
import Derived.Test.YtfphndijjmdiiaaGreatPart17
import Derived.Test.YtfphndijjmdiiaaGreatH36
import Derived.Test.YtfphndijjmdiiaaGreatH35
namespace Go.Proofs.YtfphndijjmdiiaaGreat
open Go.H
set_option linter.unusedVariables false
set_option linter.unusedSimpArgs false
set_option maxRecDepth 10000
def j5(a:Int)(b:Int)(c:Int):Option (Bool):=some (bif(decide (a ≥ b))then(decide (a<=c))else false)
def F8(b:D0)(d:Int):Nat->Int->Option ((Bool) ⊕ (Unit))
 |0,_=>none
 |fuel+1,a=>(if(decide (a<((b.length:Nat):Int)))=true then(gi b a).bind λc=>(chk (!(decide (c=0))) (gi b a) 0).bind λg=>(chk (!(decide (c=0))) (j5 g (IntKind.i64.wrap (0-d)) d) false).bind λe=>(chk ((decide (a>0))&&(!(bif(decide (c=0))then true else(!e)))) (gi b a) 0).bind λh=>(chk ((decide (a>0))&&(!(bif(decide (c=0))then true else(!e)))) (gi b (IntKind.i64.wrap (a-1))) 0).bind λf=>(if(bif(bif(decide (c=0))then true else(!e))then true else(bif(decide (a>0))then(decide (h=(IntKind.i64.wrap (0-f))))else false))=true then some (.inl false)else(F8 b d fuel (IntKind.i64.wrap (a+1))))else some (.inr ()))
def T8(a:Int)(b:D0):Option (Bool):=(F8 b a W0 0).bind λc=>p7 c (λ_=>(j5 a 1 3).bind λd=>some (bif d then(decide (((b.length:Nat):Int)<=24))else false))
def F4(a:L1):Nat->Int->Int->Option (Int)
 |0,_,_=>none
 |fuel+1,c,b=>(if(decide (b<((a.length:Nat):Int)))=true then(gi a b).bind λd=>(F4 a fuel (IntKind.i64.wrap (c+((d.length:Nat):Int))) (IntKind.i64.wrap (b+1)))else some (c))
def O8(a:L1):Option (Int):=(F4 a W0 0 0).bind (λb=>some b)
def V6(a:L1)(c:Int):Nat->Int->Option ((Bool) ⊕ (Unit))
 |0,_=>none
 |fuel+1,b=>(if(decide (b<((a.length:Nat):Int)))=true then(gi a b).bind λd=>(T8 c d).bind λe=>(if(!e)=true then some (.inl false)else(V6 a c fuel (IntKind.i64.wrap (b+1))))else some (.inr ()))
def j00(b:Int)(a:L1):Option (Bool):=(V6 a b W0 0).bind λe=>p7 e (λ_=>(j5 b 1 3).bind λc=>(chk (bif c then(decide (((a.length:Nat):Int)<=6))else false) (O8 a) 0).bind λd=>(grd (H0 d)).bind λ_=>some (bif(bif c then(decide (((a.length:Nat):Int)<=6))else false)then(decide (d<40))else false))
def S4(b:L1):Nat->Int->Option ((Bool) ⊕ (Unit))
 |0,_=>none
 |fuel+1,c=>(if(decide (c<((b.length:Nat):Int)))=true then(gi b c).bind λa=>(chk (!(decide (((a.length:Nat):Int)=0))) (gi a 0) 0).bind λd=>(chk (!(decide (((a.length:Nat):Int)=0))) (gi a (IntKind.i64.wrap (((a.length:Nat):Int)-1))) 0).bind λe=>(if(bif(decide (((a.length:Nat):Int)=0))then true else(decide (d=(IntKind.i64.wrap (0-e)))))=true then some (.inl false)else(S4 b fuel (IntKind.i64.wrap (c+1))))else some (.inr ()))
def W2(c:l0):Option (Bool):=match c with|(d,a)=>(S4 a W0 0).bind λb=>p7 b (λ_=>(j00 d a).bind λe=>some e)
def E00(a:Int)(b:Int)(c:Int):Option (Bool):=some (bif(decide (a ≥ b))then(decide (a<=c))else false)
def i01(b:Int)(a:Int):Option (Bool):=(chk (!decide (a=0)) (E00 a (IntKind.i64.wrap (0-b)) b) false).bind λc=>some (bif(!decide (a=0))then c else false)
def g8(a:Int)(b:Int):Option (Bool):=some (bif(bif(!decide (a=0))then(!decide (a=(-9223372036854775808)))else false)then(decide (b=(IntKind.i64.wrap (0-a))))else false)
def G8(b:D0)(d:Int):Nat->Int->Option ((Bool) ⊕ (Unit))
 |0,_=>none
 |fuel+1,a=>(if(decide (a<((b.length:Nat):Int)))=true then(gi b a).bind λe=>(i01 d e).bind λc=>(chk ((decide (a>0))&&(!(!c))) (gi b (IntKind.i64.wrap (a-1))) 0).bind λf=>(chk ((decide (a>0))&&(!(!c))) (g8 f e) false).bind λg=>(if(bif(!c)then true else(bif(decide (a>0))then g else false))=true then some (.inl false)else(G8 b d fuel (IntKind.i64.wrap (a+1))))else some (.inr ()))
def m02(a:Int)(b:D0):Option (Bool):=(E00 a 1 3).bind λd=>(if(bif(!d)then true else(decide (((b.length:Nat):Int)>24)))=true then some false else(G8 b a W0 0).bind λc=>p7 c (λ_=>some true))
def r6(a:L1):Nat->Int->Int->Option (Int)
 |0,_,_=>none
 |fuel+1,c,b=>(if(decide (b<((a.length:Nat):Int)))=true then(gi a b).bind λd=>(r6 a fuel (IntKind.i64.wrap (c+((d.length:Nat):Int))) (IntKind.i64.wrap (b+1)))else some (c))
def Q9(a:L1):Option (Int):=(r6 a W0 0 0).bind (λb=>some b)
def W6(a:L1)(c:Int):Nat->Int->Option ((Bool) ⊕ (Unit))
 |0,_=>none
 |fuel+1,b=>(if(decide (b<((a.length:Nat):Int)))=true then(gi a b).bind λd=>(m02 c d).bind λe=>(if(!e)=true then some (.inl false)else(W6 a c fuel (IntKind.i64.wrap (b+1))))else some (.inr ()))
def j01(b:Int)(a:L1):Option (Bool):=(E00 b 1 3).bind λe=>(if(bif(!e)then true else(decide (((a.length:Nat):Int)>6)))=true then some false else(W6 a b W0 0).bind λd=>p7 d (λ_=>(Q9 a).bind λc=>(grd (H0 c)).bind λ_=>some (decide (c<40))))
def T4(b:L1):Nat->Int->Option ((Bool) ⊕ (Unit))
 |0,_=>none
 |fuel+1,c=>(if(decide (c<((b.length:Nat):Int)))=true then(gi b c).bind λa=>(chk (!(decide (((a.length:Nat):Int)=0))) (gi a 0) 0).bind λf=>(chk (!(decide (((a.length:Nat):Int)=0))) (gi a (IntKind.i64.wrap (((a.length:Nat):Int)-1))) 0).bind λd=>(chk (!(decide (((a.length:Nat):Int)=0))) (g8 f d) false).bind λe=>(if(bif(decide (((a.length:Nat):Int)=0))then true else e)=true then some (.inl false)else(T4 b fuel (IntKind.i64.wrap (c+1))))else some (.inr ()))
def B5(c:l0):Option (Bool):=match c with|(d,a)=>(j01 d a).bind λe=>(if(!e)=true then some false else(T4 a W0 0).bind λb=>p7 b (λ_=>some true))
def w7(a:Int)(b:Int):Option (Int):=(if(decide (a<b))=true then some (-1)else(if(decide (a>b))=true then some 1 else some 0))
def v01(d:j0)(f:Q0):Option (Bool):=match d with|(e,b,k)=>match f with|(g,h,i)=>(j5 g 0 (IntKind.i64.wrap (b-1))).bind λa=>(chk a (j5 i 0 (IntKind.i64.wrap (b-1))) false).bind λc=>(chk (bif a then c else false) (j5 h 1 e) false).bind λj=>some (bif(bif a then c else false)then j else false)
def l7(b:Int)(c:Int)(d:Int)(e:Int)(f:Int)(g:Int):Nat->Int->Option ((Int) ⊕ (Unit))
 |0,_=>none
 |fuel+1,a=>(if(decide (a<3))=true then(gi [b,c,d] a).bind λi=>(gi [e,f,g] a).bind λj=>(if(decide (i<j))=true then some (.inl (-1))else(gi [b,c,d] a).bind λk=>(gi [e,f,g] a).bind λh=>(if(decide (k>h))=true then some (.inl 1)else(l7 b c d e f g fuel (IntKind.i64.wrap (a+1)))))else some (.inr ()))
def w8(b:Q0)(f:Q0):Option (Int):=match b with|(c,d,e)=>match f with|(g,h,i)=>(l7 c d e g h i W0 0).bind λa=>p7 a (λ_=>some 0)
def G7(b:T2)(d:Int)(e:Int):Nat->Int->Option ((Bool) ⊕ (Unit))
 |0,_=>none
 |fuel+1,a=>(if(decide (a<((b.length:Nat):Int)))=true then(gi b a).bind λg=>match g with|(h,i,j)=>(v01 (d,e,b) (h,i,j)).bind λc=>(chk ((decide (a>0))&&(!(!c))) (gi b (IntKind.i64.wrap (a-1))) (0,0,0)).bind λk=>match k with|(l,m,n)=>(chk ((decide (a>0))&&(!(!c))) (gi b a) (0,0,0)).bind λo=>match o with|(p,q,s)=>(chk ((decide (a>0))&&(!(!c))) (w8 (l,m,n) (p,q,s)) 0).bind λf=>(grd (H0 f)).bind λ_=>(if(bif(!c)then true else(bif(decide (a>0))then(decide (f ≥ 0))else false))=true then some (.inl false)else(G7 b d e fuel (IntKind.i64.wrap (a+1))))else some (.inr ()))
def K4(f:j0):Option (Bool):=match f with|(a,b,c)=>(G7 c a b W0 0).bind λe=>p7 e (λ_=>(j5 a 1 3).bind λd=>(chk d (j5 b 1 40) false).bind λg=>some (bif(bif d then g else false)then(decide (((c.length:Nat):Int)<=120))else false))
def l5(b:D0)(a:Int):Nat->Bool->Int->(List Int)->Option (Bool×(List Int))
 |0,_,_,_=>none
 |fuel+1,e,c,d=>(if(decide (c<((b.length:Nat):Int)))=true then(gi b c).bind λl=>(if(decide (l=a))=true then(gi b c).bind λj=>(if(bif(decide (j>a))then(!true)else false)=true then(grd ((d.length + [a].length)*8<=140737488355328)).bind λ_=>(gi b c).bind λf=>(grd (((d ++ [a]).length + [f].length)*8<=140737488355328)).bind λ_=>(l5 b a fuel true (IntKind.i64.wrap (c+1)) ((d ++ [a]) ++ [f]))else(gi b c).bind λg=>(grd ((d.length + [g].length)*8<=140737488355328)).bind λ_=>(l5 b a fuel true (IntKind.i64.wrap (c+1)) (d ++ [g])))else(gi b c).bind λk=>(if(bif(decide (k>a))then(!e)else false)=true then(grd ((d.length + [a].length)*8<=140737488355328)).bind λ_=>(gi b c).bind λh=>(grd (((d ++ [a]).length + [h].length)*8<=140737488355328)).bind λ_=>(l5 b a fuel true (IntKind.i64.wrap (c+1)) ((d ++ [a]) ++ [h]))else(gi b c).bind λi=>(grd ((d.length + [i].length)*8<=140737488355328)).bind λ_=>(l5 b a fuel e (IntKind.i64.wrap (c+1)) (d ++ [i]))))else some (e,d))
def U8(c:D0)(a:Int):Option (D0):=(l5 c a W0 false 0 ([]:D0)).bind (λb=>match b with|(y35,y36)=>(if(!y35)=true then(grd ((y36.length + [a].length)*8<=140737488355328)).bind λ_=>some (y36 ++ [a])else some y36))
def c9(a:D0)(c:Int):Nat->Int->Option ((Bool) ⊕ (Unit))
 |0,_=>none
 |fuel+1,b=>(if(decide (b<((a.length:Nat):Int)))=true then(gi a b).bind λd=>(if(decide (d=c))=true then some (.inl true)else(c9 a c fuel (IntKind.i64.wrap (b+1))))else some (.inr ()))
def B9(b:D0)(c:Int):Option (Bool):=(c9 b c W0 0).bind λa=>p7 a (λ_=>some false)
def M4(c:T2)(a:Int)(b:Int):Nat->D0->Int->Option (D0)
 |0,_,_=>none
 |fuel+1,e,d=>(if(decide (d<((c.length:Nat):Int)))=true then(gi c d).bind λj=>match j with|(f,g,h)=>(if(bif(bif(decide (a>0))then(decide (g=a))else false)then(decide (f=b))else false)=true then(U8 e h).bind λi=>(if(bif(bif(decide (a<0))then(decide (g=(IntKind.i64.wrap (0-a))))else false)then(decide (h=b))else false)=true then(U8 i f).bind λk=>(M4 c a b fuel k (IntKind.i64.wrap (d+1)))else(M4 c a b fuel i (IntKind.i64.wrap (d+1))))else(if(bif(bif(decide (a<0))then(decide (g=(IntKind.i64.wrap (0-a))))else false)then(decide (h=b))else false)=true then(U8 e f).bind λl=>(M4 c a b fuel l (IntKind.i64.wrap (d+1)))else(M4 c a b fuel e (IntKind.i64.wrap (d+1)))))else some (e))
def M00(a:j0)(c:Int)(d:Int):Option (D0):=match a with|(f,g,b)=>(M4 b d c W0 ([]:D0) 0).bind (λe=>some e)
def i8(b:j0)(f:Int)(g:Int):Option (Int):=match b with|(c,d,e)=>(M00 (c,d,e) f g).bind λa=>(if(decide (((a.length:Nat):Int)=0))=true then some (-1)else(gi a 0).bind λh=>some h)
def Y6(b:Int)(a:T2):Nat->Int->Option ((Bool) ⊕ (Unit))
 |0,_=>none
 |fuel+1,u8=>(if(decide (u8<b))=true then(gi a b).bind λc=>match c with|(d,e,f)=>(gi a u8).bind λg=>match g with|(h,i,j)=>(if(bif(decide (e=i))then(bif(decide (d=h))then true else(decide (f=j)))else false)=true then some (.inl false)else(Y6 b a fuel (IntKind.i64.wrap (u8+1))))else some (.inr ()))
def L5(a:T2)(c:Int)(d:Int):Nat->Int->Option ((Bool) ⊕ (Unit))
 |0,_=>none
 |fuel+1,b=>(chk (decide (b<((a.length:Nat):Int))) (K4 (c,d,a)) false).bind λf=>(if(bif(decide (b<((a.length:Nat):Int)))then f else false)=true then(Y6 b a W0 0).bind λe=>S0a e (λ_=>(L5 a c d fuel (IntKind.i64.wrap (b+1))))else some (.inr ()))
def F6(e:j0):Option (Bool):=match e with|(a,b,c)=>(L5 c a b W0 0).bind λd=>p7 d (λ_=>(K4 (a,b,c)).bind λf=>some f)
def Z6(a:D0)(d:Int)(e:Int)(f:T2):Nat->Int->Int->Option ((Int×Bool) ⊕ (Int))
 |0,_,_=>none
 |fuel+1,g,b=>(if(decide (b<((a.length:Nat):Int)))=true then(gi a b).bind λh=>(i8 (d,e,f) g h).bind λc=>(grd (H0 c)).bind λ_=>(if(decide (c<0))=true then some (.inl ((-1),false))else(Z6 a d e f fuel c (IntKind.i64.wrap (b+1))))else some (.inr (g)))
def k00(g:j0)(d:Int)(h:D0):Option (Int×Bool):=match g with|(b,a,c)=>(F6 (b,a,c)).bind λe=>(chk (!(!e)) (j5 d 0 (IntKind.i64.wrap (a-1))) false).bind λi=>(if(bif(!e)then true else(!i))=true then some ((-1),false)else(Z6 h b a c W0 d 0).bind λf=>p7 f (λj=>some (j,true)))
def Q3(b:j0):Option (j0):=match b with|(c,d,a)=>(grd ((([]:T2).length+a.length)*24<=140737488355328)).bind λ_=>some (c,d,(([]:T2)++a))
def n5(e:T2)(a:Int)(b:Int)(c:Int):Nat->Bool->Int->(List Q0)->Option (Bool×(List Q0))
 |0,_,_,_=>none
 |fuel+1,h,f,d=>(if(decide (f<((e.length:Nat):Int)))=true then(gi e f).bind λz=>match z with|(A,B,C)=>(w8 (a,b,c) (A,B,C)).bind λg=>(grd (H0 g)).bind λ_=>(if(decide (g=0))=true then(if(bif(decide (g<0))then(!true)else false)=true then(grd ((d.length+([(a,b,c)]).length)*24<=140737488355328)).bind λ_=>(gi e f).bind λv=>match v with|(i,j,k)=>(grd (((d ++ [(a,b,c)]).length+([(i,j,k)]).length)*24<=140737488355328)).bind λ_=>(n5 e a b c fuel true (IntKind.i64.wrap (f+1)) ((d ++ [(a,b,c)]) ++ [(i,j,k)]))else(gi e f).bind λw=>match w with|(l,m,n)=>(grd ((d.length+([(l,m,n)]).length)*24<=140737488355328)).bind λ_=>(n5 e a b c fuel true (IntKind.i64.wrap (f+1)) (d ++ [(l,m,n)])))else(if(bif(decide (g<0))then(!h)else false)=true then(grd ((d.length+([(a,b,c)]).length)*24<=140737488355328)).bind λ_=>(gi e f).bind λx=>match x with|(o,p,q)=>(grd (((d ++ [(a,b,c)]).length+([(o,p,q)]).length)*24<=140737488355328)).bind λ_=>(n5 e a b c fuel true (IntKind.i64.wrap (f+1)) ((d ++ [(a,b,c)]) ++ [(o,p,q)]))else(gi e f).bind λy=>match y with|(s,t,u)=>(grd ((d.length+([(s,t,u)]).length)*24<=140737488355328)).bind λ_=>(n5 e a b c fuel h (IntKind.i64.wrap (f+1)) (d ++ [(s,t,u)]))))else some (h,d))
def j8(e:T2)(f:Q0):Option (T2):=match f with|(a,b,c)=>(n5 e a b c W0 false 0 ([]:T2)).bind (λd=>match d with|(y35,y36)=>(if(!y35)=true then(grd ((y36.length+([(a,b,c)]).length)*24<=140737488355328)).bind λ_=>some (y36 ++ [(a,b,c)])else some y36))
def o5(a:T2)(c:Int):Nat->Int->Int->Option (Int)
 |0,_,_=>none
 |fuel+1,d,b=>(if(decide (b<((a.length:Nat):Int)))=true then(gi a b).bind λg=>match g with|(h,m,n)=>(if(decide (h=c))=true then(gi a b).bind λi=>match i with|(o,p,j)=>(if(decide (j=c))=true then(o5 a c fuel (IntKind.i64.wrap ((IntKind.i64.wrap (d+1))+1)) (IntKind.i64.wrap (b+1)))else(o5 a c fuel (IntKind.i64.wrap (d+1)) (IntKind.i64.wrap (b+1))))else(gi a b).bind λe=>match e with|(k,l,f)=>(if(decide (f=c))=true then(o5 a c fuel (IntKind.i64.wrap (d+1)) (IntKind.i64.wrap (b+1)))else(o5 a c fuel d (IntKind.i64.wrap (b+1)))))else some (d))
def k01(a:j0)(c:Int):Option (Int):=match a with|(e,f,b)=>(o5 b c W0 0 0).bind (λd=>some d)
def P5(b:T2)(c:T2):Nat->Int->Option ((Bool) ⊕ (Unit))
 |0,_=>none
 |fuel+1,a=>(if(decide (a<((b.length:Nat):Int)))=true then(gi b a).bind λd=>match d with|(e,f,g)=>(gi c a).bind λh=>match h with|(i,j,k)=>(if(!eqE (e,f,g) (i,j,k))=true then some (.inl false)else(P5 b c fuel (IntKind.i64.wrap (a+1))))else some (.inr ()))
def R9(d:j0)(g:j0):Option (Bool):=match d with|(e,f,a)=>match g with|(h,i,b)=>(if(bif(bif(!decide (e=h))then true else(!decide (f=i)))then true else(!decide (((a.length:Nat):Int)=((b.length:Nat):Int))))=true then some false else(P5 a b W0 0).bind λc=>p7 c (λ_=>some true))
def c4(a:T2):Nat->D0->Int->Option (D0)
 |0,_,_=>none
 |fuel+1,b,c=>(if(decide (c<((a.length:Nat):Int)))=true then(gi a c).bind λg=>match g with|(d,m,e)=>(B9 b d).bind λh=>(if h=true then(U8 b e).bind λf=>(B9 f e).bind λi=>(if i=true then(U8 f d).bind λj=>(c4 a fuel j (IntKind.i64.wrap (c+1)))else(c4 a fuel f (IntKind.i64.wrap (c+1))))else(B9 b e).bind λk=>(if k=true then(U8 b d).bind λl=>(c4 a fuel l (IntKind.i64.wrap (c+1)))else(c4 a fuel b (IntKind.i64.wrap (c+1)))))else some (b))
def Q5(a:T2):Nat->D0->Int->Option (D0)
 |0,_,_=>none
 |fuel+1,b,c=>(if(decide (c<(IntKind.i64.wrap (((a.length:Nat):Int)+1))))=true then(c4 a W0 b 0).bind (λd=>(Q5 a fuel d (IntKind.i64.wrap (c+1))))else some (b))
def S9(e:j0)(c:Int):Option (D0):=match e with|(f,a,b)=>(K4 (f,a,b)).bind λd=>(chk (!(!d)) (j5 c 0 (IntKind.i64.wrap (a-1))) false).bind λg=>(if(bif(!d)then true else(!g))=true then some ([]:D0)else(Q5 b W0 [c] 0).bind (λh=>some h))
def H8(b:Int)(d:Int)(e:T2)(f:D0):Nat->Int->Option ((Int) ⊕ (Unit))
 |0,_=>none
 |fuel+1,a=>(if(decide (a<b))=true then(k01 (d,b,e) a).bind λc=>(grd (H0 c)).bind λ_=>(chk (!(decide (c<2))) (B9 f a) false).bind λg=>(if(bif(decide (c<2))then true else(!g))=true then some (.inl a)else(H8 b d e f fuel (IntKind.i64.wrap (a+1))))else some (.inr ()))
def w01(e:j0):Option (Int):=match e with|(a,b,c)=>(S9 (a,b,c) 0).bind λf=>(H8 b a c f W0 1).bind λd=>p7 d (λ_=>some (-1))
def A4(b:T2)(a:(List Int)):Nat->Int->Int->Int->T2->Option (Int×Int×T2)
 |0,_,_,_,_=>none
 |fuel+1,c,d,e,f=>(if(decide (c<((b.length:Nat):Int)))=true then(gi b c).bind λj=>match j with|(g,k,h)=>(gi a g).bind λi=>(chk (decide (i>0)) (gi a h) 0).bind λl=>(if(bif(decide (i>0))then(decide (l>0))else false)=true then(gi a g).bind λm=>(gi a h).bind λn=>(j8 f ((IntKind.i64.wrap (m-1)),k,(IntKind.i64.wrap (n-1)))).bind λo=>(A4 b a fuel (IntKind.i64.wrap (c+1)) d e o)else(A4 b a fuel (IntKind.i64.wrap (c+1)) d e f))else some (d,e,f))
def p5(a:D0)(c:Int)(e:Int)(f:T2):Nat->Int->(List Int)->Option ((j0×Bool) ⊕ ((List Int)))
 |0,_,_=>none
 |fuel+1,u8,b=>(if(decide (u8<((a.length:Nat):Int)))=true then(gi a u8).bind λh=>(j5 h 0 (IntKind.i64.wrap (c-1))).bind λd=>(chk (!(!d)) (gi a u8) 0).bind λi=>(chk (!(!d)) (gi b i) 0).bind λj=>(if(bif(!d)then true else(!decide (j=0)))=true then(Q3 (e,c,f)).bind λk=>match k with|(l,m,n)=>some (.inl ((l,m,n),false))else(gi a u8).bind λg=>(gi b g).bind λo=>(p5 a c e f fuel (IntKind.i64.wrap (u8+1)) (b.set g.toNat (IntKind.i64.wrap (u8+1)))))else some (.inr (b)))
def H7(g:j0)(d:D0):Option (j0×Bool):=match g with|(b,a,c)=>(K4 (b,a,c)).bind λh=>(if(bif(bif(!h)then true else(decide (((d.length:Nat):Int)=0)))then true else(decide (((d.length:Nat):Int)>a)))=true then(Q3 (b,a,c)).bind λi=>match i with|(j,k,l)=>some ((j,k,l),false)else(grd ((0:Int)<=a/\a<=a/\a*8<=140737488355328/\a<=9223372036854775807)).bind λ_=>(p5 d a b c W0 0 (List.replicate a.toNat (0:Int))).bind λf=>p7 f (λm=>(A4 c m W0 0 b ((d.length:Nat):Int) ([]:T2)).bind (λe=>match e with|(y86,y87,y88)=>some ((y86,y87,y88),true))))
def s6(c:Int):Nat->Int->(List Int)->Option ((List Int))
 |0,_,_=>none
 |fuel+1,a,b=>(if(decide (a<=c))=true then(grd ((b.length + [a].length)*8<=140737488355328)).bind λ_=>(grd (((b ++ [a]).length+([(IntKind.i64.wrap (0-a))]).length)*8<=140737488355328)).bind λ_=>(s6 c fuel (IntKind.i64.wrap (a+1)) ((b ++ [a]) ++ [(IntKind.i64.wrap (0-a))]))else some (b))
def P8(a:Int):Option (D0):=(s6 a W0 1 ([]:D0)).bind (λb=>some b)
def j4(d:D0)(h:Int)(e:Int)(f:Int)(g:T2):Nat->Int->(List Int)->Option ((List Int))
 |0,_,_=>none
 |fuel+1,c,a=>(if(decide (c<((d.length:Nat):Int)))=true then(gi a h).bind λi=>(gi d c).bind λj=>(i8 (e,f,g) i j).bind λb=>(grd (H0 b)).bind λ_=>(chk (decide (b ≥ 0)) (B9 a b) false).bind λk=>(if(bif(decide (b ≥ 0))then(!k)else false)=true then(grd ((a.length + [b].length)*8<=140737488355328)).bind λ_=>(j4 d h e f g fuel (IntKind.i64.wrap (c+1)) (a ++ [b]))else(j4 d h e f g fuel (IntKind.i64.wrap (c+1)) a))else some (a))
def J5(g:D0)(d:Int)(e:Int)(f:T2):Nat->Int->(List Int)->Option ((List Int))
 |0,_,_=>none
 |fuel+1,a,b=>(some b.length).bind λc=>(grd (c<=9223372036854775807)).bind λ_=>(if(decide (a<((c:Nat):Int)))=true then(j4 g a d e f W0 0 b).bind (λh=>(J5 g d e f fuel (IntKind.i64.wrap (a+1)) h))else some (b))
def J8(d:j0):Option (D0):=match d with|(a,b,c)=>(F6 (a,b,c)).bind λe=>(if(!e)=true then some ([]:D0)else(P8 a).bind λf=>(J5 f a b c W0 0 [0]).bind (λg=>some g))
def n7(e:j0):Option (j0):=match e with|(a,b,c)=>(J8 (a,b,c)).bind λd=>(if(decide (((d.length:Nat):Int)=0))=true then(Q3 (a,b,c)).bind λf=>match f with|(g,h,i)=>some (g,h,i)else(H7 (a,b,c) d).bind λj=>match j with|(k,o)=>match k with|(l,m,n)=>some (l,m,n))
def x01(f:j0):Option (Bool):=match f with|(a,b,c)=>(F6 (a,b,c)).bind λd=>(chk d (w01 (a,b,c)) 0).bind λe=>(grd (H0 e)).bind λl=>(chk (bif d then(decide (e<0))else false) (n7 (a,b,c)) (0,0,[])).bind λg=>match g with|(h,i,j)=>(chk (bif d then(decide (e<0))else false) (R9 (h,i,j) (a,b,c)) false).bind λk=>some (bif(bif d then(decide (e<0))else false)then k else false)
def s00(a:j0):Option (Bool):=match a with|(b,c,d)=>(x01 (b,c,d)).bind λe=>some e
def l01(a:D0):Option (D0):=(grd ((([]:D0).length+a.length)*8<=140737488355328)).bind λ_=>some (([]:D0)++a)
def m01(a:Int):Option (j0×Bool):=(j5 a 1 3).bind λb=>(if(!b)=true then some ((0,0,[]),false)else some ((a,1,[]),true))
def K5(a:D0)(d:Int):Nat->Int->Int->Int->Int->T2->Option (Int×Int×T2)
 |0,_,_,_,_,_=>none
 |fuel+1,g,b,e,c,f=>(if(decide (b<((a.length:Nat):Int)))=true then(if(decide ((IntKind.i64.wrap (b+1))<((a.length:Nat):Int)))=true then(gi a b).bind λh=>(if(decide (h>0))=true then(gi a b).bind λi=>(j8 f (g,i,c)).bind λj=>(K5 a d fuel c (IntKind.i64.wrap (b+1)) e (IntKind.i64.wrap (c+1)) j)else(gi a b).bind λk=>(j8 f (c,(IntKind.i64.wrap (0-k)),g)).bind λl=>(K5 a d fuel c (IntKind.i64.wrap (b+1)) e (IntKind.i64.wrap (c+1)) l))else(gi a b).bind λm=>(if(decide (m>0))=true then(gi a b).bind λn=>(j8 f (g,n,d)).bind λo=>(K5 a d fuel d (IntKind.i64.wrap (b+1)) e c o)else(gi a b).bind λp=>(j8 f (d,(IntKind.i64.wrap (0-p)),g)).bind λq=>(K5 a d fuel d (IntKind.i64.wrap (b+1)) e c q)))else some (e,c,f))
def Y9(n:j0)(g:Int)(b:D0)(h:Int):Option (j0×Bool):=match n with|(d,a,e)=>(Q3 (d,a,e)).bind λo=>match o with|(i,j,k)=>(K4 (d,a,e)).bind λc=>(chk (!(!c)) (j5 g 0 (IntKind.i64.wrap (a-1))) false).bind λf=>(chk (!(bif(!c)then true else(!f))) (j5 h 0 (IntKind.i64.wrap (a-1))) false).bind λl=>(chk (!(bif(bif(!c)then true else(!f))then true else(!l))) (T8 d b) false).bind λp=>(if(bif(bif(bif(bif(bif(bif(!c)then true else(!f))then true else(!l))then true else(!p))then true else(decide (((b.length:Nat):Int)=0)))then true else(decide ((IntKind.i64.wrap ((IntKind.i64.wrap (a+((b.length:Nat):Int)))-1))>40)))then true else(decide ((IntKind.i64.wrap (((e.length:Nat):Int)+((b.length:Nat):Int)))>120)))=true then some ((i,j,k),false)else(K5 b h W0 g 0 i j k).bind (λm=>match m with|(y68,y69,y70)=>some ((y68,y69,y70),true)))
def n01(a:j0)(e:D0):Option (j0×Bool):=match a with|(b,c,d)=>(Y9 (b,c,d) 0 e 0).bind λf=>match f with|(g,k)=>match g with|(h,i,j)=>some ((h,i,j),k)
def c7(a:L1):Nat->Int->Int->Int->T2->Option (Int×Int×T2)
 |0,_,_,_,_=>none
 |fuel+1,b,u8,d,c=>(if(decide (b<((a.length:Nat):Int)))=true then(gi a b).bind λe=>(n01 (u8,d,c) e).bind λf=>match f with|(g,k)=>match g with|(h,i,j)=>(c7 a fuel (IntKind.i64.wrap (b+1)) h i j)else some (u8,d,c))
def o01(a:Int)(b:L1):Option (j0×Bool):=(j00 a b).bind λd=>(if(!d)=true then some ((0,0,[]),false)else(m01 a).bind λe=>match e with|(f,j)=>match f with|(g,h,i)=>(c7 b W0 0 g h i).bind (λc=>match c with|(y35,y36,y37)=>some ((y35,y36,y37),true)))
def d5(f:T2)(g:Int):Nat->Int->(List Z8)->Option ((List Z8))
 |0,_,_=>none
 |fuel+1,u8,e=>(if(decide (u8<((f.length:Nat):Int)))=true then(gi f g).bind λj=>match j with|(c,h,a)=>(gi f u8).bind λk=>match k with|(d,i,b)=>(if(bif(decide (h=i))then(decide (c=d))else false)=true then(grd ((e.length+([((if b<a then b else a),(if b>a then b else a))]).length)*16<=140737488355328)).bind λ_=>(if(bif(decide (h=i))then(decide (a=b))else false)=true then(grd (((e ++ [((if b<a then b else a),(if b>a then b else a))]).length+([((if d<c then d else c),(if d>c then d else c))]).length)*16<=140737488355328)).bind λ_=>(d5 f g fuel (IntKind.i64.wrap (u8+1)) ((e ++ [((if b<a then b else a),(if b>a then b else a))]) ++ [((if d<c then d else c),(if d>c then d else c))]))else(d5 f g fuel (IntKind.i64.wrap (u8+1)) (e ++ [((if b<a then b else a),(if b>a then b else a))])))else(if(bif(decide (h=i))then(decide (a=b))else false)=true then(grd ((e.length+([((if d<c then d else c),(if d>c then d else c))]).length)*16<=140737488355328)).bind λ_=>(d5 f g fuel (IntKind.i64.wrap (u8+1)) (e ++ [((if d<c then d else c),(if d>c then d else c))]))else(d5 f g fuel (IntKind.i64.wrap (u8+1)) e)))else some (e))
def I7(b:T2):Nat->Int->(List Z8)->Option ((List Z8))
 |0,_,_=>none
 |fuel+1,a,c=>(if(decide (a<((b.length:Nat):Int)))=true then(d5 b a W0 (IntKind.i64.wrap (a+1)) c).bind (λd=>(I7 b fuel (IntKind.i64.wrap (a+1)) d))else some (c))
def R01(a:j0):Option (A02):=match a with|(d,e,b)=>(I7 b W0 0 ([]:A02)).bind (λc=>some c)
def H9(e:j0):Option (Z8×Bool):=match e with|(a,b,c)=>(K4 (a,b,c)).bind λf=>(if(!f)=true then some ((0,0),false)else(R01 (a,b,c)).bind λd=>(if(decide (((d.length:Nat):Int)=0))=true then some ((0,0),false)else(gi d 0).bind λg=>match g with|(h,i)=>some ((h,i),true)))
def c02(a:Int)(d:Z8):Option (Int):=match d with|(b,c)=>(if(decide (a=c))=true then(if(decide (b>c))=true then some (IntKind.i64.wrap (b-1))else some b)else(if(decide (a>c))=true then some (IntKind.i64.wrap (a-1))else some a))
def s5(a:T2)(b:Int)(c:Int):Nat->Int->Int->Int->T2->Option (Int×Int×T2)
 |0,_,_,_,_=>none
 |fuel+1,d,u8,f,e=>(if(decide (d<((a.length:Nat):Int)))=true then(gi a d).bind λi=>match i with|(j,k,l)=>(c02 j (b,c)).bind λg=>(grd (H0 g)).bind λn=>(c02 l (b,c)).bind λh=>(grd (H0 h)).bind λo=>(j8 e (g,k,h)).bind λm=>(s5 a b c fuel (IntKind.i64.wrap (d+1)) u8 f m)else some (u8,f,e))
def J7(g:j0)(h:Z8):Option (j0×Bool):=match g with|(b,a,c)=>match h with|(d,e)=>(K4 (b,a,c)).bind λi=>(if(bif(bif(bif(!i)then true else(decide (d<0)))then true else(decide (d ≥ e)))then true else(decide (e ≥ a)))=true then(Q3 (b,a,c)).bind λj=>match j with|(k,l,m)=>some ((k,l,m),false)else(s5 c d e W0 0 b (IntKind.i64.wrap (a-1)) ([]:T2)).bind (λf=>match f with|(y29,y30,y31)=>some ((y29,y30,y31),true)))
def p01(f:j0):Option (j0×Z8×Bool):=match f with|(a,b,c)=>(H9 (a,b,c)).bind λg=>match g with|(h,i)=>match h with|(d,e)=>(if(!i)=true then(Q3 (a,b,c)).bind λj=>match j with|(k,l,m)=>some ((k,l,m),(0,0),false)else(J7 (a,b,c) (d,e)).bind λn=>match n with|(o,t)=>match o with|(p,q,s)=>some ((p,q,s),(d,e),true))
def J6:Nat->Int->Int->Int->T2->(List Z8)->Option ((j0×A02) ⊕ (Int×Int×T2×(List Z8)))
 |0,_,_,_,_,_=>none
 |fuel+1,d,b,c,u8,a=>(if(decide (d<40))=true then(p01 (b,c,u8)).bind λg=>match g with|(h,l,m)=>match h with|(i,j,k)=>match l with|(e,f)=>(if(!m)=true then some (.inl ((b,c,u8),a))else(grd ((a.length+([(e,f)]).length)*16<=140737488355328)).bind λ_=>(J6 fuel (IntKind.i64.wrap (d+1)) i j k (a ++ [(e,f)])))else some (.inr (b,c,u8,a)))
def n8(c:j0):Option (j0×A02):=match c with|(d,e,f)=>(Q3 (d,e,f)).bind λg=>match g with|(h,i,j)=>(J6 W0 0 h i j ([]:A02)).bind λb=>p7 b (λa=>match a with|(y27,y28,y29,y30)=>some ((y27,y28,y29),y30))
def I9(f:j0):Option (j0×Bool):=match f with|(b,a,c)=>(Q3 (b,a,c)).bind λg=>match g with|(d,h,e)=>(K4 (b,a,c)).bind λi=>(if(bif(!i)then true else(decide (a ≥ 40)))=true then some ((d,h,e),false)else some ((d,(IntKind.i64.wrap (a+1)),e),true))
def Z9(k:j0)(l:Q0):Option (j0×Bool):=match k with|(b,c,a)=>match l with|(d,e,f)=>(Q3 (b,c,a)).bind λm=>match m with|(g,h,n)=>(K4 (b,c,a)).bind λi=>(chk (!(!i)) (v01 (b,c,a) (d,e,f)) false).bind λo=>(if(bif(bif(!i)then true else(!o))then true else(decide (((a.length:Nat):Int) ≥ 120)))=true then some ((g,h,n),false)else(j8 a (d,e,f)).bind λj=>some ((g,h,j),(decide (((j.length:Nat):Int)>((a.length:Nat):Int)))))
def n4(c:D0)(e:Int)(f:Int)(g:T2)(b:Int):Nat->Int->(List Q0)->Option ((List Q0))
 |0,_,_=>none
 |fuel+1,a,d=>(if(decide (a<((c.length:Nat):Int)))=true then(gi c a).bind λj=>(i8 (e,f,g) b j).bind λh=>(grd (H0 h)).bind λ_=>(if(decide (h<0))=true then(gi c a).bind λi=>(grd ((d.length+([(b,i,(-1))]).length)*24<=140737488355328)).bind λ_=>(n4 c e f g b fuel (IntKind.i64.wrap (a+1)) (d ++ [(b,i,(-1))]))else(n4 c e f g b fuel (IntKind.i64.wrap (a+1)) d))else some (d))
def C5(a:Int)(b:Int)(d:T2):Nat->Int->(List Q0)->Option ((List Q0))
 |0,_,_=>none
 |fuel+1,c,e=>(chk (decide (c<a)) (F6 (b,a,d)) false).bind λf=>(if(bif(decide (c<a))then f else false)=true then(P8 b).bind λg=>(n4 g b a d c W0 0 e).bind (λh=>(C5 a b d fuel (IntKind.i64.wrap (c+1)) h))else some (e))
def A8(a:j0):Option (T2):=match a with|(b,c,d)=>(C5 c b d W0 0 ([]:T2)).bind (λe=>some e)
def R5(c:L1)(d:Int)(e:Int)(f:T2)(a:Int):Nat->Int->Option ((Int×Int) ⊕ (Unit))
 |0,_=>none
 |fuel+1,b=>(if(decide (b<((c.length:Nat):Int)))=true then(gi c b).bind λh=>(k00 (d,e,f) a h).bind λi=>match i with|(g,j)=>(grd (H0 g)).bind λk=>(if(bif(!j)then true else(!decide (g=a)))=true then some (.inl (a,b))else(R5 c d e f a fuel (IntKind.i64.wrap (b+1))))else some (.inr ()))
def G4(a:Int)(d:Int)(e:L1)(c:Int)(f:T2):Nat->Int->Option ((Int×Int) ⊕ (Unit))
 |0,_=>none
 |fuel+1,b=>(chk (decide (b<a)) (W2 (d,e)) false).bind λg=>(chk (bif(decide (b<a))then g else false) (F6 (c,a,f)) false).bind λi=>(if(bif(bif(bif(decide (b<a))then g else false)then i else false)then(decide (d=c))else false)=true then(R5 e c a f b W0 0).bind λh=>S0a h (λ_=>(G4 a d e c f fuel (IntKind.i64.wrap (b+1))))else some (.inr ()))
def Q8(b:l0)(e:j0):Option (Int×Int):=match b with|(c,d)=>match e with|(f,g,h)=>(G4 g c d f h W0 0).bind λa=>p7 a (λ_=>some ((-1),(-1)))
def a00(m:l0)(n:j0):Option (j0×Bool×Bool):=match m with|(f,g)=>match n with|(b,a,c)=>(W2 (f,g)).bind λh=>(chk (!(!h)) (F6 (b,a,c)) false).bind λw=>(if(bif(bif(!h)then true else(!w))then true else(!decide (f=b)))=true then(Q3 (b,a,c)).bind λG=>match G with|(S,T,U)=>some ((S,T,U),false,false)else(Q8 (f,g) (b,a,c)).bind λad=>match ad with|(e,l)=>(grd (H0 e)).bind λ_=>(grd (H0 l)).bind λ_=>(if(decide (e ≥ 0))=true then(gi g l).bind λo=>(Y9 (b,a,c) e o e).bind λp=>match p with|(q,v)=>match q with|(s,t,u)=>(if(!v)=true then(Q3 (b,a,c)).bind λx=>match x with|(y,z,A)=>some ((y,z,A),false,false)else(n8 (s,t,u)).bind λB=>match B with|(C,aC)=>match C with|(D,E,F)=>some ((D,E,F),true,true))else(A8 (b,a,c)).bind λd=>(if(decide (((d.length:Nat):Int)=0))=true then(Q3 (b,a,c)).bind λH=>match H with|(I,J,K)=>some ((I,J,K),false,true)else(I9 (b,a,c)).bind λL=>match L with|(M,N)=>match M with|(i,j,k)=>(if(!N)=true then(Q3 (b,a,c)).bind λO=>match O with|(P,Q,R)=>some ((P,Q,R),false,false)else(gi d 0).bind λV=>match V with|(W,aD,aE)=>(gi d 0).bind λX=>match X with|(aF,Y,aG)=>(gi d 0).bind λZ=>match Z with|(aH,aa,aJ)=>(if(decide (aa<0))=true then(gi d 0).bind λab=>match ab with|(aK,ac,aL)=>(gi d 0).bind λae=>match ae with|(af,aM,aN)=>(Z9 (i,j,k) (a,(IntKind.i64.wrap (0-ac)),af)).bind λag=>match ag with|(ah,al)=>match ah with|(ai,aj,ak)=>(if(!al)=true then(Q3 (b,a,c)).bind λam=>match am with|(an,ao,ap)=>some ((an,ao,ap),false,false)else some ((ai,aj,ak),true,true))else(Z9 (i,j,k) (W,Y,a)).bind λaq=>match aq with|(ar,ax)=>match ar with|(au,av,aw)=>(if(!ax)=true then(Q3 (b,a,c)).bind λay=>match ay with|(az,aA,aB)=>some ((az,aA,aB),false,false)else some ((au,av,aw),true,true)))))))
def U5(e:Int)(f:Int)(d:D0):Nat->Int->(List Int)->(List Int)->Option ((List Int)×(List Int))
 |0,_,_,_=>none
 |fuel+1,a,b,c=>(if(decide (a<e))=true then(if(!decide (a=f))=true then(grd ((b.length + [a].length)*8<=140737488355328)).bind λ_=>(gi d a).bind λg=>(grd ((c.length + [g].length)*8<=140737488355328)).bind λ_=>(U5 e f d fuel (IntKind.i64.wrap (a+1)) (b ++ [a]) (c ++ [g]))else(U5 e f d fuel (IntKind.i64.wrap (a+1)) b c))else some (b,c))
def t6(g:Int)(h:Int)(i:T2):Nat->D0->Int->Int->Int->T2->Option ((j0×D0) ⊕ (D0×Int×Int×T2))
 |0,_,_,_,_,_=>none
 |fuel+1,d,e,b,a,c=>(chk (decide (e<40)) (K4 (g,h,i)) false).bind λk=>(if(bif(decide (e<40))then k else false)=true then(w01 (b,a,c)).bind λf=>(grd (H0 f)).bind λ_=>(if(decide (f<0))=true then some (.inl ((b,a,c),d))else(U5 a f d W0 0 ([]:D0) ([]:D0)).bind (λj=>match j with|(y52,y53)=>(H7 (b,a,c) y52).bind λl=>match l with|(m,q)=>match m with|(n,o,p)=>(t6 g h i fuel y53 (IntKind.i64.wrap (e+1)) n o p)))else some (.inr (d,b,a,c)))
def w6(b:Int)(d:Int)(e:T2):Nat->Int->(List Int)->Option ((List Int))
 |0,_,_=>none
 |fuel+1,a,c=>(chk (decide (a<b)) (K4 (d,b,e)) false).bind λf=>(if(bif(decide (a<b))then f else false)=true then(grd ((c.length + [a].length)*8<=140737488355328)).bind λ_=>(w6 b d e fuel (IntKind.i64.wrap (a+1)) (c ++ [a]))else some (c))
def O00(f:j0):Option (j0×D0):=match f with|(a,b,c)=>(Q3 (a,b,c)).bind λg=>match g with|(h,i,j)=>(w6 b a c W0 0 ([]:D0)).bind (λk=>(t6 a b c W0 k 0 h i j).bind λe=>p7 e (λd=>match d with|(y132,y133,y134,y135)=>some ((y133,y134,y135),y132)))
def J9(a:j0):Option (j0):=match a with|(b,c,d)=>(n8 (b,c,d)).bind λe=>match e with|(f,t)=>match f with|(g,h,i)=>(O00 (g,h,i)).bind λj=>match j with|(k,u)=>match k with|(l,m,n)=>(n7 (l,m,n)).bind λo=>match o with|(p,q,s)=>some (p,q,s)
def O3(c:D0):Nat->Int->(List Int)->Option ((List Int))
 |0,_,_=>none
 |fuel+1,a,b=>(if(decide (a ≥ 0))=true then(gi c a).bind λd=>(grd ((b.length+([(IntKind.i64.wrap (0-d))]).length)*8<=140737488355328)).bind λ_=>(O3 c fuel (IntKind.i64.wrap (a-1)) (b ++ [(IntKind.i64.wrap (0-d))]))else some (b))
def S3(a:D0):Option (D0):=(O3 a W0 (IntKind.i64.wrap (((a.length:Nat):Int)-1)) ([]:D0)).bind (λb=>some b)
def C3(c:D0):Nat->Int->(List Int)->Option ((List Int))
 |0,_,_=>none
 |fuel+1,d,b=>(if(decide (d<((c.length:Nat):Int)))=true then(some b.length).bind λa=>(grd (a<=9223372036854775807)).bind λ_=>(chk (decide (((a:Nat):Int)>0)) (gi c d) 0).bind λe=>(chk (bif(decide (((a:Nat):Int)>0))then(!decide (e=0))else false) (gi b (IntKind.i64.wrap (((a:Nat):Int)-1))) 0).bind λf=>(chk (bif(decide (((a:Nat):Int)>0))then(!decide (e=0))else false) (gi c d) 0).bind λg=>(chk (bif(bif(decide (((a:Nat):Int)>0))then(!decide (e=0))else false)then(decide (f=(IntKind.i64.wrap (0-g))))else false) (gi b (IntKind.i64.wrap (((a:Nat):Int)-1))) 0).bind λi=>(chk (bif(bif(decide (((a:Nat):Int)>0))then(!decide (e=0))else false)then(decide (f=(IntKind.i64.wrap (0-g))))else false) (gi c d) 0).bind λj=>(if(bif(bif(bif(decide (((a:Nat):Int)>0))then(!decide (e=0))else false)then(decide (f=(IntKind.i64.wrap (0-g))))else false)then(!decide (i=j))else false)=true then(grd (0<=(IntKind.i64.wrap (((a:Nat):Int)-1))/\(IntKind.i64.wrap (((a:Nat):Int)-1))<=(b.length:Int))).bind λ_=>(C3 c fuel (IntKind.i64.wrap (d+1)) (b.take (IntKind.i64.wrap (((a:Nat):Int)-1)).toNat))else(gi c d).bind λh=>(grd ((b.length + [h].length)*8<=140737488355328)).bind λ_=>(C3 c fuel (IntKind.i64.wrap (d+1)) (b ++ [h])))else some (b))
def T1(b:D0):Option (D0):=(C3 b W0 0 ([]:D0)).bind (λa=>(grd ((([]:D0).length+a.length)*8<=140737488355328)).bind λ_=>some (([]:D0)++a))
def C2(a:D0)(b:D0):Option (D0):=(grd ((([]:D0).length+a.length)*8<=140737488355328)).bind λ_=>(grd (((([]:D0)++a).length+b.length)*8<=140737488355328)).bind λ_=>(T1 ((([]:D0)++a)++b)).bind λc=>some c
def L7(b:D0)(a:D0):Option (D0):=(S3 a).bind λc=>(C2 c b).bind λd=>(C2 d a).bind λe=>some e
def N4(c:C01)(d:Int)(b:L1):Nat->D0->Int->Option (D0)
 |0,_,_=>none
 |fuel+1,e,a=>(chk (bif(decide (a<((c.length:Nat):Int)))then(decide (a<20))else false) (W2 (d,b)) false).bind λi=>(if(bif(bif(decide (a<((c.length:Nat):Int)))then(decide (a<20))else false)then i else false)=true then(gi c a).bind λj=>match j with|(f,g,k)=>(j5 g 0 (IntKind.i64.wrap (((b.length:Nat):Int)-1))).bind λl=>(if l=true then(gi b g).bind λh=>(if(decide (k<0))=true then(S3 h).bind λm=>(L7 m f).bind λn=>(C2 e n).bind λo=>(N4 c d b fuel o (IntKind.i64.wrap (a+1)))else(L7 h f).bind λp=>(C2 e p).bind λq=>(N4 c d b fuel q (IntKind.i64.wrap (a+1))))else(N4 c d b fuel e (IntKind.i64.wrap (a+1))))else some (e))
def K9(a:l0)(d:C01):Option (D0):=match a with|(b,c)=>(N4 d b c W0 ([]:D0) 0).bind (λe=>some e)
def S6(c:D0):Nat->Int->(List Int)->Option ((List Int))
 |0,_,_=>none
 |fuel+1,a,b=>(if(decide (a ≥ 0))=true then(gi c a).bind λd=>(grd ((b.length+([(IntKind.i64.wrap (0-d))]).length)*8<=140737488355328)).bind λ_=>(S6 c fuel (IntKind.i64.wrap (a-1)) (b ++ [(IntKind.i64.wrap (0-d))]))else some (b))
def d7(a:D0):Option (D0):=(grd ((0:Int)<=0/\0<=((a.length:Nat):Int)/\((a.length:Nat):Int)*8<=140737488355328/\((a.length:Nat):Int)<=9223372036854775807)).bind λ_=>(S6 a W0 (IntKind.i64.wrap (((a.length:Nat):Int)-1)) (List.replicate (0:Int).toNat (0:Int))).bind (λb=>some b)
def K6(e:D0):Nat->Int->(List Int)->Option ((List Int))
 |0,_,_=>none
 |fuel+1,d,a=>(if(decide (d<((e.length:Nat):Int)))=true then(gi e d).bind λf=>(some a.length).bind λb=>(grd (b<=9223372036854775807)).bind λ_=>(some a.length).bind λg=>(grd (g<=9223372036854775807)).bind λ_=>(chk (decide (((b:Nat):Int)>0)) (gi a (IntKind.i64.wrap (((g:Nat):Int)-1))) 0).bind λh=>(chk (decide (((b:Nat):Int)>0)) (g8 h f) false).bind λi=>(if(bif(decide (((b:Nat):Int)>0))then i else false)=true then(some a.length).bind λc=>(grd (c<=9223372036854775807)).bind λ_=>(grd (0<=(IntKind.i64.wrap (((c:Nat):Int)-1))/\(IntKind.i64.wrap (((c:Nat):Int)-1))<=(a.length:Int))).bind λ_=>(K6 e fuel (IntKind.i64.wrap (d+1)) (a.take (IntKind.i64.wrap (((c:Nat):Int)-1)).toNat))else(grd ((a.length + [f].length)*8<=140737488355328)).bind λ_=>(K6 e fuel (IntKind.i64.wrap (d+1)) (a ++ [f])))else some (a))
def M7(a:L1):Nat->Int->(List Int)->Option ((List Int))
 |0,_,_=>none
 |fuel+1,b,c=>(if(decide (b<((a.length:Nat):Int)))=true then(gi a b).bind λd=>(K6 d W0 0 c).bind (λe=>(M7 a fuel (IntKind.i64.wrap (b+1)) e))else some (c))
def d9(a:L1):Option (D0):=(M7 a W0 0 ([]:D0)).bind (λb=>some b)
def N7(b:D0)(a:D0):Option (D0):=(d7 a).bind λc=>(d9 ([c,b,a])).bind λd=>some d
def A5(d:C01)(b:L1):Nat->Int->(List D0)->Option ((List D0))
 |0,_,_=>none
 |fuel+1,c,a=>(if(decide (c<((d.length:Nat):Int)))=true then(gi d c).bind λj=>match j with|(e,f,k)=>(E00 f 0 (IntKind.i64.wrap (((b.length:Nat):Int)-1))).bind λl=>(if(!l)=true then(A5 d b fuel (IntKind.i64.wrap (c+1)) a)else(gi b f).bind λg=>(if(decide (k<0))=true then(d7 g).bind λm=>(N7 m e).bind λh=>(grd ((a.length + [h].length)*24<=140737488355328)).bind λ_=>(A5 d b fuel (IntKind.i64.wrap (c+1)) (a ++ [h]))else(N7 g e).bind λi=>(grd ((a.length + [i].length)*24<=140737488355328)).bind λ_=>(A5 d b fuel (IntKind.i64.wrap (c+1)) (a ++ [i]))))else some (a))
def P00(c:l0)(a:C01):Option (D0):=match c with|(d,b)=>(B5 (d,b)).bind λe=>(if(!e)=true then some ([]:D0)else(X02 a 0 (if 20<((a.length:Nat):Int)then 20 else((a.length:Nat):Int))).bind λg=>(A5 g b W0 0 ([]:L1)).bind (λh=>(d9 h).bind λf=>some f))
def W3(a:Int)(b:L1):Nat->Int->Int->Int->T2->Option ((j0×Bool) ⊕ (Int×Int×T2))
 |0,_,_,_,_=>none
 |fuel+1,c,d,e,f=>(if(decide (c<300))=true then(a00 (a,b) (d,e,f)).bind λj=>match j with|(k,l,m)=>match k with|(g,h,i)=>(if(!m)=true then some (.inl ((0,0,[]),false))else(if(!l)=true then(J9 (g,h,i)).bind λn=>match n with|(o,p,q)=>some (.inl ((o,p,q),true))else(W3 a b fuel (IntKind.i64.wrap (c+1)) g h i)))else some (.inr (d,e,f)))
def o8(f:l0)(g:L1):Option (j0×Bool):=match f with|(a,b)=>(o01 a g).bind λh=>match h with|(i,c)=>match i with|(j,k,l)=>(chk (!(!c)) (W2 (a,b)) false).bind λm=>(if(bif(!c)then true else(!m))=true then some ((0,0,[]),false)else(n8 (j,k,l)).bind λn=>match n with|(o,t)=>match o with|(p,q,s)=>(W3 a b W0 0 p q s).bind λe=>p7 e (λd=>match d with|(y26,y27,y28)=>some ((0,0,[]),false)))
def l00(e:j0)(f:D0):Option (Bool):=match e with|(a,b,c)=>(T1 f).bind λg=>(k00 (a,b,c) 0 g).bind λi=>match i with|(d,j)=>(grd (H0 d)).bind λk=>(s00 (a,b,c)).bind λh=>some (bif(bif h then j else false)then(decide (d=0))else false)
def A7(d:l0)(b:D0):Option (Bool×Bool):=match d with|(a,e)=>(o8 (a,e) ([]:L1)).bind λg=>match g with|(h,c)=>match h with|(i,j,k)=>(chk (!(!c)) (T8 a b) false).bind λl=>(if(bif(!c)then true else(!l))=true then some (false,false)else(l00 (i,j,k) b).bind λf=>some (f,true))
def O7(a:D0):Option (D0):=(d9 [a]).bind λb=>some b
def g6(b:D0)(c:D0):Nat->Int->Option ((Bool) ⊕ (Unit))
 |0,_=>none
 |fuel+1,a=>(if(decide (a<((b.length:Nat):Int)))=true then(gi b a).bind λd=>(gi c a).bind λe=>(if(!decide (d=e))=true then some (.inl false)else(g6 b c fuel (IntKind.i64.wrap (a+1))))else some (.inr ()))
def E01(a:D0)(b:D0):Option (Bool):=(if(!decide (((a.length:Nat):Int)=((b.length:Nat):Int)))=true then some false else(g6 a b W0 0).bind λc=>p7 c (λ_=>some true))
def U01(a:Int)(b:Int):Option (Int):=(if(decide (a=b))=true then some 0 else(if(bif(bif(decide ((if(IntKind.i64.wrap (0-a))>a then(IntKind.i64.wrap (0-a))else a)<0))then true else(bif(decide ((if(IntKind.i64.wrap (0-b))>b then(IntKind.i64.wrap (0-b))else b) ≥ 0))then(decide ((if(IntKind.i64.wrap (0-a))>a then(IntKind.i64.wrap (0-a))else a)>(if(IntKind.i64.wrap (0-b))>b then(IntKind.i64.wrap (0-b))else b)))else false))then true else(bif(decide ((if(IntKind.i64.wrap (0-a))>a then(IntKind.i64.wrap (0-a))else a)=(if(IntKind.i64.wrap (0-b))>b then(IntKind.i64.wrap (0-b))else b)))then(decide (a<b))else false))=true then some 1 else some (-1)))
def I3(b:D0)(d:D0):Nat->Int->Option ((Int) ⊕ (Unit))
 |0,_=>none
 |fuel+1,a=>(if(decide (a<((b.length:Nat):Int)))=true then(gi b a).bind λe=>(gi d a).bind λf=>(U01 e f).bind λc=>(grd (H0 c)).bind λ_=>(if(!decide (c=0))=true then some (.inl c)else(I3 b d fuel (IntKind.i64.wrap (a+1))))else some (.inr ()))
def C8(a:D0)(b:D0):Option (Int):=(if(!decide (((a.length:Nat):Int)=((b.length:Nat):Int)))=true then(if(decide (((a.length:Nat):Int)<((b.length:Nat):Int)))=true then some (-1)else some 1)else(I3 a b W0 0).bind λc=>p7 c (λ_=>some 0))
def K8(a:Int)(b:Int):Option (Int):=(if(decide (a=b))=true then some 0 else(if(decide (a=(-9223372036854775808)))=true then some 1 else(if(decide (b=(-9223372036854775808)))=true then some (-1)else(w7 (if(IntKind.i64.wrap (0-a))>a then(IntKind.i64.wrap (0-a))else a) (if(IntKind.i64.wrap (0-b))>b then(IntKind.i64.wrap (0-b))else b)).bind λc=>(grd (H0 c)).bind λ_=>(if(!decide (c=0))=true then some c else(w7 b a).bind λd=>(grd (H0 d)).bind λ_=>some d))))
def O4(b:D0)(d:D0):Nat->Int->Option ((Int) ⊕ (Unit))
 |0,_=>none
 |fuel+1,a=>(if(decide (a<((b.length:Nat):Int)))=true then(gi b a).bind λf=>(gi d a).bind λe=>(K8 f e).bind λc=>(grd (H0 c)).bind λ_=>(if(!decide (c=0))=true then some (.inl c)else(O4 b d fuel (IntKind.i64.wrap (a+1))))else some (.inr ()))
def I00(b:D0)(c:D0):Option (Int):=(w7 ((b.length:Nat):Int) ((c.length:Nat):Int)).bind λa=>(grd (H0 a)).bind λ_=>(if(!decide (a=0))=true then some a else(O4 b c W0 0).bind λd=>p7 d (λ_=>some 0))
def i6(a:D0)(d:Int):Nat->Int->(List Int)->Option ((List Int))
 |0,_,_=>none
 |fuel+1,b,c=>(if(decide (b<((a.length:Nat):Int)))=true then(grd (((a.length:Nat):Int)≠0)).bind λ_=>(grd (((a.length:Nat):Int)≠0)).bind λ_=>(grd (((a.length:Nat):Int)≠0)).bind λ_=>(gi a (Int.tmod (IntKind.i64.wrap ((Int.tmod (IntKind.i64.wrap (b+(Int.tmod d ((a.length:Nat):Int)))) ((a.length:Nat):Int))+((a.length:Nat):Int))) ((a.length:Nat):Int))).bind λe=>(grd ((c.length + [e].length)*8<=140737488355328)).bind λ_=>(i6 a d fuel (IntKind.i64.wrap (b+1)) (c ++ [e]))else some (c))
def o9(a:D0)(b:Int):Option (D0):=(i6 a b W0 0 ([]:D0)).bind (λc=>some c)
def J4(c:L1)(a:D0):Nat->Bool->Int->(List D0)->Option (Bool×(List D0))
 |0,_,_,_=>none
 |fuel+1,f,d,b=>(if(decide (d<((c.length:Nat):Int)))=true then(gi c d).bind λk=>(C8 a k).bind λe=>(grd (H0 e)).bind λ_=>(if(decide (e=0))=true then(if(bif(decide (e<0))then(!true)else false)=true then(grd ((([]:D0).length+a.length)*8<=140737488355328)).bind λ_=>(grd ((b.length+([(([]:D0)++a)]).length)*24<=140737488355328)).bind λ_=>(gi c d).bind λg=>(grd (((b ++ [(([]:D0)++a)]).length + [g].length)*24<=140737488355328)).bind λ_=>(J4 c a fuel true (IntKind.i64.wrap (d+1)) ((b ++ [(([]:D0)++a)]) ++ [g]))else(gi c d).bind λh=>(grd ((b.length + [h].length)*24<=140737488355328)).bind λ_=>(J4 c a fuel true (IntKind.i64.wrap (d+1)) (b ++ [h])))else(if(bif(decide (e<0))then(!f)else false)=true then(grd ((([]:D0).length+a.length)*8<=140737488355328)).bind λ_=>(grd ((b.length+([(([]:D0)++a)]).length)*24<=140737488355328)).bind λ_=>(gi c d).bind λi=>(grd (((b ++ [(([]:D0)++a)]).length + [i].length)*24<=140737488355328)).bind λ_=>(J4 c a fuel true (IntKind.i64.wrap (d+1)) ((b ++ [(([]:D0)++a)]) ++ [i]))else(gi c d).bind λj=>(grd ((b.length + [j].length)*24<=140737488355328)).bind λ_=>(J4 c a fuel f (IntKind.i64.wrap (d+1)) (b ++ [j]))))else some (f,b))
def z01(c:L1)(a:D0):Option (L1):=(J4 c a W0 false 0 ([]:L1)).bind (λb=>match b with|(y53,y54)=>(if(!y53)=true then(grd ((([]:D0).length+a.length)*8<=140737488355328)).bind λ_=>(grd ((y54.length+([(([]:D0)++a)]).length)*24<=140737488355328)).bind λ_=>some (y54 ++ [(([]:D0)++a)])else some y54))
def U4(b:D0):Nat->L1->Int->Option (L1)
 |0,_,_=>none
 |fuel+1,c,a=>(if(decide (a<((b.length:Nat):Int)))=true then(o9 b a).bind λd=>(z01 c d).bind λe=>(o9 b a).bind λf=>(S3 f).bind λg=>(z01 e g).bind λh=>(U4 b fuel h (IntKind.i64.wrap (a+1)))else some (c))
def R3(a:L1)(c:Int):Nat->L1->Int->Option (L1)
 |0,_,_=>none
 |fuel+1,d,b=>(chk (decide (b<((a.length:Nat):Int))) (W2 (c,a)) false).bind λe=>(if(bif(decide (b<((a.length:Nat):Int)))then e else false)=true then(gi a b).bind λf=>(U4 f W0 d 0).bind (λg=>(R3 a c fuel g (IntKind.i64.wrap (b+1))))else some (d))
def D5(a:l0):Option (L1):=match a with|(b,c)=>(R3 c b W0 ([]:L1) 0).bind (λd=>some d)
def B7(b:D0)(c:D0):Nat->Int->Option (Int)
 |0,_=>none
 |fuel+1,a=>(chk (bif(decide (a<((b.length:Nat):Int)))then(decide (a<((c.length:Nat):Int)))else false) (gi b a) 0).bind λd=>(chk (bif(decide (a<((b.length:Nat):Int)))then(decide (a<((c.length:Nat):Int)))else false) (gi c a) 0).bind λe=>(if(bif(bif(decide (a<((b.length:Nat):Int)))then(decide (a<((c.length:Nat):Int)))else false)then(decide (d=e))else false)=true then(B7 b c fuel (IntKind.i64.wrap (a+1)))else some (a))
def R8(a:D0)(b:D0):Option (Int):=(B7 a b W0 0).bind (λc=>some c)
def E5(c:Int)(d:L1):Nat->Int->Int->Option (Int)
 |0,_,_=>none
 |fuel+1,a,b=>(if(decide (b<c))=true then(gi d c).bind λf=>(gi d b).bind λg=>(R8 f g).bind λe=>(grd (H0 e)).bind λ_=>(E5 c d fuel (if e>a then e else a) (IntKind.i64.wrap (b+1)))else some (a))
def F5(b:L1):Nat->Int->Int->Option (Int)
 |0,_,_=>none
 |fuel+1,c,a=>(if(decide (a<((b.length:Nat):Int)))=true then(E5 a b W0 c 0).bind (λd=>(F5 b fuel d (IntKind.i64.wrap (a+1))))else some (c))
def w9(a:l0):Option (Int):=match a with|(b,c)=>(D5 (b,c)).bind λd=>(F5 d W0 0 0).bind (λe=>some e)
def P7(c:L1)(b:Int):Nat->Int->Option ((Bool) ⊕ (Unit))
 |0,_=>none
 |fuel+1,a=>(if(decide (a<((c.length:Nat):Int)))=true then(chk (!decide (b=a)) (gi c b) []).bind λe=>(chk (!decide (b=a)) (gi c a) []).bind λf=>(chk (!decide (b=a)) (R8 e f) 0).bind λd=>(grd (H0 d)).bind λ_=>(chk (!decide (b=a)) (gi c b) []).bind λg=>(if(bif(!decide (b=a))then(decide ((IntKind.i64.wrap (6*d)) ≥ ((g.length:Nat):Int)))else false)=true then some (.inl false)else(P7 c b fuel (IntKind.i64.wrap (a+1))))else some (.inr ()))
def Q7(b:L1):Nat->Int->Option ((Bool) ⊕ (Unit))
 |0,_=>none
 |fuel+1,a=>(if(decide (a<((b.length:Nat):Int)))=true then(P7 b a W0 0).bind λc=>S0a c (λ_=>(Q7 b fuel (IntKind.i64.wrap (a+1))))else some (.inr ()))
def R00(d:l0):Option (Bool):=match d with|(a,b)=>(D5 (a,b)).bind λe=>(Q7 e W0 0).bind λc=>p7 c (λ_=>(W2 (a,b)).bind λf=>some f)
def v00(a:D0)(b:Int):Option (D0):=(if(decide (((a.length:Nat):Int)=0))=true then some ([]:D0)else(grd (((a.length:Nat):Int)≠0)).bind λ_=>(grd (((a.length:Nat):Int)≠0)).bind λ_=>(X02 a (Int.tmod (IntKind.i64.wrap ((Int.tmod b ((a.length:Nat):Int))+((a.length:Nat):Int))) ((a.length:Nat):Int)) (a.length:Int)).bind λe=>(X02 a 0 (Int.tmod (IntKind.i64.wrap ((Int.tmod b ((a.length:Nat):Int))+((a.length:Nat):Int))) ((a.length:Nat):Int))).bind λd=>(l01 e).bind λc=>(grd ((c.length+d.length)*8<=140737488355328)).bind λ_=>some (c++d))
def G6(b:D0)(c:D0):Nat->Int->Option (Int)
 |0,_=>none
 |fuel+1,a=>(chk (bif(decide (a<((b.length:Nat):Int)))then(decide (a<((c.length:Nat):Int)))else false) (gi b a) 0).bind λd=>(chk (bif(decide (a<((b.length:Nat):Int)))then(decide (a<((c.length:Nat):Int)))else false) (gi c a) 0).bind λe=>(if(bif(bif(decide (a<((b.length:Nat):Int)))then(decide (a<((c.length:Nat):Int)))else false)then(decide (d=e))else false)=true then(G6 b c fuel (IntKind.i64.wrap (a+1)))else some (a))
def D9(a:D0)(b:D0):Option (Int):=(G6 a b W0 0).bind (λc=>some c)
def E9(e:L1)(a:D0)(b:Int):Nat->Int->Option ((D0×Bool) ⊕ (Unit))
 |0,_=>none
 |fuel+1,f=>(if(decide (f<((e.length:Nat):Int)))=true then(gi e f).bind λc=>(X02 a b (a.length:Int)).bind λg=>(D9 g c).bind λd=>(grd (H0 d)).bind λ_=>(if(decide ((IntKind.i64.wrap (2*d))>((c.length:Nat):Int)))=true then(X02 a 0 b).bind λh=>(X02 c d (c.length:Int)).bind λi=>(d7 i).bind λj=>(X02 a (IntKind.i64.wrap (b+d)) (a.length:Int)).bind λk=>(some [h,j,k]).bind λl=>(d9 l).bind λm=>some (.inl (m,true))else(E9 e a b fuel (IntKind.i64.wrap (f+1))))else some (.inr ()))
def F9(a:D0)(c:L1):Nat->Int->Option ((D0×Bool) ⊕ (Unit))
 |0,_=>none
 |fuel+1,b=>(if(decide (b<((a.length:Nat):Int)))=true then(E9 c a b W0 0).bind λd=>S0a d (λ_=>(F9 a c fuel (IntKind.i64.wrap (b+1))))else some (.inr ()))
def V02(c:L1)(a:D0):Option (D0×Bool):=(F9 a c W0 0).bind λb=>p7 b (λ_=>some (a,false))
def g7(c:L1)(a:D0)(u8:Int):Nat->Int->Option ((D0×Bool) ⊕ (Unit))
 |0,_=>none
 |fuel+1,b=>(if(decide (b<((c.length:Nat):Int)))=true then(X02 a u8 (a.length:Int)).bind λf=>(gi c b).bind λg=>(R8 f g).bind λd=>(grd (H0 d)).bind λo=>(gi c b).bind λh=>(if(decide ((IntKind.i64.wrap (2*d))>((h.length:Nat):Int)))=true then(X02 a 0 u8).bind λi=>(gi c b).bind λe=>(X02 e d (e.length:Int)).bind λj=>(S3 j).bind λk=>(C2 i k).bind λl=>(X02 a (IntKind.i64.wrap (u8+d)) (a.length:Int)).bind λm=>(C2 l m).bind λn=>some (.inl (n,true))else(g7 c a u8 fuel (IntKind.i64.wrap (b+1))))else some (.inr ()))
def i7(a:D0)(b:L1):Nat->Int->Option ((D0×Bool) ⊕ (Unit))
 |0,_=>none
 |fuel+1,u8=>(if(decide (u8<((a.length:Nat):Int)))=true then(g7 b a u8 W0 0).bind λc=>S0a c (λ_=>(i7 a b fuel (IntKind.i64.wrap (u8+1))))else some (.inr ()))
def m00(c:l0)(f:D0):Option (D0×Bool):=match c with|(d,e)=>(T1 f).bind λa=>(D5 (d,e)).bind λg=>(i7 a g W0 0).bind λb=>p7 b (λ_=>some (a,false))
def j6(c:Int)(d:L1):Nat->D0->Int->Option ((D0×Int) ⊕ (D0))
 |0,_,_=>none
 |fuel+1,a,b=>(if(decide (b<500))=true then(m00 (c,d) a).bind λe=>match e with|(f,g)=>(if(!g)=true then some (.inl (a,b))else(j6 c d fuel f (IntKind.i64.wrap (b+1))))else some (.inr (a)))
def w00(b:l0)(e:D0):Option (D0×Int):=match b with|(c,d)=>(T1 e).bind λf=>(j6 c d W0 f 0).bind λa=>p7 a (λg=>some (g,500))
def V4(c:D0):Nat->Int->(List D0)->Option ((List D0))
 |0,_,_=>none
 |fuel+1,a,b=>(if(decide (a<((c.length:Nat):Int)))=true then(v00 c a).bind λd=>(grd ((b.length + [d].length)*24<=140737488355328)).bind λ_=>(V4 c fuel (IntKind.i64.wrap (a+1)) (b ++ [d]))else some (b))
def l4(c:D0)(d:D0):Nat->Int->(List D0)->Option ((List D0))
 |0,_,_=>none
 |fuel+1,a,b=>(if(decide (a<((2:Nat):Int)))=true then(gi [c,d] a).bind λe=>(V4 e W0 0 b).bind (λf=>(l4 c d fuel (IntKind.i64.wrap (a+1)) f))else some (b))
def Y4(a:L1):Nat->Int->(List D0)->Option ((List D0))
 |0,_,_=>none
 |fuel+1,u8,b=>(if(decide (u8<((a.length:Nat):Int)))=true then(gi a u8).bind λc=>(d7 c).bind λd=>(l4 c d W0 0 b).bind (λe=>(Y4 a fuel (IntKind.i64.wrap (u8+1)) e))else some (b))
def P4(c:l0):Option (L1):=match c with|(d,a)=>(B5 (d,a)).bind λe=>(if(!e)=true then some ([]:L1)else(Y4 a W0 0 ([]:L1)).bind (λb=>(grd (b.length<4611686018427387904)).bind λ_=>some (N02 eqW (Z08 J1 b))))
def G5(c:L1)(e:D0):Nat->Int->Int->Option (Int)
 |0,_,_=>none
 |fuel+1,a,b=>(if(decide (b<((c.length:Nat):Int)))=true then(gi c b).bind λf=>(D9 e f).bind λd=>(grd (H0 d)).bind λ_=>(G5 c e fuel (if d>a then d else a) (IntKind.i64.wrap (b+1)))else some (a))
def H5(a:L1):Nat->Int->Int->Option (Int)
 |0,_,_=>none
 |fuel+1,c,b=>(if(decide (b<((a.length:Nat):Int)))=true then(gi a b).bind λd=>(X02 a (IntKind.i64.wrap (b+1)) (a.length:Int)).bind λe=>(G5 e d W0 c 0).bind (λf=>(H5 a fuel f (IntKind.i64.wrap (b+1))))else some (c))
def z9(a:l0):Option (Int):=match a with|(b,c)=>(P4 (b,c)).bind λd=>(H5 d W0 0 0).bind (λe=>some e)
def R7(c:L1)(a:D0):Nat->Int->Option ((Bool) ⊕ (Unit))
 |0,_=>none
 |fuel+1,b=>(if(decide (b<((c.length:Nat):Int)))=true then(gi c b).bind λd=>(D9 a d).bind λe=>(grd (H0 e)).bind λ_=>(if(decide ((IntKind.i64.wrap (6*e)) ≥ (if((d.length:Nat):Int)<((a.length:Nat):Int)then((d.length:Nat):Int)else((a.length:Nat):Int))))=true then some (.inl false)else(R7 c a fuel (IntKind.i64.wrap (b+1))))else some (.inr ()))
def S7(a:L1):Nat->Int->Option ((Bool) ⊕ (Unit))
 |0,_=>none
 |fuel+1,b=>(if(decide (b<((a.length:Nat):Int)))=true then(gi a b).bind λd=>(X02 a (IntKind.i64.wrap (b+1)) (a.length:Int)).bind λe=>(R7 e d W0 0).bind λc=>S0a c (λ_=>(S7 a fuel (IntKind.i64.wrap (b+1))))else some (.inr ()))
def V01(d:l0):Option (Bool):=match d with|(a,b)=>(B5 (a,b)).bind λe=>(if(!e)=true then some false else(P4 (a,b)).bind λf=>(S7 f W0 0).bind λc=>p7 c (λ_=>some true))
def r01(a:l0)(d:D0):Option (D0×Bool):=match a with|(b,c)=>(P4 (b,c)).bind λe=>(O7 d).bind λf=>(V02 e f).bind λg=>match g with|(h,i)=>some (h,i)
def l6(b:L1):Nat->D0->Int->Option ((D0×Int) ⊕ (D0))
 |0,_,_=>none
 |fuel+1,u8,a=>(if(decide (a<500))=true then(V02 b u8).bind λc=>match c with|(d,e)=>(if(!e)=true then some (.inl (u8,a))else(l6 b fuel d (IntKind.i64.wrap (a+1))))else some (.inr (u8)))
def x00(b:l0)(e:D0):Option (D0×Int):=match b with|(c,d)=>(P4 (c,d)).bind λf=>(O7 e).bind λg=>(l6 f W0 g 0).bind λa=>p7 a (λh=>some (h,500))
def X0m(a b:Int):Int:=IntKind.i64.wrap ((BitVec.ofInt 64 a &&& BitVec.ofInt 64 b).toNat:Int)
def Y0u(a b:Int):Int:=IntKind.i64.wrap ((BitVec.ofInt 64 a ^^^ BitVec.ofInt 64 b).toNat:Int)
def j9(b:List Int):Nat->Int->Int->Option Int
 |0,_,_=>none
 |fuel+1,c,a=>if(bif decide (a<((b.length:Nat):Int))then decide (a<4000)else false)=true then(gi b a).bind λx=>j9 b fuel (X0m (IntKind.i64.wrap (IntKind.i64.wrap (IntKind.i64.wrap (c*131)+IntKind.i64.wrap x)+7)) 1073741823) (IntKind.i64.wrap (a+1))else some c
def d01(a:List Int):Option (Int×Int):=(j9 a W0 (IntKind.i64.wrap (10101+((a.length:Nat):Int))) 0).bind λy=>some (0,y)
def nxt(q:Int):Int:=IntKind.i64.wrap (IntKind.i64.wrap (q*6364136223846793005)+1442695040888963407)
def drw(q:Int):Int:=X0m (Y0u (Int.fdiv q (2 ^ min (33:Int).toNat 64)) (Int.fdiv q (2 ^ min (45:Int).toNat 64))) 255
def V8(a:List Int)(q:Int×Int):Option (Int×(Int×Int)) :=
 if decide (q.1<((a.length:Nat):Int))=true then(gi a q.1).bind λc=>some (X0m (IntKind.i64.wrap (drw (nxt q.2)+IntKind.i64.wrap c)) 255,(IntKind.i64.wrap (q.1+1),nxt q.2))else some (drw (nxt q.2),(q.1,nxt q.2))
def N3(b:List Int)(c:Int×Int)(a:Int):Option (Int×(Int×Int)):=(if(decide (a<=0))=true then some (0,c)else(if(decide (a<=256))=true then(V8 b c).bind λo=>match o with|(g,p)=>(grd (H0 g)).bind λ_=>(grd (a≠0)).bind λ_=>some ((Int.tmod g a),p)else(V8 b c).bind λq=>match q with|(h,s)=>(grd (H0 h)).bind λ_=>(V8 b s).bind λi=>match i with|(d,j)=>(grd (H0 d)).bind λ_=>(V8 b j).bind λk=>match k with|(e,l)=>(grd (H0 e)).bind λ_=>(V8 b l).bind λm=>match m with|(f,n)=>(grd (H0 f)).bind λ_=>(grd (a≠0)).bind λ_=>some ((Int.tmod (IntKind.i64.wrap ((IntKind.i64.wrap ((IntKind.i64.wrap ((IntKind.i64.wrap (h*16777216))+(IntKind.i64.wrap (d*65536))))+(IntKind.i64.wrap (e*256))))+f)) a),n)))
def B01(b:List Int)(c:Int×Int)(d:Int):Option (Bool×(Int×Int)):=(N3 b c d).bind λe=>match e with|(a,f)=>(grd (H0 a)).bind λ_=>some ((decide (a=0)),f)
def Y7(c:(List Int))(d:Int):Nat->Int->(List Int)->(Int×Int)->Option ((List Int)×(Int×Int))
 |0,_,_,_=>none
 |fuel+1,e,a,u8=>(if(decide (e>0))=true then(N3 c u8 d).bind λg=>match g with|(b,h)=>(grd (H0 b)).bind λ_=>(B01 c h 2).bind λi=>match i with|(j,f)=>(if j=true then(grd ((a.length+([(IntKind.i64.wrap (0-(IntKind.i64.wrap (1+b))))]).length)*8<=140737488355328)).bind λ_=>(Y7 c d fuel (IntKind.i64.wrap (e-1)) (a ++ [(IntKind.i64.wrap (0-(IntKind.i64.wrap (1+b))))]) f)else(grd ((a.length+([(IntKind.i64.wrap (1+b))]).length)*8<=140737488355328)).bind λ_=>(Y7 c d fuel (IntKind.i64.wrap (e-1)) (a ++ [(IntKind.i64.wrap (1+b))]) f))else some (a,u8))
def X00(a:List Int)(d:Int×Int)(e:Int)(f:Int):Option (D0×(Int×Int)):=(N3 a d (IntKind.i64.wrap (f+1))).bind λg=>match g with|(b,h)=>(grd (H0 b)).bind λ_=>(Y7 a e W0 b ([]:D0) h).bind (λc=>match c with|(y36,y37)=>(T1 y36).bind λi=>some (i,y37))
def T6:Nat->D0->(List Int)->Option (D0×(List Int))
 |0,_,_=>none
 |fuel+1,a,b=>(chk (decide (((a.length:Nat):Int)>1)) (gi a 0) 0).bind λd=>(chk (decide (((a.length:Nat):Int)>1)) (gi a (IntKind.i64.wrap (((a.length:Nat):Int)-1))) 0).bind λc=>(chk (bif(decide (((a.length:Nat):Int)>1))then(decide (d=(IntKind.i64.wrap (0-c))))else false) (gi a 0) 0).bind λf=>(chk (bif(decide (((a.length:Nat):Int)>1))then(decide (d=(IntKind.i64.wrap (0-c))))else false) (gi a 0) 0).bind λg=>(if(bif(bif(decide (((a.length:Nat):Int)>1))then(decide (d=(IntKind.i64.wrap (0-c))))else false)then(!decide (f=(IntKind.i64.wrap (0-g))))else false)=true then(gi a 0).bind λe=>(grd ((b.length + [e].length)*8<=140737488355328)).bind λ_=>(X02 a 1 (IntKind.i64.wrap (((a.length:Nat):Int)-1))).bind λh=>(T6 fuel h (b ++ [e]))else some (a,b))
def A00(b:D0):Option (D0×D0):=(T1 b).bind λc=>(T6 W0 c ([]:D0)).bind (λa=>match a with|(y28,y29)=>(grd ((([]:D0).length+y28.length)*8<=140737488355328)).bind λ_=>some ((([]:D0)++y28),y29))
def V5(b:Int)(d:D0):Nat->Int->(List Int)->Option ((D0) ⊕ ((List Int)))
 |0,_,_=>none
 |fuel+1,a,c=>(if(bif(decide (a<b))then true else(decide (a<(IntKind.i64.wrap (0-b)))))=true then(if(decide (a ≥ 24))=true then some (.inl ([]:D0))else(grd ((c.length+d.length)*8<=140737488355328)).bind λ_=>(V5 b d fuel (IntKind.i64.wrap (a+1)) (c++d)))else some (.inr (c)))
def E2(b:D0)(a:Int):Option (D0):=(if(decide (a<0))=true then(S3 b).bind λe=>(V5 a e W0 0 ([]:D0)).bind λc=>p7 c (λh=>(T1 h).bind λf=>some f)else(V5 a b W0 0 ([]:D0)).bind λd=>p7 d (λi=>(T1 i).bind λg=>some g))
def J00(a:D0)(b:D0):Option (D0):=(C2 a b).bind λc=>(S3 a).bind λf=>(S3 b).bind λg=>(C2 f g).bind λd=>(C2 c d).bind λe=>some e
def p6(b:(List Int)):Nat->Int->(List D0)->(Int×Int)->Option ((List D0)×(Int×Int))
 |0,_,_,_=>none
 |fuel+1,c,a,e=>(if(decide (c>0))=true then(X00 b e 2 4).bind λg=>match g with|(h,f)=>(A00 h).bind λi=>match i with|(d,j)=>(if(decide (((d.length:Nat):Int)>0))=true then(grd ((a.length + [d].length)*24<=140737488355328)).bind λ_=>(p6 b fuel (IntKind.i64.wrap (c-1)) (a ++ [d]) f)else(p6 b fuel (IntKind.i64.wrap (c-1)) a f))else some (a,e))
def t01(a:List Int)(k:Int×Int):Option (l0×(Int×Int)):=(N3 a k 6).bind λl=>match l with|(b,c)=>(grd (H0 b)).bind λ_=>(if(decide (b=0))=true then(N3 a c 6).bind λF=>match F with|(i,G)=>(grd (H0 i)).bind λ_=>(E2 [1] (IntKind.i64.wrap (1+i))).bind λy=>some ((1,[y]),G)else(if(decide (b=1))=true then(E2 [1] 2).bind λB=>(E2 [2] 2).bind λC=>(N3 a c 4).bind λD=>match D with|(h,E)=>(grd (H0 h)).bind λ_=>(E2 ([1,2]) (IntKind.i64.wrap (1+h))).bind λH=>some ((2,[B,C,H]),E)else(if(decide (b=2))=true then(E2 [1] 2).bind λI=>(E2 [2] 3).bind λm=>(N3 a c 2).bind λn=>match n with|(d,o)=>(grd (H0 d)).bind λ_=>(E2 ([1,2]) (IntKind.i64.wrap (2+d))).bind λp=>some ((2,[I,m,p]),o)else(if(decide (b=3))=true then(J00 [1] [2]).bind λq=>(N3 a c 3).bind λs=>match s with|(e,t)=>(grd (H0 e)).bind λ_=>(E2 [1] (IntKind.i64.wrap (1+e))).bind λu=>(N3 a t 3).bind λv=>match v with|(f,w)=>(grd (H0 f)).bind λ_=>(E2 [2] (IntKind.i64.wrap (1+f))).bind λx=>some ((2,[q,u,x]),w)else(if(decide (b=4))=true then some ((2,[[1,1,2,2],[1,2,1,(-2)]]),c)else(N3 a c 3).bind λz=>match z with|(g,A)=>(grd (H0 g)).bind λ_=>(p6 a W0 (IntKind.i64.wrap (1+g)) ([]:L1) A).bind (λj=>match j with|(y252,y253)=>some ((2,y252),y253)))))))
def r02(b:List Int)(g:Int×Int):Option (l0×(Int×Int)):=(t01 b g).bind λh=>match h with|(k,l)=>match k with|(f,a)=>(N3 b l 16).bind λm=>match m with|(c,d)=>(grd (H0 c)).bind λ_=>(if(decide (c=0))=true then(N3 b d 6).bind λi=>match i with|(e,j)=>(grd (H0 e)).bind λ_=>some (((IntKind.i64.wrap (e-1)),a),j)else(if(decide (c=1))=true then(grd ((a.length+([([]:D0)]).length)*24<=140737488355328)).bind λ_=>some ((f,(a ++ [([]:D0)])),d)else some ((f,a),d)))
def p8(c:List Int)(d:Int×Int):Option (l0×(Int×Int)):=(N3 c d 4).bind λe=>match e with|(a,b)=>(grd (H0 a)).bind λ_=>(if(decide (a=0))=true then some ((2,[[1,1,2,1,2,2,1,(-2),(-2),(-1),2,(-1),(-1),(-2)]]),b)else(if(decide (a=1))=true then some ((3,[[1,2,3,(-1),(-2),(-3),1,1,2,2,3,3]]),b)else(if(decide (a=2))=true then(E2 [1] 7).bind λf=>some ((1,[f]),b)else(r02 c b).bind λg=>match g with|(h,k)=>match h with|(i,j)=>some ((i,j),k))))
def M5(b:(List Int))(a:Int)(e:L1):Nat->Int->(List i00)->(Int×Int)->Option ((List i00)×(Int×Int))
 |0,_,_,_=>none
 |fuel+1,g,c,u8=>(if(decide (g>0))=true then(X00 b u8 (if(if 3<a then 3 else a)>1 then(if 3<a then 3 else a)else 1) 3).bind λi=>match i with|(f,j)=>(N3 b j (if((e.length:Nat):Int)>1 then((e.length:Nat):Int)else 1)).bind λk=>match k with|(d,l)=>(grd (H0 d)).bind λ_=>(B01 b l 2).bind λm=>match m with|(n,h)=>(if n=true then(grd ((c.length+([(f,d,(-1))]).length)*40<=140737488355328)).bind λ_=>(M5 b a e fuel (IntKind.i64.wrap (g-1)) (c ++ [(f,d,(-1))]) h)else(grd ((c.length+([(f,d,1)]).length)*40<=140737488355328)).bind λ_=>(M5 b a e fuel (IntKind.i64.wrap (g-1)) (c ++ [(f,d,1)]) h))else some (c,u8))
def n00(a:List Int)(d:Int×Int)(e:l0):Option (C01×(Int×Int)):=match e with|(f,g)=>(N3 a d 4).bind λh=>match h with|(b,i)=>(grd (H0 b)).bind λ_=>(M5 a f g W0 b ([]:C01) i).bind (λc=>match c with|(y36,y37)=>some (y36,y37))
def X01(b:(List Int)):Option (l0×D0):=(d01 b).bind λe=>(p8 b e).bind λl=>match l with|(m,n)=>match m with|(a,c)=>(n00 b n (a,c)).bind λo=>match o with|(p,q)=>(K9 (a,c) p).bind λd=>(B01 b q 3).bind λf=>match f with|(g,h)=>(if g=true then(X00 b h (if(if 3<a then 3 else a)>1 then(if 3<a then 3 else a)else 1) 4).bind λi=>match i with|(j,s)=>(C2 d j).bind λk=>some ((a,c),k)else some ((a,c),d))
def E8(a:(List Int)):Option (l0×D0):=(X01 a).bind λb=>match b with|(c,f)=>match c with|(d,e)=>some ((d,e),f)
def l9(a:(List Int)):Option (l0×C01):=(d01 a).bind λd=>(p8 a d).bind λe=>match e with|(f,g)=>match f with|(b,c)=>(n00 a g (b,c)).bind λh=>match h with|(i,j)=>some ((b,c),i)
def U7(a:(List Int)):Option (l0):=(d01 a).bind λb=>(p8 a b).bind λc=>match c with|(d,g)=>match d with|(e,f)=>some (e,f)
def N2(a:L1)(d:Int):Nat->Int->Int->Option (Int)
 |0,_,_=>none
 |fuel+1,c,b=>(chk (decide (b<((a.length:Nat):Int))) (W2 (d,a)) false).bind λf=>(if(bif(decide (b<((a.length:Nat):Int)))then f else false)=true then(chk (!(decide (c=0))) (gi a b) []).bind λg=>(if(bif(decide (c=0))then true else(decide (((g.length:Nat):Int)<c)))=true then(gi a b).bind λe=>(N2 a d fuel ((e.length:Nat):Int) (IntKind.i64.wrap (b+1)))else(N2 a d fuel c (IntKind.i64.wrap (b+1))))else some (c))
def N6(a:l0):Option (Int):=match a with|(b,c)=>(N2 c b W0 0 0).bind (λd=>some d)
def J3(a:L1):Nat->Int->Int->Option (Int)
 |0,_,_=>none
 |fuel+1,b,c=>(if(decide (c<((a.length:Nat):Int)))=true then(gi a c).bind λd=>(if(bif(decide (b=0))then true else(decide (((d.length:Nat):Int)<b)))=true then(J3 a fuel ((d.length:Nat):Int) (IntKind.i64.wrap (c+1)))else(J3 a fuel b (IntKind.i64.wrap (c+1))))else some (b))
def r8(b:l0):Option (Int):=match b with|(c,a)=>(B5 (c,a)).bind λd=>(if(!d)=true then some 0 else(J3 a W0 0 0).bind (λe=>some e))
def C03(a:(List Int)):Option (Bool):=some (decide (((a.length:Nat):Int)>1048576))
def j7(b:D0)(c:D0):Nat->Int->Option ((Bool) ⊕ (Unit))
 |0,_=>none
 |fuel+1,a=>(if(decide (a<((b.length:Nat):Int)))=true then(gi b a).bind λd=>(gi c a).bind λe=>(if(!decide (d=e))=true then some (.inl false)else(j7 b c fuel (IntKind.i64.wrap (a+1))))else some (.inr ()))
def I8(a:D0)(b:D0):Option (Bool):=(if(!decide (((a.length:Nat):Int)=((b.length:Nat):Int)))=true then some false else(j7 a b W0 0).bind λc=>p7 c (λ_=>some true))
def A6(b:L1)(c:L1):Nat->Int->Option ((Bool) ⊕ (Unit))
 |0,_=>none
 |fuel+1,a=>(if(decide (a<((b.length:Nat):Int)))=true then(gi b a).bind λd=>(gi c a).bind λe=>(I8 d e).bind λf=>(if(!f)=true then some (.inl false)else(A6 b c fuel (IntKind.i64.wrap (a+1))))else some (.inr ()))
def T00(a:L1)(b:L1):Option (Bool):=(if(!decide (((a.length:Nat):Int)=((b.length:Nat):Int)))=true then some false else(A6 a b W0 0).bind λc=>p7 c (λ_=>some true))
def U00(h:(List Int)):Option ((Bool) ⊕ Unit):=(C03 h).bind λq=>(if q=true then some (.inl true)else(l9 h).bind λx=>match x with|(y,k)=>match y with|(a,b)=>(P00 (a,b) k).bind λc=>(K9 (a,b) k).bind λl=>(I8 c l).bind λm=>(if(!m)=true then some (.inl false)else(x00 (a,b) c).bind λn=>match n with|(o,d)=>(grd (H0 d)).bind λ_=>(w00 (a,b) c).bind λp=>match p with|(f,e)=>(grd (H0 e)).bind λ_=>(I8 o f).bind λg=>(chk (!(bif(!g)then true else(!decide (d=e)))) (V01 (a,b)) false).bind λi=>(chk (!(bif(!g)then true else(!decide (d=e)))) (R00 (a,b)) false).bind λj=>(chk (!(bif(bif(bif(!g)then true else(!decide (d=e)))then true else(!(i == j)))then true else(decide (((f.length:Nat):Int)>((c.length:Nat):Int))))) (R00 (a,b)) false).bind λs=>(if(bif(bif(bif(bif(!g)then true else(!decide (d=e)))then true else(!(i == j)))then true else(decide (((f.length:Nat):Int)>((c.length:Nat):Int))))then true else(bif s then(!decide (((f.length:Nat):Int)=0))else false))=true then some (.inl false)else(chk (decide (((c.length:Nat):Int)<=24)) (W2 (a,b)) false).bind λt=>(if(bif(decide (((c.length:Nat):Int)<=24))then t else false)=true then(A7 (a,b) c).bind λu=>match u with|(v,w)=>(if(bif w then(!v)else false)=true then some (.inl false)else some (.inr ()))else some (.inr ())))))
def f02(j:(List Int)):Option ((Bool) ⊕ Unit):=(E8 j).bind λk=>match k with|(l,c)=>match l with|(b,d)=>(r01 (b,d) c).bind λm=>match m with|(n,a)=>(m00 (b,d) c).bind λo=>match o with|(e,f)=>(chk (!(!(a == f))) (I8 n e) false).bind λg=>(chk (a&&(!(bif(!(a == f))then true else(!g)))) (T1 c) []).bind λh=>(grd (h.length<=9223372036854775807)).bind λy=>(if(bif(bif(!(a == f))then true else(!g))then true else(bif a then(decide (((e.length:Nat):Int) ≥ ((h.length:Nat):Int)))else false))=true then some (.inl false)else(chk a (T1 c) []).bind λp=>(chk a (T8 b p) false).bind λi=>(chk (bif a then i else false) (T8 b e) false).bind λq=>(if(bif(bif a then i else false)then q else false)=true then(T1 c).bind λs=>(A7 (b,d) s).bind λt=>match t with|(u,v)=>(A7 (b,d) e).bind λw=>match w with|(x,z)=>(if(bif v then(!(u == x))else false)=true then some (.inl false)else some (.inr ()))else some (.inr ())))
def s02(f:(List Int)):Option (Bool):=(U00 f).bind λi=>p7 i (λ_=>(f02 f).bind λj=>p7 j (λ_=>(U7 f).bind λl=>match l with|(a,b)=>(P4 (a,b)).bind λm=>(D5 (a,b)).bind λk=>(T00 m k).bind λc=>(chk c (z9 (a,b)) 0).bind λd=>(grd (H0 d)).bind λn=>(chk c (w9 (a,b)) 0).bind λe=>(grd (H0 e)).bind λo=>(chk (bif c then(decide (d=e))else false) (r8 (a,b)) 0).bind λg=>(grd (H0 g)).bind λp=>(chk (bif c then(decide (d=e))else false) (N6 (a,b)) 0).bind λh=>(grd (H0 h)).bind λq=>some (bif(bif c then(decide (d=e))else false)then(decide (g=h))else false)))
end Go.Proofs.YtfphndijjmdiiaaGreat
