/- Texts of the claim, joined: What functions of the program compute, in plain words: batch and others. -/
import Derived.Test.YtmgikbbmpnbbjaaGreatPart21
import Derived.Test.YtmgikbbmpnbbjaaGreatH36
import Derived.Test.YtmgikbbmpnbbjaaGreatH35
namespace Go.Proofs.YtmgikbbmpnbbjaaGreat
open Go.H
set_option linter.unusedVariables false
set_option linter.unusedSimpArgs false
set_option maxRecDepth 10000
def T4(a:Int)(b:Int)(c:Int):Option (Bool):=some (bif(decide (a ≥ b))then(decide (a<=c))else false)
def V8(b:J0)(d:Int):Nat->Int->Option ((Bool) ⊕ (Unit))
 |0,_=>none
 |fuel+1,a=>(if(decide (a<((b.length:Nat):Int)))=true then(gi b a).bind λc=>(chk (!(decide (c=0))) (gi b a) 0).bind λg=>(chk (!(decide (c=0))) (T4 g (IntKind.i64.wrap (0-d)) d) false).bind λe=>(chk ((decide (a>0))&&(!(bif(decide (c=0))then true else(!e)))) (gi b a) 0).bind λh=>(chk ((decide (a>0))&&(!(bif(decide (c=0))then true else(!e)))) (gi b (IntKind.i64.wrap (a-1))) 0).bind λf=>(if(bif(bif(decide (c=0))then true else(!e))then true else(bif(decide (a>0))then(decide (h=(IntKind.i64.wrap (0-f))))else false))=true then some (.inl false)else(V8 b d fuel (IntKind.i64.wrap (a+1))))else some (.inr ()))
def q01(a:Int)(b:J0):Option (Bool):=(V8 b a V0 0).bind λc=>l7 c (λ_=>(T4 a 1 3).bind λd=>some (bif d then(decide (((b.length:Nat):Int)<=24))else false))
def B4(a:O2):Nat->Int->Int->Option (Int)
 |0,_,_=>none
 |fuel+1,c,b=>(if(decide (b<((a.length:Nat):Int)))=true then(gi a b).bind λd=>(B4 a fuel (IntKind.i64.wrap (c+((d.length:Nat):Int))) (IntKind.i64.wrap (b+1)))else some (c))
def o9(a:O2):Option (Int):=(B4 a V0 0 0).bind (λb=>some b)
def t7(a:O2)(c:Int):Nat->Int->Option ((Bool) ⊕ (Unit))
 |0,_=>none
 |fuel+1,b=>(if(decide (b<((a.length:Nat):Int)))=true then(gi a b).bind λd=>(q01 c d).bind λe=>(if(!e)=true then some (.inl false)else(t7 a c fuel (IntKind.i64.wrap (b+1))))else some (.inr ()))
def Z00(b:Int)(a:O2):Option (Bool):=(t7 a b V0 0).bind λe=>l7 e (λ_=>(T4 b 1 3).bind λc=>(chk (bif c then(decide (((a.length:Nat):Int)<=6))else false) (o9 a) 0).bind λd=>(grd (H0 d)).bind λ_=>some (bif(bif c then(decide (((a.length:Nat):Int)<=6))else false)then(decide (d<40))else false))
def O4(b:O2):Nat->Int->Option ((Bool) ⊕ (Unit))
 |0,_=>none
 |fuel+1,c=>(if(decide (c<((b.length:Nat):Int)))=true then(gi b c).bind λa=>(chk (!(decide (((a.length:Nat):Int)=0))) (gi a 0) 0).bind λd=>(chk (!(decide (((a.length:Nat):Int)=0))) (gi a (IntKind.i64.wrap (((a.length:Nat):Int)-1))) 0).bind λe=>(if(bif(decide (((a.length:Nat):Int)=0))then true else(decide (d=(IntKind.i64.wrap (0-e)))))=true then some (.inl false)else(O4 b fuel (IntKind.i64.wrap (c+1))))else some (.inr ()))
def L4(c:D0):Option (Bool):=match c with|(d,a)=>(O4 a V0 0).bind λb=>l7 b (λ_=>(Z00 d a).bind λe=>some e)
def p6(a:Int)(b:Int)(c:Int):Option (Bool):=some (bif(decide (a ≥ b))then(decide (a<=c))else false)
def Y01(b:Int)(a:Int):Option (Bool):=(chk (!decide (a=0)) (p6 a (IntKind.i64.wrap (0-b)) b) false).bind λc=>some (bif(!decide (a=0))then c else false)
def H8(a:Int)(b:Int):Option (Bool):=some (bif(bif(!decide (a=0))then(!decide (a=(-9223372036854775808)))else false)then(decide (b=(IntKind.i64.wrap (0-a))))else false)
def W8(b:J0)(d:Int):Nat->Int->Option ((Bool) ⊕ (Unit))
 |0,_=>none
 |fuel+1,a=>(if(decide (a<((b.length:Nat):Int)))=true then(gi b a).bind λe=>(Y01 d e).bind λc=>(chk ((decide (a>0))&&(!(!c))) (gi b (IntKind.i64.wrap (a-1))) 0).bind λf=>(chk ((decide (a>0))&&(!(!c))) (H8 f e) false).bind λg=>(if(bif(!c)then true else(bif(decide (a>0))then g else false))=true then some (.inl false)else(W8 b d fuel (IntKind.i64.wrap (a+1))))else some (.inr ()))
def r01(a:Int)(b:J0):Option (Bool):=(p6 a 1 3).bind λd=>(if(bif(!d)then true else(decide (((b.length:Nat):Int)>24)))=true then some false else(W8 b a V0 0).bind λc=>l7 c (λ_=>some true))
def F6(a:O2):Nat->Int->Int->Option (Int)
 |0,_,_=>none
 |fuel+1,c,b=>(if(decide (b<((a.length:Nat):Int)))=true then(gi a b).bind λd=>(F6 a fuel (IntKind.i64.wrap (c+((d.length:Nat):Int))) (IntKind.i64.wrap (b+1)))else some (c))
def E00(a:O2):Option (Int):=(F6 a V0 0 0).bind (λb=>some b)
def w7(a:O2)(c:Int):Nat->Int->Option ((Bool) ⊕ (Unit))
 |0,_=>none
 |fuel+1,b=>(if(decide (b<((a.length:Nat):Int)))=true then(gi a b).bind λd=>(r01 c d).bind λe=>(if(!e)=true then some (.inl false)else(w7 a c fuel (IntKind.i64.wrap (b+1))))else some (.inr ()))
def a01(b:Int)(a:O2):Option (Bool):=(p6 b 1 3).bind λe=>(if(bif(!e)then true else(decide (((a.length:Nat):Int)>6)))=true then some false else(w7 a b V0 0).bind λd=>l7 d (λ_=>(E00 a).bind λc=>(grd (H0 c)).bind λ_=>some (decide (c<40))))
def P4(b:O2):Nat->Int->Option ((Bool) ⊕ (Unit))
 |0,_=>none
 |fuel+1,c=>(if(decide (c<((b.length:Nat):Int)))=true then(gi b c).bind λa=>(chk (!(decide (((a.length:Nat):Int)=0))) (gi a 0) 0).bind λf=>(chk (!(decide (((a.length:Nat):Int)=0))) (gi a (IntKind.i64.wrap (((a.length:Nat):Int)-1))) 0).bind λd=>(chk (!(decide (((a.length:Nat):Int)=0))) (H8 f d) false).bind λe=>(if(bif(decide (((a.length:Nat):Int)=0))then true else e)=true then some (.inl false)else(P4 b fuel (IntKind.i64.wrap (c+1))))else some (.inr ()))
def M4(c:D0):Option (Bool):=match c with|(d,a)=>(a01 d a).bind λe=>(if(!e)=true then some false else(P4 a V0 0).bind λb=>l7 b (λ_=>some true))
def P7(a:Int)(b:Int):Option (Int):=(if(decide (a<b))=true then some (-1)else(if(decide (a>b))=true then some 1 else some 0))
def o02(d:j0)(f:N0):Option (Bool):=match d with|(e,b,k)=>match f with|(g,h,i)=>(T4 g 0 (IntKind.i64.wrap (b-1))).bind λa=>(chk a (T4 i 0 (IntKind.i64.wrap (b-1))) false).bind λc=>(chk (bif a then c else false) (T4 h 1 e) false).bind λj=>some (bif(bif a then c else false)then j else false)
def G7(b:Int)(c:Int)(d:Int)(e:Int)(f:Int)(g:Int):Nat->Int->Option ((Int) ⊕ (Unit))
 |0,_=>none
 |fuel+1,a=>(if(decide (a<3))=true then(gi [b,c,d] a).bind λi=>(gi [e,f,g] a).bind λj=>(if(decide (i<j))=true then some (.inl (-1))else(gi [b,c,d] a).bind λk=>(gi [e,f,g] a).bind λh=>(if(decide (k>h))=true then some (.inl 1)else(G7 b c d e f g fuel (IntKind.i64.wrap (a+1)))))else some (.inr ()))
def T8(b:N0)(f:N0):Option (Int):=match b with|(c,d,e)=>match f with|(g,h,i)=>(G7 c d e g h i V0 0).bind λa=>l7 a (λ_=>some 0)
def W7(b:Z0)(d:Int)(e:Int):Nat->Int->Option ((Bool) ⊕ (Unit))
 |0,_=>none
 |fuel+1,a=>(if(decide (a<((b.length:Nat):Int)))=true then(gi b a).bind λg=>match g with|(h,i,j)=>(o02 (d,e,b) (h,i,j)).bind λc=>(chk ((decide (a>0))&&(!(!c))) (gi b (IntKind.i64.wrap (a-1))) (0,0,0)).bind λk=>match k with|(l,m,n)=>(chk ((decide (a>0))&&(!(!c))) (gi b a) (0,0,0)).bind λo=>match o with|(p,q,s)=>(chk ((decide (a>0))&&(!(!c))) (T8 (l,m,n) (p,q,s)) 0).bind λf=>(grd (H0 f)).bind λ_=>(if(bif(!c)then true else(bif(decide (a>0))then(decide (f ≥ 0))else false))=true then some (.inl false)else(W7 b d e fuel (IntKind.i64.wrap (a+1))))else some (.inr ()))
def H4(f:j0):Option (Bool):=match f with|(a,b,c)=>(W7 c a b V0 0).bind λe=>l7 e (λ_=>(T4 a 1 3).bind λd=>(chk d (T4 b 1 40) false).bind λg=>some (bif(bif d then g else false)then(decide (((c.length:Nat):Int)<=120))else false))
def S6(a:j0)(c:Int):Option (Bool):=match a with|(e,b,f)=>(p6 c 0 (IntKind.i64.wrap (b-1))).bind λd=>some d
def Y7(f:j0)(g:N0):Option (Bool):=match f with|(a,c,d)=>match g with|(h,i,j)=>(S6 (a,c,d) h).bind λb=>(chk b (S6 (a,c,d) j) false).bind λe=>(chk (bif b then e else false) (p6 i 1 a) false).bind λk=>some (bif(bif b then e else false)then k else false)
def e00(d:N0)(h:N0):Option (Int):=match d with|(e,f,g)=>match h with|(i,j,k)=>(P7 e i).bind λa=>(grd (H0 a)).bind λ_=>(if(!decide (a=0))=true then some a else(P7 f j).bind λb=>(grd (H0 b)).bind λ_=>(if(!decide (b=0))=true then some b else(P7 g k).bind λc=>(grd (H0 c)).bind λ_=>some c))
def Z7(b:Z0)(d:Int)(e:Int):Nat->Int->Option ((Bool) ⊕ (Unit))
 |0,_=>none
 |fuel+1,a=>(if(decide (a<((b.length:Nat):Int)))=true then(gi b a).bind λn=>match n with|(g,h,i)=>(Y7 (d,e,b) (g,h,i)).bind λc=>(chk ((decide (a>0))&&(!(!c))) (gi b (IntKind.i64.wrap (a-1))) (0,0,0)).bind λj=>match j with|(k,l,m)=>(chk ((decide (a>0))&&(!(!c))) (e00 (k,l,m) (g,h,i)) 0).bind λf=>(grd (H0 f)).bind λ_=>(if(bif(!c)then true else(bif(decide (a>0))then(decide (f ≥ 0))else false))=true then some (.inl false)else(Z7 b d e fuel (IntKind.i64.wrap (a+1))))else some (.inr ()))
def G6(f:j0):Option (Bool):=match f with|(a,b,c)=>(p6 a 1 3).bind λd=>(chk (!(!d)) (p6 b 1 40) false).bind λg=>(if(bif(bif(!d)then true else(!g))then true else(decide (((c.length:Nat):Int)>120)))=true then some false else(Z7 c a b V0 0).bind λe=>l7 e (λ_=>some true))
def U4(b:J0)(a:Int):Nat->Bool->Int->(List Int)->Option (Bool×(List Int))
 |0,_,_,_=>none
 |fuel+1,e,c,d=>(if(decide (c<((b.length:Nat):Int)))=true then(gi b c).bind λl=>(if(decide (l=a))=true then(gi b c).bind λj=>(if(bif(decide (j>a))then(!true)else false)=true then(grd ((d.length + [a].length)*8<=140737488355328)).bind λ_=>(gi b c).bind λf=>(grd (((d ++ [a]).length + [f].length)*8<=140737488355328)).bind λ_=>(U4 b a fuel true (IntKind.i64.wrap (c+1)) ((d ++ [a]) ++ [f]))else(gi b c).bind λg=>(grd ((d.length + [g].length)*8<=140737488355328)).bind λ_=>(U4 b a fuel true (IntKind.i64.wrap (c+1)) (d ++ [g])))else(gi b c).bind λk=>(if(bif(decide (k>a))then(!e)else false)=true then(grd ((d.length + [a].length)*8<=140737488355328)).bind λ_=>(gi b c).bind λh=>(grd (((d ++ [a]).length + [h].length)*8<=140737488355328)).bind λ_=>(U4 b a fuel true (IntKind.i64.wrap (c+1)) ((d ++ [a]) ++ [h]))else(gi b c).bind λi=>(grd ((d.length + [i].length)*8<=140737488355328)).bind λ_=>(U4 b a fuel e (IntKind.i64.wrap (c+1)) (d ++ [i]))))else some (e,d))
def F9(c:J0)(a:Int):Option (J0):=(U4 c a V0 false 0 ([]:J0)).bind (λb=>match b with|(y35,y36)=>(if(!y35)=true then(grd ((y36.length + [a].length)*8<=140737488355328)).bind λ_=>some (y36 ++ [a])else some y36))
def N9(a:J0)(c:Int):Nat->Int->Option ((Bool) ⊕ (Unit))
 |0,_=>none
 |fuel+1,b=>(if(decide (b<((a.length:Nat):Int)))=true then(gi a b).bind λd=>(if(decide (d=c))=true then some (.inl true)else(N9 a c fuel (IntKind.i64.wrap (b+1))))else some (.inr ()))
def j00(b:J0)(c:Int):Option (Bool):=(N9 b c V0 0).bind λa=>l7 a (λ_=>some false)
def I4(c:Z0)(a:Int)(b:Int):Nat->J0->Int->Option (J0)
 |0,_,_=>none
 |fuel+1,e,d=>(if(decide (d<((c.length:Nat):Int)))=true then(gi c d).bind λj=>match j with|(f,g,h)=>(if(bif(bif(decide (a>0))then(decide (g=a))else false)then(decide (f=b))else false)=true then(F9 e h).bind λi=>(if(bif(bif(decide (a<0))then(decide (g=(IntKind.i64.wrap (0-a))))else false)then(decide (h=b))else false)=true then(F9 i f).bind λk=>(I4 c a b fuel k (IntKind.i64.wrap (d+1)))else(I4 c a b fuel i (IntKind.i64.wrap (d+1))))else(if(bif(bif(decide (a<0))then(decide (g=(IntKind.i64.wrap (0-a))))else false)then(decide (h=b))else false)=true then(F9 e f).bind λl=>(I4 c a b fuel l (IntKind.i64.wrap (d+1)))else(I4 c a b fuel e (IntKind.i64.wrap (d+1)))))else some (e))
def x01(a:j0)(c:Int)(d:Int):Option (J0):=match a with|(f,g,b)=>(I4 b d c V0 ([]:J0) 0).bind (λe=>some e)
def I8(b:j0)(f:Int)(g:Int):Option (Int):=match b with|(c,d,e)=>(x01 (c,d,e) f g).bind λa=>(if(decide (((a.length:Nat):Int)=0))=true then some (-1)else(gi a 0).bind λh=>some h)
def A7(b:Int)(a:Z0):Nat->Int->Option ((Bool) ⊕ (Unit))
 |0,_=>none
 |fuel+1,u8=>(if(decide (u8<b))=true then(gi a b).bind λc=>match c with|(d,e,f)=>(gi a u8).bind λg=>match g with|(h,i,j)=>(if(bif(decide (e=i))then(bif(decide (d=h))then true else(decide (f=j)))else false)=true then some (.inl false)else(A7 b a fuel (IntKind.i64.wrap (u8+1))))else some (.inr ()))
def M5(a:Z0)(c:Int)(d:Int):Nat->Int->Option ((Bool) ⊕ (Unit))
 |0,_=>none
 |fuel+1,b=>(chk (decide (b<((a.length:Nat):Int))) (H4 (c,d,a)) false).bind λf=>(if(bif(decide (b<((a.length:Nat):Int)))then f else false)=true then(A7 b a V0 0).bind λe=>I0h e (λ_=>(M5 a c d fuel (IntKind.i64.wrap (b+1))))else some (.inr ()))
def Q6(e:j0):Option (Bool):=match e with|(a,b,c)=>(M5 c a b V0 0).bind λd=>l7 d (λ_=>(H4 (a,b,c)).bind λf=>some f)
def B7(a:J0)(d:Int)(e:Int)(f:Z0):Nat->Int->Int->Option ((Int×Bool) ⊕ (Int))
 |0,_,_=>none
 |fuel+1,g,b=>(if(decide (b<((a.length:Nat):Int)))=true then(gi a b).bind λh=>(I8 (d,e,f) g h).bind λc=>(grd (H0 c)).bind λ_=>(if(decide (c<0))=true then some (.inl ((-1),false))else(B7 a d e f fuel c (IntKind.i64.wrap (b+1))))else some (.inr (g)))
def b01(g:j0)(d:Int)(h:J0):Option (Int×Bool):=match g with|(b,a,c)=>(Q6 (b,a,c)).bind λe=>(chk (!(!e)) (T4 d 0 (IntKind.i64.wrap (a-1))) false).bind λi=>(if(bif(!e)then true else(!i))=true then some ((-1),false)else(B7 h b a c V0 d 0).bind λf=>l7 f (λj=>some (j,true)))
def l5(c:Z0)(a:Int)(d:Int):Nat->Int->(List Int)->Option ((List Int))
 |0,_,_=>none
 |fuel+1,e,b=>(if(decide (e<((c.length:Nat):Int)))=true then(gi c e).bind λi=>match i with|(f,h,g)=>(if(bif(bif(decide (a>0))then(decide (h=a))else false)then(decide (f=d))else false)=true then(grd ((b.length + [g].length)*8<=140737488355328)).bind λ_=>(l5 c a d fuel (IntKind.i64.wrap (e+1)) (b ++ [g]))else(if(bif(bif(bif(decide (a<0))then(!decide (a=(-9223372036854775808)))else false)then(decide (h=(IntKind.i64.wrap (0-a))))else false)then(decide (g=d))else false)=true then(grd ((b.length + [f].length)*8<=140737488355328)).bind λ_=>(l5 c a d fuel (IntKind.i64.wrap (e+1)) (b ++ [f]))else(l5 c a d fuel (IntKind.i64.wrap (e+1)) b)))else some (b))
def y01(b:j0)(d:Int)(e:Int):Option (J0):=match b with|(f,g,c)=>(l5 c e d V0 0 ([]:J0)).bind (λa=>(grd (a.length<4611686018427387904)).bind λ_=>some (g04 eqI (A07 Y9 a)))
def J8(b:j0)(f:Int)(g:Int):Option (Int):=match b with|(c,d,e)=>(y01 (c,d,e) f g).bind λa=>(if(decide (((a.length:Nat):Int)=0))=true then some (-1)else(gi a 0).bind λh=>some h)
def C7(b:Z0)(d:Int)(c:Int)(e:Int):Nat->Int->Option ((Bool) ⊕ (Unit))
 |0,_=>none
 |fuel+1,a=>(if(decide (a<((b.length:Nat):Int)))=true then(gi b a).bind λf=>match f with|(g,h,i)=>(if(bif(decide (d=h))then(bif(decide (c=g))then true else(decide (e=i)))else false)=true then some (.inl false)else(C7 b d c e fuel (IntKind.i64.wrap (a+1))))else some (.inr ()))
def D7(a:Z0):Nat->Int->Option ((Bool) ⊕ (Unit))
 |0,_=>none
 |fuel+1,b=>(if(decide (b<((a.length:Nat):Int)))=true then(gi a b).bind λd=>match d with|(e,f,g)=>(X06 a (IntKind.i64.wrap (b+1)) (a.length:Int)).bind λh=>(C7 h f e g V0 0).bind λc=>I0h c (λ_=>(D7 a fuel (IntKind.i64.wrap (b+1))))else some (.inr ()))
def R6(c:j0):Option (Bool):=match c with|(d,e,a)=>(G6 (d,e,a)).bind λf=>(if(!f)=true then some false else(D7 a V0 0).bind λb=>l7 b (λ_=>some true))
def t6(b:J0)(e:Int)(f:Int)(g:Z0):Nat->Int->Int->Option ((Int×Int) ⊕ (Int))
 |0,_,_=>none
 |fuel+1,c,a=>(if(decide (a<((b.length:Nat):Int)))=true then(gi b a).bind λh=>(J8 (e,f,g) c h).bind λd=>(grd (H0 d)).bind λ_=>(if(decide (d<0))=true then some (.inl (c,a))else(t6 b e f g fuel d (IntKind.i64.wrap (a+1))))else some (.inr (c)))
def Z9(c:j0)(g:Int)(a:J0):Option (Int×Int):=match c with|(d,e,f)=>(t6 a d e f V0 g 0).bind λb=>l7 b (λh=>some (h,((a.length:Nat):Int)))
def N3(b:j0):Option (j0):=match b with|(c,d,a)=>(grd ((([]:Z0).length+a.length)*24<=140737488355328)).bind λ_=>some (c,d,(([]:Z0)++a))
def V4(e:Z0)(a:Int)(b:Int)(c:Int):Nat->Bool->Int->(List N0)->Option (Bool×(List N0))
 |0,_,_,_=>none
 |fuel+1,h,f,d=>(if(decide (f<((e.length:Nat):Int)))=true then(gi e f).bind λz=>match z with|(A,C,D)=>(T8 (a,b,c) (A,C,D)).bind λg=>(grd (H0 g)).bind λ_=>(if(decide (g=0))=true then(if(bif(decide (g<0))then(!true)else false)=true then(grd ((d.length+([(a,b,c)]).length)*24<=140737488355328)).bind λ_=>(gi e f).bind λv=>match v with|(i,j,k)=>(grd (((d ++ [(a,b,c)]).length+([(i,j,k)]).length)*24<=140737488355328)).bind λ_=>(V4 e a b c fuel true (IntKind.i64.wrap (f+1)) ((d ++ [(a,b,c)]) ++ [(i,j,k)]))else(gi e f).bind λw=>match w with|(l,m,n)=>(grd ((d.length+([(l,m,n)]).length)*24<=140737488355328)).bind λ_=>(V4 e a b c fuel true (IntKind.i64.wrap (f+1)) (d ++ [(l,m,n)])))else(if(bif(decide (g<0))then(!h)else false)=true then(grd ((d.length+([(a,b,c)]).length)*24<=140737488355328)).bind λ_=>(gi e f).bind λx=>match x with|(o,p,q)=>(grd (((d ++ [(a,b,c)]).length+([(o,p,q)]).length)*24<=140737488355328)).bind λ_=>(V4 e a b c fuel true (IntKind.i64.wrap (f+1)) ((d ++ [(a,b,c)]) ++ [(o,p,q)]))else(gi e f).bind λy=>match y with|(s,t,u)=>(grd ((d.length+([(s,t,u)]).length)*24<=140737488355328)).bind λ_=>(V4 e a b c fuel h (IntKind.i64.wrap (f+1)) (d ++ [(s,t,u)]))))else some (h,d))
def K8(e:Z0)(f:N0):Option (Z0):=match f with|(a,b,c)=>(V4 e a b c V0 false 0 ([]:Z0)).bind (λd=>match d with|(y35,y36)=>(if(!y35)=true then(grd ((y36.length+([(a,b,c)]).length)*24<=140737488355328)).bind λ_=>some (y36 ++ [(a,b,c)])else some y36))
def c4(a:Z0)(c:Int):Nat->Int->Int->Option (Int)
 |0,_,_=>none
 |fuel+1,d,b=>(if(decide (b<((a.length:Nat):Int)))=true then(gi a b).bind λg=>match g with|(h,m,n)=>(if(decide (h=c))=true then(gi a b).bind λi=>match i with|(o,p,j)=>(if(decide (j=c))=true then(c4 a c fuel (IntKind.i64.wrap ((IntKind.i64.wrap (d+1))+1)) (IntKind.i64.wrap (b+1)))else(c4 a c fuel (IntKind.i64.wrap (d+1)) (IntKind.i64.wrap (b+1))))else(gi a b).bind λe=>match e with|(k,l,f)=>(if(decide (f=c))=true then(c4 a c fuel (IntKind.i64.wrap (d+1)) (IntKind.i64.wrap (b+1)))else(c4 a c fuel d (IntKind.i64.wrap (b+1)))))else some (d))
def c01(a:j0)(c:Int):Option (Int):=match a with|(e,f,b)=>(c4 b c V0 0 0).bind (λd=>some d)
def H6(b:Z0)(c:Z0):Nat->Int->Option ((Bool) ⊕ (Unit))
 |0,_=>none
 |fuel+1,a=>(if(decide (a<((b.length:Nat):Int)))=true then(gi b a).bind λd=>match d with|(e,f,g)=>(gi c a).bind λh=>match h with|(i,j,k)=>(if(!eqE (e,f,g) (i,j,k))=true then some (.inl false)else(H6 b c fuel (IntKind.i64.wrap (a+1))))else some (.inr ()))
def Q7(d:j0)(g:j0):Option (Bool):=match d with|(e,f,a)=>match g with|(h,i,b)=>(if(bif(bif(!decide (e=h))then true else(!decide (f=i)))then true else(!decide (((a.length:Nat):Int)=((b.length:Nat):Int))))=true then some false else(H6 a b V0 0).bind λc=>l7 c (λ_=>some true))
def W3(a:Z0):Nat->J0->Int->Option (J0)
 |0,_,_=>none
 |fuel+1,b,c=>(if(decide (c<((a.length:Nat):Int)))=true then(gi a c).bind λg=>match g with|(d,m,e)=>(j00 b d).bind λh=>(if h=true then(F9 b e).bind λf=>(j00 f e).bind λi=>(if i=true then(F9 f d).bind λj=>(W3 a fuel j (IntKind.i64.wrap (c+1)))else(W3 a fuel f (IntKind.i64.wrap (c+1))))else(j00 b e).bind λk=>(if k=true then(F9 b d).bind λl=>(W3 a fuel l (IntKind.i64.wrap (c+1)))else(W3 a fuel b (IntKind.i64.wrap (c+1)))))else some (b))
def Q5(a:Z0):Nat->J0->Int->Option (J0)
 |0,_,_=>none
 |fuel+1,b,c=>(if(decide (c<(IntKind.i64.wrap (((a.length:Nat):Int)+1))))=true then(W3 a V0 b 0).bind (λd=>(Q5 a fuel d (IntKind.i64.wrap (c+1))))else some (b))
def F00(e:j0)(c:Int):Option (J0):=match e with|(f,a,b)=>(H4 (f,a,b)).bind λd=>(chk (!(!d)) (T4 c 0 (IntKind.i64.wrap (a-1))) false).bind λg=>(if(bif(!d)then true else(!g))=true then some ([]:J0)else(Q5 b V0 [c] 0).bind (λh=>some h))
def Y8(b:Int)(d:Int)(e:Z0)(f:J0):Nat->Int->Option ((Int) ⊕ (Unit))
 |0,_=>none
 |fuel+1,a=>(if(decide (a<b))=true then(c01 (d,b,e) a).bind λc=>(grd (H0 c)).bind λ_=>(chk (!(decide (c<2))) (j00 f a) false).bind λg=>(if(bif(decide (c<2))then true else(!g))=true then some (.inl a)else(Y8 b d e f fuel (IntKind.i64.wrap (a+1))))else some (.inr ()))
def p02(e:j0):Option (Int):=match e with|(a,b,c)=>(F00 (a,b,c) 0).bind λf=>(Y8 b a c f V0 1).bind λd=>l7 d (λ_=>some (-1))
def A4(b:Z0)(a:(List Int)):Nat->Int->Int->Int->Z0->Option (Int×Int×Z0)
 |0,_,_,_,_=>none
 |fuel+1,c,d,e,f=>(if(decide (c<((b.length:Nat):Int)))=true then(gi b c).bind λj=>match j with|(g,k,h)=>(gi a g).bind λi=>(chk (decide (i>0)) (gi a h) 0).bind λl=>(if(bif(decide (i>0))then(decide (l>0))else false)=true then(gi a g).bind λm=>(gi a h).bind λn=>(K8 f ((IntKind.i64.wrap (m-1)),k,(IntKind.i64.wrap (n-1)))).bind λo=>(A4 b a fuel (IntKind.i64.wrap (c+1)) d e o)else(A4 b a fuel (IntKind.i64.wrap (c+1)) d e f))else some (d,e,f))
def W4(a:J0)(c:Int)(e:Int)(f:Z0):Nat->Int->(List Int)->Option ((j0×Bool) ⊕ ((List Int)))
 |0,_,_=>none
 |fuel+1,u8,b=>(if(decide (u8<((a.length:Nat):Int)))=true then(gi a u8).bind λh=>(T4 h 0 (IntKind.i64.wrap (c-1))).bind λd=>(chk (!(!d)) (gi a u8) 0).bind λi=>(chk (!(!d)) (gi b i) 0).bind λj=>(if(bif(!d)then true else(!decide (j=0)))=true then(N3 (e,c,f)).bind λk=>match k with|(l,m,n)=>some (.inl ((l,m,n),false))else(gi a u8).bind λg=>(gi b g).bind λo=>(W4 a c e f fuel (IntKind.i64.wrap (u8+1)) (b.set g.toNat (IntKind.i64.wrap (u8+1)))))else some (.inr (b)))
def c8(g:j0)(d:J0):Option (j0×Bool):=match g with|(b,a,c)=>(H4 (b,a,c)).bind λh=>(if(bif(bif(!h)then true else(decide (((d.length:Nat):Int)=0)))then true else(decide (((d.length:Nat):Int)>a)))=true then(N3 (b,a,c)).bind λi=>match i with|(j,k,l)=>some ((j,k,l),false)else(grd ((0:Int)<=a/\a<=a/\a*8<=140737488355328/\a<=9223372036854775807)).bind λ_=>(W4 d a b c V0 0 (List.replicate a.toNat (0:Int))).bind λf=>l7 f (λm=>(A4 c m V0 0 b ((d.length:Nat):Int) ([]:Z0)).bind (λe=>match e with|(y86,y87,y88)=>some ((y86,y87,y88),true))))
def I6(c:Int):Nat->Int->(List Int)->Option ((List Int))
 |0,_,_=>none
 |fuel+1,a,b=>(if(decide (a<=c))=true then(grd ((b.length + [a].length)*8<=140737488355328)).bind λ_=>(grd (((b ++ [a]).length+([(IntKind.i64.wrap (0-a))]).length)*8<=140737488355328)).bind λ_=>(I6 c fuel (IntKind.i64.wrap (a+1)) ((b ++ [a]) ++ [(IntKind.i64.wrap (0-a))]))else some (b))
def p9(a:Int):Option (J0):=(I6 a V0 1 ([]:J0)).bind (λb=>some b)
def f4(d:J0)(h:Int)(e:Int)(f:Int)(g:Z0):Nat->Int->(List Int)->Option ((List Int))
 |0,_,_=>none
 |fuel+1,c,a=>(if(decide (c<((d.length:Nat):Int)))=true then(gi a h).bind λi=>(gi d c).bind λj=>(I8 (e,f,g) i j).bind λb=>(grd (H0 b)).bind λ_=>(chk (decide (b ≥ 0)) (j00 a b) false).bind λk=>(if(bif(decide (b ≥ 0))then(!k)else false)=true then(grd ((a.length + [b].length)*8<=140737488355328)).bind λ_=>(f4 d h e f g fuel (IntKind.i64.wrap (c+1)) (a ++ [b]))else(f4 d h e f g fuel (IntKind.i64.wrap (c+1)) a))else some (a))
def H5(g:J0)(d:Int)(e:Int)(f:Z0):Nat->Int->(List Int)->Option ((List Int))
 |0,_,_=>none
 |fuel+1,a,b=>(some b.length).bind λc=>(grd (c<=9223372036854775807)).bind λ_=>(if(decide (a<((c:Nat):Int)))=true then(f4 g a d e f V0 0 b).bind (λh=>(H5 g d e f fuel (IntKind.i64.wrap (a+1)) h))else some (b))
def b9(d:j0):Option (J0):=match d with|(a,b,c)=>(Q6 (a,b,c)).bind λe=>(if(!e)=true then some ([]:J0)else(p9 a).bind λf=>(H5 f a b c V0 0 [0]).bind (λg=>some g))
def H7(e:j0):Option (j0):=match e with|(a,b,c)=>(b9 (a,b,c)).bind λd=>(if(decide (((d.length:Nat):Int)=0))=true then(N3 (a,b,c)).bind λf=>match f with|(g,h,i)=>some (g,h,i)else(c8 (a,b,c) d).bind λj=>match j with|(k,o)=>match k with|(l,m,n)=>some (l,m,n))
def q02(f:j0):Option (Bool):=match f with|(a,b,c)=>(Q6 (a,b,c)).bind λd=>(chk d (p02 (a,b,c)) 0).bind λe=>(grd (H0 e)).bind λl=>(chk (bif d then(decide (e<0))else false) (H7 (a,b,c)) (0,0,[])).bind λg=>match g with|(h,i,j)=>(chk (bif d then(decide (e<0))else false) (Q7 (h,i,j) (a,b,c)) false).bind λk=>some (bif(bif d then(decide (e<0))else false)then k else false)
def i01(a:j0):Option (Bool):=match a with|(b,c,d)=>(q02 (b,c,d)).bind λe=>some e
def D3(b:j0):Option (j0):=match b with|(c,d,a)=>(grd ((([]:Z0).length+a.length)*24<=140737488355328)).bind λ_=>some (c,d,(([]:Z0)++a))
def N5(b:Z0)(a:Int):Nat->Int->Int->Option (Int)
 |0,_,_=>none
 |fuel+1,d,c=>(if(decide (c<((b.length:Nat):Int)))=true then(gi b c).bind λf=>match f with|(g,h,e)=>(if(decide (g=a))=true then(if(decide (e=a))=true then(N5 b a fuel (IntKind.i64.wrap ((IntKind.i64.wrap (d+1))+1)) (IntKind.i64.wrap (c+1)))else(N5 b a fuel (IntKind.i64.wrap (d+1)) (IntKind.i64.wrap (c+1))))else(if(decide (e=a))=true then(N5 b a fuel (IntKind.i64.wrap (d+1)) (IntKind.i64.wrap (c+1)))else(N5 b a fuel d (IntKind.i64.wrap (c+1)))))else some (d))
def Z01(a:j0)(c:Int):Option (Int):=match a with|(e,f,b)=>(N5 b c V0 0 0).bind (λd=>some d)
def L1(b:Z0)(c:Z0):Nat->Int->Option ((Bool) ⊕ (Unit))
 |0,_=>none
 |fuel+1,a=>(if(decide (a<((b.length:Nat):Int)))=true then(gi b a).bind λd=>match d with|(e,f,g)=>(gi c a).bind λh=>match h with|(i,j,k)=>(if(!eqE (e,f,g) (i,j,k))=true then some (.inl false)else(L1 b c fuel (IntKind.i64.wrap (a+1))))else some (.inr ()))
def I3(a:Z0)(b:Z0):Option (Bool):=(if(!decide (((a.length:Nat):Int)=((b.length:Nat):Int)))=true then some false else(L1 a b V0 0).bind λc=>l7 c (λ_=>some true))
def G00(e:j0)(g:j0):Option (Bool):=match e with|(a,b,f)=>match g with|(c,d,h)=>(chk (bif(decide (a=c))then(decide (b=d))else false) (I3 f h) false).bind λi=>some (bif(bif(decide (a=c))then(decide (b=d))else false)then i else false)
def N4(b:Z0):Nat->Bool->Int->(List Bool)->Option (Bool×(List Bool))
 |0,_,_,_=>none
 |fuel+1,f,c,a=>(if(decide (c<((b.length:Nat):Int)))=true then(gi b c).bind λg=>match g with|(d,j,e)=>(gi a d).bind λh=>(gi a e).bind λi=>(if(!(h == i))=true then(gi a d).bind λk=>(gi (a.set d.toNat true) e).bind λl=>(N4 b fuel true (IntKind.i64.wrap (c+1)) ((a.set d.toNat true).set e.toNat true))else(N4 b fuel f (IntKind.i64.wrap (c+1)) a))else some (f,a))
def B5(a:Z0):Nat->Bool->(List Bool)->Option ((List Bool))
 |0,_,_=>none
 |fuel+1,d,b=>(if d=true then(N4 a V0 false 0 b).bind (λc=>match c with|(y23,y24)=>(B5 a fuel y23 y24))else some (b))
def f00(c:j0)(b:Int):Option ((List Bool)):=match c with|(f,a,d)=>(grd ((0:Int)<=a/\a<=a/\a*1<=140737488355328/\a<=9223372036854775807)).bind λ_=>(gi (List.replicate a.toNat (false:Bool)) b).bind λg=>(B5 d V0 true ((List.replicate a.toNat (false:Bool)).set b.toNat true)).bind (λe=>some e)
def d8(c:Int):Nat->Int->(List Int)->Option ((List Int))
 |0,_,_=>none
 |fuel+1,a,b=>(if(decide (a<=c))=true then(grd ((b.length+([a,(IntKind.i64.wrap (0-a))]).length)*8<=140737488355328)).bind λ_=>(d8 c fuel (IntKind.i64.wrap (a+1)) (b ++ [a,(IntKind.i64.wrap (0-a))]))else some (b))
def H00(a:Int):Option (J0):=(d8 a V0 1 ([]:J0)).bind (λb=>some b)
def l00(a:Z0):Option (Z0):=(grd ((([]:Z0).length+a.length)*24<=140737488355328)).bind λ_=>(grd ((([]:Z0)++a).length<4611686018427387904)).bind λ_=>some (g04 eqE (A07 P0 (([]:Z0)++a)))
def G9(b:Z0)(a:(List Int)):Nat->Int->Int->Int->(List N0)->Option (Int×Int×(List N0))
 |0,_,_,_,_=>none
 |fuel+1,c,e,f,d=>(if(decide (c<((b.length:Nat):Int)))=true then(gi b c).bind λm=>match m with|(g,h,i)=>(gi a g).bind λj=>(chk (decide (j ≥ 0)) (gi a i) 0).bind λn=>(if(bif(decide (j ≥ 0))then(decide (n ≥ 0))else false)=true then(gi a g).bind λk=>(gi a i).bind λl=>(grd ((d.length+([(k,h,l)]).length)*24<=140737488355328)).bind λ_=>(G9 b a fuel (IntKind.i64.wrap (c+1)) e f (d ++ [(k,h,l)]))else(G9 b a fuel (IntKind.i64.wrap (c+1)) e f d))else some (e,f,d))
def m00(b:J0):Nat->Int->(List Int)->Option ((List Int))
 |0,_,_=>none
 |fuel+1,a,c=>(if(decide (a<((b.length:Nat):Int)))=true then(gi b a).bind λd=>(gi c d).bind λe=>(m00 b fuel (IntKind.i64.wrap (a+1)) (c.set d.toNat a))else some (c))
def n00(c:Nat):Nat->Int->(List Int)->Option ((List Int))
 |0,_,_=>none
 |fuel+1,a,b=>(if(decide (a<((c:Nat):Int)))=true then(gi b a).bind λd=>(n00 c fuel (IntKind.i64.wrap (a+1)) (b.set a.toNat (-1)))else some (b))
def z03(e:j0)(c:J0):Option (j0):=match e with|(f,a,g)=>(grd ((0:Int)<=a/\a<=a/\a*8<=140737488355328/\a<=9223372036854775807)).bind λ_=>(some (List.replicate a.toNat (0:Int)).length).bind λb=>(grd (b<=9223372036854775807)).bind λ_=>(n00 b V0 0 (List.replicate a.toNat (0:Int))).bind (λi=>(m00 c V0 0 i).bind (λj=>(G9 g j V0 0 f ((c.length:Nat):Int) ([]:Z0)).bind (λd=>match d with|(y203,y204,y205)=>(l00 y205).bind λh=>some (y203,y204,h))))
def a02(a:J0):Option (J0):=(grd ((([]:J0).length+a.length)*8<=140737488355328)).bind λ_=>some (([]:J0)++a)
def E5(f:J0)(g:Int)(h:Int)(i:Z0)(e:Int):Nat->Int->(List (Option J0))->(List Int)->Option ((List (Option J0))×(List Int))
 |0,_,_,_=>none
 |fuel+1,c,b,d=>(if(decide (c<((f.length:Nat):Int)))=true then(gi f c).bind λj=>(J8 (g,h,i) e j).bind λa=>(grd (H0 a)).bind λ_=>(chk (decide (a ≥ 0)) (gi b a) (none:Option J0)).bind λl=>(if(bif(decide (a ≥ 0))then l.isNone else false)=true then(gi b e).bind λm=>(a02 (m.getD [])).bind λk=>(grd ((k.length + [j].length)*8<=140737488355328)).bind λ_=>(gi b a).bind λn=>(grd ((d.length + [a].length)*8<=140737488355328)).bind λ_=>(E5 f g h i e fuel (IntKind.i64.wrap (c+1)) (b.set a.toNat (some (k ++ [j]))) (d ++ [a]))else(E5 f g h i e fuel (IntKind.i64.wrap (c+1)) b d))else some (b,d))
def n7(b:Int)(d:Int)(e:Z0):Nat->Int->(List (Option J0))->(List Int)->Option ((List (Option J0))×(List Int))
 |0,_,_,_=>none
 |fuel+1,u8,f,a=>(some a.length).bind λc=>(grd (c<=9223372036854775807)).bind λ_=>(if(decide (u8<((c:Nat):Int)))=true then(gi a u8).bind λh=>(H00 b).bind λi=>(E5 i b d e h V0 0 f a).bind (λg=>match g with|(y41,y42)=>(n7 b d e fuel (IntKind.i64.wrap (u8+1)) y41 y42))else some (f,a))
def u02(d:j0)(b:Int):Option (J0×O2):=match d with|(e,a,f)=>(grd ((0:Int)<=a/\a<=a/\a*24<=140737488355328/\a<=9223372036854775807)).bind λ_=>(gi (List.replicate a.toNat (none:Option J0)) b).bind λg=>(n7 e a f V0 0 ((List.replicate a.toNat (none:Option J0)).set b.toNat (some ([]:J0))) [b]).bind (λc=>match c with|(y54,y55)=>some (y55,(List.map (λo:Option J0=>o.getD ([]:J0)) y54)))
def c9(d:j0):Option (J0):=match d with|(a,b,c)=>(R6 (a,b,c)).bind λe=>(if(!e)=true then some ([]:J0)else(u02 (a,b,c) 0).bind λf=>match f with|(g,h)=>some g)
def I7(d:j0):Option (j0):=match d with|(a,b,c)=>(R6 (a,b,c)).bind λe=>(if(!e)=true then(D3 (a,b,c)).bind λj=>match j with|(k,l,m)=>some (k,l,m)else(c9 (a,b,c)).bind λn=>(z03 (a,b,c) n).bind λf=>match f with|(g,h,i)=>some (g,h,i))
def Y5(c:Int)(d:Int):Nat->Int->(List Int)->Option ((List Int))
 |0,_,_=>none
 |fuel+1,a,b=>(if(decide (a<c))=true then(if(!decide (a=d))=true then(grd ((b.length + [a].length)*8<=140737488355328)).bind λ_=>(Y5 c d fuel (IntKind.i64.wrap (a+1)) (b ++ [a]))else(Y5 c d fuel (IntKind.i64.wrap (a+1)) b))else some (b))
def J4(b:Int)(c:Int)(d:Z0)(f:(List Bool)):Nat->Int->Int->Option (Int)
 |0,_,_=>none
 |fuel+1,e,a=>(if(bif(decide (a<b))then(decide (e=0))else false)=true then(Z01 (c,b,d) a).bind λg=>(grd (H0 g)).bind λ_=>(chk (!(decide (g<2))) (gi f a) false).bind λh=>(if(bif(decide (g<2))then true else(!h))=true then(J4 b c d f fuel a (IntKind.i64.wrap (a+1)))else(J4 b c d f fuel e (IntKind.i64.wrap (a+1))))else some (e))
def Z5:Nat->J0->Int->Int->Z0->Option ((j0×J0) ⊕ (Int×Int×Z0))
 |0,_,_,_,_=>none
 |fuel+1,b,c,a,d=>(f00 (c,a,d) 0).bind λl=>(J4 a c d l V0 0 1).bind (λe=>(if(decide (e=0))=true then some (.inl ((c,a,d),b))else(Y5 a e V0 0 ([]:J0)).bind (λm=>(z03 (c,a,d) m).bind λh=>match h with|(i,j,k)=>(X06 b 0 e).bind λf=>(X06 b (IntKind.i64.wrap (e+1)) (b.length:Int)).bind λg=>(grd ((f.length+g.length)*8<=140737488355328)).bind λ_=>(Z5 fuel (f++g) i j k))))
def J6(c:Int):Nat->Int->(List Int)->Option ((List Int))
 |0,_,_=>none
 |fuel+1,a,b=>(if(decide (a<c))=true then(grd ((b.length + [a].length)*8<=140737488355328)).bind λ_=>(J6 c fuel (IntKind.i64.wrap (a+1)) (b ++ [a]))else some (b))
def g8(h:j0):Option (j0×J0):=match h with|(b,a,c)=>(D3 (b,a,c)).bind λi=>match i with|(d,e,f)=>(G6 (b,a,c)).bind λj=>(if(!j)=true then some ((d,e,f),([]:J0))else(J6 a V0 0 ([]:J0)).bind (λk=>(Z5 V0 k d e f).bind λg=>l7 g (λ_=>none)))
def p00(e:j0):Option (Bool):=match e with|(b,a,c)=>(R6 (b,a,c)).bind λf=>(if(!f)=true then some false else(g8 (b,a,c)).bind λh=>match h with|(i,p)=>match i with|(n,d,o)=>(chk (decide (d=a)) (I7 (b,a,c)) (0,0,[])).bind λj=>match j with|(k,l,m)=>(chk (decide (d=a)) (G00 (k,l,m) (b,a,c)) false).bind λg=>some (bif(decide (d=a))then g else false))
def d02(a:Int):Option (j0×Bool):=(T4 a 1 3).bind λb=>(if(!b)=true then some ((0,0,[]),false)else some ((a,1,[]),true))
def I5(a:J0)(d:Int):Nat->Int->Int->Int->Int->Z0->Option (Int×Int×Z0)
 |0,_,_,_,_,_=>none
 |fuel+1,g,b,e,c,f=>(if(decide (b<((a.length:Nat):Int)))=true then(if(decide ((IntKind.i64.wrap (b+1))<((a.length:Nat):Int)))=true then(gi a b).bind λh=>(if(decide (h>0))=true then(gi a b).bind λi=>(K8 f (g,i,c)).bind λj=>(I5 a d fuel c (IntKind.i64.wrap (b+1)) e (IntKind.i64.wrap (c+1)) j)else(gi a b).bind λk=>(K8 f (c,(IntKind.i64.wrap (0-k)),g)).bind λl=>(I5 a d fuel c (IntKind.i64.wrap (b+1)) e (IntKind.i64.wrap (c+1)) l))else(gi a b).bind λm=>(if(decide (m>0))=true then(gi a b).bind λn=>(K8 f (g,n,d)).bind λo=>(I5 a d fuel d (IntKind.i64.wrap (b+1)) e c o)else(gi a b).bind λp=>(K8 f (d,(IntKind.i64.wrap (0-p)),g)).bind λq=>(I5 a d fuel d (IntKind.i64.wrap (b+1)) e c q)))else some (e,c,f))
def J00(n:j0)(g:Int)(b:J0)(h:Int):Option (j0×Bool):=match n with|(d,a,e)=>(N3 (d,a,e)).bind λo=>match o with|(i,j,k)=>(H4 (d,a,e)).bind λc=>(chk (!(!c)) (T4 g 0 (IntKind.i64.wrap (a-1))) false).bind λf=>(chk (!(bif(!c)then true else(!f))) (T4 h 0 (IntKind.i64.wrap (a-1))) false).bind λl=>(chk (!(bif(bif(!c)then true else(!f))then true else(!l))) (q01 d b) false).bind λp=>(if(bif(bif(bif(bif(bif(bif(!c)then true else(!f))then true else(!l))then true else(!p))then true else(decide (((b.length:Nat):Int)=0)))then true else(decide ((IntKind.i64.wrap ((IntKind.i64.wrap (a+((b.length:Nat):Int)))-1))>40)))then true else(decide ((IntKind.i64.wrap (((e.length:Nat):Int)+((b.length:Nat):Int)))>120)))=true then some ((i,j,k),false)else(I5 b h V0 g 0 i j k).bind (λm=>match m with|(y68,y69,y70)=>some ((y68,y69,y70),true)))
def e02(a:j0)(e:J0):Option (j0×Bool):=match a with|(b,c,d)=>(J00 (b,c,d) 0 e 0).bind λf=>match f with|(g,k)=>match g with|(h,i,j)=>some ((h,i,j),k)
def F7(a:O2):Nat->Int->Int->Int->Z0->Option (Int×Int×Z0)
 |0,_,_,_,_=>none
 |fuel+1,b,u8,d,c=>(if(decide (b<((a.length:Nat):Int)))=true then(gi a b).bind λe=>(e02 (u8,d,c) e).bind λf=>match f with|(g,k)=>match g with|(h,i,j)=>(F7 a fuel (IntKind.i64.wrap (b+1)) h i j)else some (u8,d,c))
def f02(a:Int)(b:O2):Option (j0×Bool):=(Z00 a b).bind λd=>(if(!d)=true then some ((0,0,[]),false)else(d02 a).bind λe=>match e with|(f,j)=>match f with|(g,h,i)=>(F7 b V0 0 g h i).bind (λc=>match c with|(y35,y36,y37)=>some ((y35,y36,y37),true)))
def S4(f:Z0)(g:Int):Nat->Int->(List F5)->Option ((List F5))
 |0,_,_=>none
 |fuel+1,u8,e=>(if(decide (u8<((f.length:Nat):Int)))=true then(gi f g).bind λj=>match j with|(c,h,a)=>(gi f u8).bind λk=>match k with|(d,i,b)=>(if(bif(decide (h=i))then(decide (c=d))else false)=true then(grd ((e.length+([((if b<a then b else a),(if b>a then b else a))]).length)*16<=140737488355328)).bind λ_=>(if(bif(decide (h=i))then(decide (a=b))else false)=true then(grd (((e ++ [((if b<a then b else a),(if b>a then b else a))]).length+([((if d<c then d else c),(if d>c then d else c))]).length)*16<=140737488355328)).bind λ_=>(S4 f g fuel (IntKind.i64.wrap (u8+1)) ((e ++ [((if b<a then b else a),(if b>a then b else a))]) ++ [((if d<c then d else c),(if d>c then d else c))]))else(S4 f g fuel (IntKind.i64.wrap (u8+1)) (e ++ [((if b<a then b else a),(if b>a then b else a))])))else(if(bif(decide (h=i))then(decide (a=b))else false)=true then(grd ((e.length+([((if d<c then d else c),(if d>c then d else c))]).length)*16<=140737488355328)).bind λ_=>(S4 f g fuel (IntKind.i64.wrap (u8+1)) (e ++ [((if d<c then d else c),(if d>c then d else c))]))else(S4 f g fuel (IntKind.i64.wrap (u8+1)) e)))else some (e))
def j8(b:Z0):Nat->Int->(List F5)->Option ((List F5))
 |0,_,_=>none
 |fuel+1,a,c=>(if(decide (a<((b.length:Nat):Int)))=true then(S4 b a V0 (IntKind.i64.wrap (a+1)) c).bind (λd=>(j8 b fuel (IntKind.i64.wrap (a+1)) d))else some (c))
def B02(a:j0):Option (M9):=match a with|(d,e,b)=>(j8 b V0 0 ([]:M9)).bind (λc=>some c)
def t00(e:j0):Option (F5×Bool):=match e with|(a,b,c)=>(H4 (a,b,c)).bind λf=>(if(!f)=true then some ((0,0),false)else(B02 (a,b,c)).bind λd=>(if(decide (((d.length:Nat):Int)=0))=true then some ((0,0),false)else(gi d 0).bind λg=>match g with|(h,i)=>some ((h,i),true)))
def N02(a:Int)(d:F5):Option (Int):=match d with|(b,c)=>(if(decide (a=c))=true then(if(decide (b>c))=true then some (IntKind.i64.wrap (b-1))else some b)else(if(decide (a>c))=true then some (IntKind.i64.wrap (a-1))else some a))
def c5(a:Z0)(b:Int)(c:Int):Nat->Int->Int->Int->Z0->Option (Int×Int×Z0)
 |0,_,_,_,_=>none
 |fuel+1,d,u8,f,e=>(if(decide (d<((a.length:Nat):Int)))=true then(gi a d).bind λi=>match i with|(j,k,l)=>(N02 j (b,c)).bind λg=>(grd (H0 g)).bind λn=>(N02 l (b,c)).bind λh=>(grd (H0 h)).bind λo=>(K8 e (g,k,h)).bind λm=>(c5 a b c fuel (IntKind.i64.wrap (d+1)) u8 f m)else some (u8,f,e))
def l8(g:j0)(h:F5):Option (j0×Bool):=match g with|(b,a,c)=>match h with|(d,e)=>(H4 (b,a,c)).bind λi=>(if(bif(bif(bif(!i)then true else(decide (d<0)))then true else(decide (d ≥ e)))then true else(decide (e ≥ a)))=true then(N3 (b,a,c)).bind λj=>match j with|(k,l,m)=>some ((k,l,m),false)else(c5 c d e V0 0 b (IntKind.i64.wrap (a-1)) ([]:Z0)).bind (λf=>match f with|(y29,y30,y31)=>some ((y29,y30,y31),true)))
def g02(f:j0):Option (j0×F5×Bool):=match f with|(a,b,c)=>(t00 (a,b,c)).bind λg=>match g with|(h,i)=>match h with|(d,e)=>(if(!i)=true then(N3 (a,b,c)).bind λj=>match j with|(k,l,m)=>some ((k,l,m),(0,0),false)else(l8 (a,b,c) (d,e)).bind λn=>match n with|(o,t)=>match o with|(p,q,s)=>some ((p,q,s),(d,e),true))
def T6:Nat->Int->Int->Int->Z0->(List F5)->Option ((j0×M9) ⊕ (Int×Int×Z0×(List F5)))
 |0,_,_,_,_,_=>none
 |fuel+1,d,b,c,u8,a=>(if(decide (d<40))=true then(g02 (b,c,u8)).bind λg=>match g with|(h,l,m)=>match h with|(i,j,k)=>match l with|(e,f)=>(if(!m)=true then some (.inl ((b,c,u8),a))else(grd ((a.length+([(e,f)]).length)*16<=140737488355328)).bind λ_=>(T6 fuel (IntKind.i64.wrap (d+1)) i j k (a ++ [(e,f)])))else some (.inr (b,c,u8,a)))
def N7(c:j0):Option (j0×M9):=match c with|(d,e,f)=>(N3 (d,e,f)).bind λg=>match g with|(h,i,j)=>(T6 V0 0 h i j ([]:M9)).bind λb=>l7 b (λa=>match a with|(y27,y28,y29,y30)=>some ((y27,y28,y29),y30))
def u00(f:j0):Option (j0×Bool):=match f with|(b,a,c)=>(N3 (b,a,c)).bind λg=>match g with|(d,h,e)=>(H4 (b,a,c)).bind λi=>(if(bif(!i)then true else(decide (a ≥ 40)))=true then some ((d,h,e),false)else some ((d,(IntKind.i64.wrap (a+1)),e),true))
def R9(k:j0)(l:N0):Option (j0×Bool):=match k with|(b,c,a)=>match l with|(d,e,f)=>(N3 (b,c,a)).bind λm=>match m with|(g,h,n)=>(H4 (b,c,a)).bind λi=>(chk (!(!i)) (o02 (b,c,a) (d,e,f)) false).bind λo=>(if(bif(bif(!i)then true else(!o))then true else(decide (((a.length:Nat):Int) ≥ 120)))=true then some ((g,h,n),false)else(K8 a (d,e,f)).bind λj=>some ((g,h,j),(decide (((j.length:Nat):Int)>((a.length:Nat):Int)))))
def j4(c:J0)(e:Int)(f:Int)(g:Z0)(b:Int):Nat->Int->(List N0)->Option ((List N0))
 |0,_,_=>none
 |fuel+1,a,d=>(if(decide (a<((c.length:Nat):Int)))=true then(gi c a).bind λj=>(I8 (e,f,g) b j).bind λh=>(grd (H0 h)).bind λ_=>(if(decide (h<0))=true then(gi c a).bind λi=>(grd ((d.length+([(b,i,(-1))]).length)*24<=140737488355328)).bind λ_=>(j4 c e f g b fuel (IntKind.i64.wrap (a+1)) (d ++ [(b,i,(-1))]))else(j4 c e f g b fuel (IntKind.i64.wrap (a+1)) d))else some (d))
def C5(a:Int)(b:Int)(d:Z0):Nat->Int->(List N0)->Option ((List N0))
 |0,_,_=>none
 |fuel+1,c,e=>(chk (decide (c<a)) (Q6 (b,a,d)) false).bind λf=>(if(bif(decide (c<a))then f else false)=true then(p9 b).bind λg=>(j4 g b a d c V0 0 e).bind (λh=>(C5 a b d fuel (IntKind.i64.wrap (c+1)) h))else some (e))
def U8(a:j0):Option (Z0):=match a with|(b,c,d)=>(C5 c b d V0 0 ([]:Z0)).bind (λe=>some e)
def C02(b:Int)(a:Int)(c:Int):Option (N0):=(if(decide (a<0))=true then some (c,(IntKind.i64.wrap (0-a)),b)else some (b,a,c))
def Z1(b:Z0)(c:Int)(d:Int)(e:Int):Nat->Int->Option ((Int) ⊕ (Unit))
 |0,_=>none
 |fuel+1,a=>(if(decide (a<((b.length:Nat):Int)))=true then(gi b a).bind λf=>match f with|(g,h,i)=>(if(eqE (c,d,e) (g,h,i))=true then some (.inl a)else(Z1 b c d e fuel (IntKind.i64.wrap (a+1))))else some (.inr ()))
def w5(b:Z0)(c:N0):Option (Int):=match c with|(d,e,f)=>(Z1 b d e f V0 0).bind λa=>l7 a (λ_=>some (-1))
def O3(b:Z0)(c:N0):Option (Bool):=match c with|(d,e,f)=>(w5 b (d,e,f)).bind λa=>(grd (H0 a)).bind λ_=>some (decide (a ≥ 0))
def U6(a:Int)(c:F5):Option (Int):=match c with|(d,b)=>(if(decide (a=b))=true then some d else(if(decide (a>b))=true then some (IntKind.i64.wrap (a-1))else some a))
def V6(a:J0)(e:Int):Nat->Int->Int->Int->Int->Z0->Option (Int×Int×Z0)
 |0,_,_,_,_,_=>none
 |fuel+1,g,b,f,c,d=>(if(decide (b<((a.length:Nat):Int)))=true then(gi a b).bind λh=>(if(decide (b<(IntKind.i64.wrap (((a.length:Nat):Int)-1))))=true then(C02 g h c).bind λo=>match o with|(i,j,k)=>(grd ((d.length+([(i,j,k)]).length)*24<=140737488355328)).bind λ_=>(V6 a e fuel c (IntKind.i64.wrap (b+1)) f (IntKind.i64.wrap (c+1)) (d ++ [(i,j,k)]))else(C02 g h e).bind λp=>match p with|(l,m,n)=>(grd ((d.length+([(l,m,n)]).length)*24<=140737488355328)).bind λ_=>(V6 a e fuel e (IntKind.i64.wrap (b+1)) f c (d ++ [(l,m,n)])))else some (f,c,d))
def K00(n:j0)(g:Int)(a:J0)(h:Int):Option (j0×Bool):=match n with|(b,c,d)=>(D3 (b,c,d)).bind λo=>match o with|(i,j,k)=>(G6 (b,c,d)).bind λe=>(chk (!(!e)) (S6 (b,c,d) g) false).bind λf=>(chk (!(bif(!e)then true else(!f))) (S6 (b,c,d) h) false).bind λl=>(chk (!(bif(bif(bif(!e)then true else(!f))then true else(!l))then true else(decide (((a.length:Nat):Int)=0)))) (r01 b a) false).bind λq=>(if(bif(bif(bif(bif(bif(bif(!e)then true else(!f))then true else(!l))then true else(decide (((a.length:Nat):Int)=0)))then true else(!q))then true else(decide ((IntKind.i64.wrap ((IntKind.i64.wrap (c+((a.length:Nat):Int)))-1))>40)))then true else(decide ((IntKind.i64.wrap (((d.length:Nat):Int)+((a.length:Nat):Int)))>120)))=true then some ((i,j,k),false)else(V6 a h V0 g 0 i j k).bind (λm=>match m with|(y35,y36,y37)=>(l00 y37).bind λp=>some ((y35,y36,p),true)))
def h02(a:Int):Option (j0×Bool):=(p6 a 1 3).bind λb=>(if(!b)=true then some ((0,0,[]),false)else some ((a,1,[]),true))
def i02(a:j0)(e:J0):Option (j0×Bool):=match a with|(b,c,d)=>(K00 (b,c,d) 0 e 0).bind λf=>match f with|(g,k)=>match g with|(h,i,j)=>some ((h,i,j),k)
def D6(a:O2):Nat->Int->Int->Int->Z0->Option (Int×Int×Z0)
 |0,_,_,_,_=>none
 |fuel+1,u8,d,b,c=>(if(decide (u8<((a.length:Nat):Int)))=true then(gi a u8).bind λe=>(if(decide (((e.length:Nat):Int)>0))=true then(i02 (d,b,c) e).bind λf=>match f with|(g,k)=>match g with|(h,i,j)=>(D6 a fuel (IntKind.i64.wrap (u8+1)) h i j)else(D6 a fuel (IntKind.i64.wrap (u8+1)) d b c))else some (d,b,c))
def j02(a:Int)(b:O2):Option (j0×Bool):=(a01 a b).bind λd=>(if(!d)=true then some ((0,0,[]),false)else(h02 a).bind λe=>match e with|(f,j)=>match f with|(g,h,i)=>(D6 b V0 0 g h i).bind (λc=>match c with|(y22,y23,y24)=>some ((y22,y23,y24),true)))
def J5(g:Z0)(h:Int)(b:Int)(a:Int):Nat->Int->(List F5)->Option ((List F5))
 |0,_,_=>none
 |fuel+1,f,e=>(if(decide (f<((g.length:Nat):Int)))=true then(gi g f).bind λi=>match i with|(d,j,c)=>(if(!decide (h=j))=true then(J5 g h b a fuel (IntKind.i64.wrap (f+1)) e)else(if(decide (b=d))=true then(grd ((e.length+([((if c<a then c else a),(if c>a then c else a))]).length)*16<=140737488355328)).bind λ_=>(if(decide (a=c))=true then(grd (((e ++ [((if c<a then c else a),(if c>a then c else a))]).length+([((if d<b then d else b),(if d>b then d else b))]).length)*16<=140737488355328)).bind λ_=>(J5 g h b a fuel (IntKind.i64.wrap (f+1)) ((e ++ [((if c<a then c else a),(if c>a then c else a))]) ++ [((if d<b then d else b),(if d>b then d else b))]))else(J5 g h b a fuel (IntKind.i64.wrap (f+1)) (e ++ [((if c<a then c else a),(if c>a then c else a))])))else(if(decide (a=c))=true then(grd ((e.length+([((if d<b then d else b),(if d>b then d else b))]).length)*16<=140737488355328)).bind λ_=>(J5 g h b a fuel (IntKind.i64.wrap (f+1)) (e ++ [((if d<b then d else b),(if d>b then d else b))]))else(J5 g h b a fuel (IntKind.i64.wrap (f+1)) e))))else some (e))
def S9(a:Z0):Nat->Int->(List F5)->Option ((List F5))
 |0,_,_=>none
 |fuel+1,b,c=>(if(decide (b<((a.length:Nat):Int)))=true then(gi a b).bind λd=>match d with|(e,f,g)=>(X06 a (IntKind.i64.wrap (b+1)) (a.length:Int)).bind λh=>(J5 h f e g V0 0 c).bind (λi=>(S9 a fuel (IntKind.i64.wrap (b+1)) i))else some (c))
def R03(a:j0):Option (M9):=match a with|(d,e,b)=>(S9 b V0 0 ([]:M9)).bind (λc=>some c)
def v00(e:j0):Option (F5×Bool):=match e with|(a,b,c)=>(G6 (a,b,c)).bind λf=>(if(!f)=true then some ((0,0),false)else(R03 (a,b,c)).bind λd=>(if(decide (((d.length:Nat):Int)=0))=true then some ((0,0),false)else(gi d 0).bind λg=>match g with|(h,i)=>some ((h,i),true)))
def d5(f:Z0)(c:Int)(d:Int):Nat->Int->Z0->Option (Z0)
 |0,_,_=>none
 |fuel+1,a,b=>(if(decide (a<((f.length:Nat):Int)))=true then(gi b a).bind λh=>match h with|(i,j,k)=>(U6 i (c,d)).bind λe=>(grd (H0 e)).bind λm=>(U6 k (c,d)).bind λg=>(grd (H0 g)).bind λn=>(gi b a).bind λl=>match l with|(o,p,q)=>(d5 f c d fuel (IntKind.i64.wrap (a+1)) (b.set a.toNat (e,j,g)))else some (b))
def n8(i:j0)(j:F5):Option (j0×Bool):=match i with|(e,a,f)=>match j with|(b,c)=>(D3 (e,a,f)).bind λk=>match k with|(g,h,d)=>(G6 (e,a,f)).bind λm=>(if(bif(bif(bif(!m)then true else(decide (b<0)))then true else(decide (b ≥ c)))then true else(decide (c ≥ a)))=true then some ((g,h,d),false)else(d5 d b c V0 0 d).bind (λn=>(l00 n).bind λl=>some ((g,(IntKind.i64.wrap (h-1)),l),true)))
def k02(f:j0):Option (j0×F5×Bool):=match f with|(a,b,c)=>(v00 (a,b,c)).bind λg=>match g with|(h,i)=>match h with|(d,e)=>(if(!i)=true then(D3 (a,b,c)).bind λj=>match j with|(k,l,m)=>some ((k,l,m),(0,0),false)else(n8 (a,b,c) (d,e)).bind λn=>match n with|(o,t)=>match o with|(p,q,s)=>some ((p,q,s),(d,e),true))
def o8:Nat->Int->Int->Z0->(List F5)->Option ((j0×M9) ⊕ (Int×Int×Z0×(List F5)))
 |0,_,_,_,_=>none
 |fuel+1,b,c,u8,a=>(k02 (b,c,u8)).bind λf=>match f with|(g,k,l)=>match g with|(h,i,j)=>match k with|(d,e)=>(if(!l)=true then some (.inl ((b,c,u8),a))else(grd ((a.length+([(d,e)]).length)*16<=140737488355328)).bind λ_=>(o8 fuel h i j (a ++ [(d,e)])))
def M8(b:j0):Option (j0×M9):=match b with|(c,d,e)=>(D3 (c,d,e)).bind λf=>match f with|(g,h,i)=>(o8 V0 g h i ([]:M9)).bind λa=>l7 a (λ_=>none)
def w00(g:j0):Option (j0×Bool):=match g with|(b,a,c)=>(D3 (b,a,c)).bind λh=>match h with|(d,e,f)=>(G6 (b,a,c)).bind λi=>(if(bif(!i)then true else(decide (a=40)))=true then some ((d,e,f),false)else some ((d,(IntKind.i64.wrap (e+1)),f),true))
def A01(l:j0)(m:N0):Option (j0×Bool):=match l with|(e,f,a)=>match m with|(b,c,d)=>(D3 (e,f,a)).bind λn=>match n with|(i,j,g)=>(G6 (e,f,a)).bind λh=>(chk (!(!h)) (Y7 (e,f,a) (b,c,d)) false).bind λk=>(chk (!(bif(!h)then true else(!k))) (O3 a (b,c,d)) false).bind λp=>(if(bif(bif(bif(!h)then true else(!k))then true else p)then true else(decide (((a.length:Nat):Int)=120)))=true then some ((i,j,g),false)else(grd ((g.length+([(b,c,d)]).length)*24<=140737488355328)).bind λ_=>(l00 (g ++ [(b,c,d)])).bind λo=>some ((i,j,o),true))
def l4(c:J0)(d:Int)(e:Int)(f:Z0)(u8:Int):Nat->Int->(List N0)->Option ((List N0))
 |0,_,_=>none
 |fuel+1,a,b=>(if(decide (a<((c.length:Nat):Int)))=true then(gi c a).bind λg=>(J8 (d,e,f) u8 g).bind λh=>(grd (H0 h)).bind λ_=>(if(decide (h<0))=true then(grd ((b.length+([(u8,g,(-1))]).length)*24<=140737488355328)).bind λ_=>(l4 c d e f u8 fuel (IntKind.i64.wrap (a+1)) (b ++ [(u8,g,(-1))]))else(l4 c d e f u8 fuel (IntKind.i64.wrap (a+1)) b))else some (b))
def D5(b:Int)(a:Int)(c:Z0):Nat->Int->(List N0)->Option ((List N0))
 |0,_,_=>none
 |fuel+1,u8,d=>(if(decide (u8<b))=true then(H00 a).bind λe=>(l4 e a b c u8 V0 0 d).bind (λf=>(D5 b a c fuel (IntKind.i64.wrap (u8+1)) f))else some (d))
def w6(d:j0):Option (Z0):=match d with|(a,b,c)=>(R6 (a,b,c)).bind λe=>(if(!e)=true then some ([]:Z0)else(D5 b a c V0 0 ([]:Z0)).bind (λf=>some f))
def R5(c:O2)(d:Int)(e:Int)(f:Z0)(a:Int):Nat->Int->Option ((Int×Int) ⊕ (Unit))
 |0,_=>none
 |fuel+1,b=>(if(decide (b<((c.length:Nat):Int)))=true then(gi c b).bind λh=>(b01 (d,e,f) a h).bind λi=>match i with|(g,j)=>(grd (H0 g)).bind λk=>(if(bif(!j)then true else(!decide (g=a)))=true then some (.inl (a,b))else(R5 c d e f a fuel (IntKind.i64.wrap (b+1))))else some (.inr ()))
def C4(a:Int)(d:Int)(e:O2)(c:Int)(f:Z0):Nat->Int->Option ((Int×Int) ⊕ (Unit))
 |0,_=>none
 |fuel+1,b=>(chk (decide (b<a)) (L4 (d,e)) false).bind λg=>(chk (bif(decide (b<a))then g else false) (Q6 (c,a,f)) false).bind λi=>(if(bif(bif(bif(decide (b<a))then g else false)then i else false)then(decide (d=c))else false)=true then(R5 e c a f b V0 0).bind λh=>I0h h (λ_=>(C4 a d e c f fuel (IntKind.i64.wrap (b+1))))else some (.inr ()))
def R7(b:D0)(e:j0):Option (Int×Int):=match b with|(c,d)=>match e with|(f,g,h)=>(C4 g c d f h V0 0).bind λa=>l7 a (λ_=>some ((-1),(-1)))
def S5(c:O2)(d:Int)(e:Int)(f:Z0)(b:Int):Nat->Int->Option ((Int×Int) ⊕ (Unit))
 |0,_=>none
 |fuel+1,a=>(if(decide (a<((c.length:Nat):Int)))=true then(gi c a).bind λg=>(Z9 (d,e,f) b g).bind λj=>match j with|(h,i)=>(grd (H0 h)).bind λ_=>(grd (H0 i)).bind λ_=>(if(bif(decide (i<((g.length:Nat):Int)))then true else(!decide (h=b)))=true then some (.inl (b,a))else(S5 c d e f b fuel (IntKind.i64.wrap (a+1))))else some (.inr ()))
def T5(a:Int)(c:O2)(d:Int)(e:Z0):Nat->Int->Option ((Int×Int) ⊕ (Unit))
 |0,_=>none
 |fuel+1,b=>(if(decide (b<a))=true then(S5 c d a e b V0 0).bind λf=>I0h f (λ_=>(T5 a c d e fuel (IntKind.i64.wrap (b+1))))else some (.inr ()))
def K6(h:D0)(i:j0):Option (Int×Int):=match h with|(b,c)=>match i with|(a,d,e)=>(M4 (b,c)).bind λf=>(chk (!(!f)) (R6 (a,d,e)) false).bind λj=>(if(bif(bif(!f)then true else(!j))then true else(!decide (b=a)))=true then some ((-1),(-1))else(T5 d c a e V0 0).bind λg=>l7 g (λ_=>some ((-1),(-1))))
def t9(m:D0)(n:j0):Option (j0×Bool×Bool):=match m with|(f,g)=>match n with|(b,a,c)=>(L4 (f,g)).bind λh=>(chk (!(!h)) (Q6 (b,a,c)) false).bind λw=>(if(bif(bif(!h)then true else(!w))then true else(!decide (f=b)))=true then(N3 (b,a,c)).bind λH=>match H with|(T,U,V)=>some ((T,U,V),false,false)else(R7 (f,g) (b,a,c)).bind λae=>match ae with|(e,l)=>(grd (H0 e)).bind λ_=>(grd (H0 l)).bind λ_=>(if(decide (e ≥ 0))=true then(gi g l).bind λo=>(J00 (b,a,c) e o e).bind λp=>match p with|(q,v)=>match q with|(s,t,u)=>(if(!v)=true then(N3 (b,a,c)).bind λx=>match x with|(y,z,A)=>some ((y,z,A),false,false)else(N7 (s,t,u)).bind λC=>match C with|(D,aD)=>match D with|(E,F,G)=>some ((E,F,G),true,true))else(U8 (b,a,c)).bind λd=>(if(decide (((d.length:Nat):Int)=0))=true then(N3 (b,a,c)).bind λI=>match I with|(J,K,L)=>some ((J,K,L),false,true)else(u00 (b,a,c)).bind λM=>match M with|(N,O)=>match N with|(i,j,k)=>(if(!O)=true then(N3 (b,a,c)).bind λP=>match P with|(Q,R,S)=>some ((Q,R,S),false,false)else(gi d 0).bind λW=>match W with|(X,aE,aF)=>(gi d 0).bind λY=>match Y with|(aG,Z,aH)=>(gi d 0).bind λaa=>match aa with|(aJ,ab,aK)=>(if(decide (ab<0))=true then(gi d 0).bind λac=>match ac with|(aL,ad,aM)=>(gi d 0).bind λaf=>match af with|(ag,aN,aO)=>(R9 (i,j,k) (a,(IntKind.i64.wrap (0-ad)),ag)).bind λah=>match ah with|(ai,am)=>match ai with|(aj,ak,al)=>(if(!am)=true then(N3 (b,a,c)).bind λan=>match an with|(ao,ap,aq)=>some ((ao,ap,aq),false,false)else some ((aj,ak,al),true,true))else(R9 (i,j,k) (X,Z,a)).bind λar=>match ar with|(au,ay)=>match au with|(av,aw,ax)=>(if(!ay)=true then(N3 (b,a,c)).bind λaz=>match az with|(aA,aB,aC)=>some ((aA,aB,aC),false,false)else some ((av,aw,ax),true,true)))))))
def w9(n:D0)(o:j0):Option (j0×Bool×Bool):=match n with|(e,f)=>match o with|(a,b,c)=>(M4 (e,f)).bind λh=>(chk (!(!h)) (R6 (a,b,c)) false).bind λx=>(if(bif(bif(!h)then true else(!x))then true else(!decide (e=a)))=true then(D3 (a,b,c)).bind λI=>match I with|(P,Q,R)=>some ((P,Q,R),false,false)else(K6 (e,f) (a,b,c)).bind λag=>match ag with|(d,m)=>(grd (H0 d)).bind λ_=>(grd (H0 m)).bind λ_=>(if(decide (d ≥ 0))=true then(gi f m).bind λp=>(K00 (a,b,c) d p d).bind λq=>match q with|(s,w)=>match s with|(t,u,v)=>(if(!w)=true then(D3 (a,b,c)).bind λy=>match y with|(z,A,C)=>some ((z,A,C),false,false)else(M8 (t,u,v)).bind λD=>match D with|(E,ap)=>match E with|(F,G,H)=>some ((F,G,H),true,true))else(w6 (a,b,c)).bind λg=>(if(decide (((g.length:Nat):Int)=0))=true then(D3 (a,b,c)).bind λJ=>match J with|(K,L,M)=>some ((K,L,M),false,true)else(w00 (a,b,c)).bind λN=>match N with|(O,l)=>match O with|(i,j,k)=>(if l=true then(gi g 0).bind λS=>match S with|(T,aq,ar)=>(gi g 0).bind λU=>match U with|(au,V,av)=>(C02 T V b).bind λW=>match W with|(X,Y,Z)=>(A01 (i,j,k) (X,Y,Z)).bind λaa=>match aa with|(ab,af)=>match ab with|(ac,ad,ae)=>(if(!af)=true then(D3 (a,b,c)).bind λah=>match ah with|(ai,aj,ak)=>some ((ai,aj,ak),false,false)else some ((ac,ad,ae),true,true))else(if(!l)=true then(D3 (a,b,c)).bind λal=>match al with|(am,an,ao)=>some ((am,an,ao),false,false)else some ((i,j,k),true,true))))))
def c6(e:Int)(f:Int)(d:J0):Nat->Int->(List Int)->(List Int)->Option ((List Int)×(List Int))
 |0,_,_,_=>none
 |fuel+1,a,b,c=>(if(decide (a<e))=true then(if(!decide (a=f))=true then(grd ((b.length + [a].length)*8<=140737488355328)).bind λ_=>(gi d a).bind λg=>(grd ((c.length + [g].length)*8<=140737488355328)).bind λ_=>(c6 e f d fuel (IntKind.i64.wrap (a+1)) (b ++ [a]) (c ++ [g]))else(c6 e f d fuel (IntKind.i64.wrap (a+1)) b c))else some (b,c))
def L6(g:Int)(h:Int)(i:Z0):Nat->J0->Int->Int->Int->Z0->Option ((j0×J0) ⊕ (J0×Int×Int×Z0))
 |0,_,_,_,_,_=>none
 |fuel+1,d,e,b,a,c=>(chk (decide (e<40)) (H4 (g,h,i)) false).bind λk=>(if(bif(decide (e<40))then k else false)=true then(p02 (b,a,c)).bind λf=>(grd (H0 f)).bind λ_=>(if(decide (f<0))=true then some (.inl ((b,a,c),d))else(c6 a f d V0 0 ([]:J0) ([]:J0)).bind (λj=>match j with|(y52,y53)=>(c8 (b,a,c) y52).bind λl=>match l with|(m,q)=>match m with|(n,o,p)=>(L6 g h i fuel y53 (IntKind.i64.wrap (e+1)) n o p)))else some (.inr (d,b,a,c)))
def M6(b:Int)(d:Int)(e:Z0):Nat->Int->(List Int)->Option ((List Int))
 |0,_,_=>none
 |fuel+1,a,c=>(chk (decide (a<b)) (H4 (d,b,e)) false).bind λf=>(if(bif(decide (a<b))then f else false)=true then(grd ((c.length + [a].length)*8<=140737488355328)).bind λ_=>(M6 b d e fuel (IntKind.i64.wrap (a+1)) (c ++ [a]))else some (c))
def C01(f:j0):Option (j0×J0):=match f with|(a,b,c)=>(N3 (a,b,c)).bind λg=>match g with|(h,i,j)=>(M6 b a c V0 0 ([]:J0)).bind (λk=>(L6 a b c V0 k 0 h i j).bind λe=>l7 e (λd=>match d with|(y132,y133,y134,y135)=>some ((y133,y134,y135),y132)))
def x00(a:j0):Option (j0):=match a with|(b,c,d)=>(N7 (b,c,d)).bind λe=>match e with|(f,t)=>match f with|(g,h,i)=>(C01 (g,h,i)).bind λj=>match j with|(k,u)=>match k with|(l,m,n)=>(H7 (l,m,n)).bind λo=>match o with|(p,q,s)=>some (p,q,s)
def y00(a:j0):Option (j0):=match a with|(b,c,d)=>(M8 (b,c,d)).bind λe=>match e with|(f,t)=>match f with|(g,h,i)=>(g8 (g,h,i)).bind λj=>match j with|(k,u)=>match k with|(l,m,n)=>(I7 (l,m,n)).bind λo=>match o with|(p,q,s)=>some (p,q,s)
def w4(c:J0):Nat->Int->(List Int)->Option ((List Int))
 |0,_,_=>none
 |fuel+1,a,b=>(if(decide (a ≥ 0))=true then(gi c a).bind λd=>(grd ((b.length+([(IntKind.i64.wrap (0-d))]).length)*8<=140737488355328)).bind λ_=>(w4 c fuel (IntKind.i64.wrap (a-1)) (b ++ [(IntKind.i64.wrap (0-d))]))else some (b))
def O5(a:J0):Option (J0):=(w4 a V0 (IntKind.i64.wrap (((a.length:Nat):Int)-1)) ([]:J0)).bind (λb=>some b)
def l3(c:J0):Nat->Int->(List Int)->Option ((List Int))
 |0,_,_=>none
 |fuel+1,d,b=>(if(decide (d<((c.length:Nat):Int)))=true then(some b.length).bind λa=>(grd (a<=9223372036854775807)).bind λ_=>(chk (decide (((a:Nat):Int)>0)) (gi c d) 0).bind λe=>(chk (bif(decide (((a:Nat):Int)>0))then(!decide (e=0))else false) (gi b (IntKind.i64.wrap (((a:Nat):Int)-1))) 0).bind λf=>(chk (bif(decide (((a:Nat):Int)>0))then(!decide (e=0))else false) (gi c d) 0).bind λg=>(chk (bif(bif(decide (((a:Nat):Int)>0))then(!decide (e=0))else false)then(decide (f=(IntKind.i64.wrap (0-g))))else false) (gi b (IntKind.i64.wrap (((a:Nat):Int)-1))) 0).bind λi=>(chk (bif(bif(decide (((a:Nat):Int)>0))then(!decide (e=0))else false)then(decide (f=(IntKind.i64.wrap (0-g))))else false) (gi c d) 0).bind λj=>(if(bif(bif(bif(decide (((a:Nat):Int)>0))then(!decide (e=0))else false)then(decide (f=(IntKind.i64.wrap (0-g))))else false)then(!decide (i=j))else false)=true then(grd (0<=(IntKind.i64.wrap (((a:Nat):Int)-1))/\(IntKind.i64.wrap (((a:Nat):Int)-1))<=(b.length:Int))).bind λ_=>(l3 c fuel (IntKind.i64.wrap (d+1)) (b.take (IntKind.i64.wrap (((a:Nat):Int)-1)).toNat))else(gi c d).bind λh=>(grd ((b.length + [h].length)*8<=140737488355328)).bind λ_=>(l3 c fuel (IntKind.i64.wrap (d+1)) (b ++ [h])))else some (b))
def Y2(b:J0):Option (J0):=(l3 b V0 0 ([]:J0)).bind (λa=>(grd ((([]:J0).length+a.length)*8<=140737488355328)).bind λ_=>some (([]:J0)++a))
def Y3(a:J0)(b:J0):Option (J0):=(grd ((([]:J0).length+a.length)*8<=140737488355328)).bind λ_=>(grd (((([]:J0)++a).length+b.length)*8<=140737488355328)).bind λ_=>(Y2 ((([]:J0)++a)++b)).bind λc=>some c
def p8(b:J0)(a:J0):Option (J0):=(O5 a).bind λc=>(Y3 c b).bind λd=>(Y3 d a).bind λe=>some e
def W6(e:J0):Nat->Int->(List Int)->Option ((List Int))
 |0,_,_=>none
 |fuel+1,d,a=>(if(decide (d<((e.length:Nat):Int)))=true then(gi e d).bind λf=>(some a.length).bind λb=>(grd (b<=9223372036854775807)).bind λ_=>(some a.length).bind λg=>(grd (g<=9223372036854775807)).bind λ_=>(chk (decide (((b:Nat):Int)>0)) (gi a (IntKind.i64.wrap (((g:Nat):Int)-1))) 0).bind λh=>(chk (decide (((b:Nat):Int)>0)) (H8 h f) false).bind λi=>(if(bif(decide (((b:Nat):Int)>0))then i else false)=true then(some a.length).bind λc=>(grd (c<=9223372036854775807)).bind λ_=>(grd (0<=(IntKind.i64.wrap (((c:Nat):Int)-1))/\(IntKind.i64.wrap (((c:Nat):Int)-1))<=(a.length:Int))).bind λ_=>(W6 e fuel (IntKind.i64.wrap (d+1)) (a.take (IntKind.i64.wrap (((c:Nat):Int)-1)).toNat))else(grd ((a.length + [f].length)*8<=140737488355328)).bind λ_=>(W6 e fuel (IntKind.i64.wrap (d+1)) (a ++ [f])))else some (a))
def r8(a:O2):Nat->Int->(List Int)->Option ((List Int))
 |0,_,_=>none
 |fuel+1,b,c=>(if(decide (b<((a.length:Nat):Int)))=true then(gi a b).bind λd=>(W6 d V0 0 c).bind (λe=>(r8 a fuel (IntKind.i64.wrap (b+1)) e))else some (c))
def E02(a:O2):Option (J0):=(r8 a V0 0 ([]:J0)).bind (λb=>some b)
def T3(a:Int)(b:O2):Nat->Int->Int->Int->Z0->Option ((j0×Bool) ⊕ (Int×Int×Z0))
 |0,_,_,_,_=>none
 |fuel+1,c,d,e,f=>(if(decide (c<300))=true then(t9 (a,b) (d,e,f)).bind λj=>match j with|(k,l,m)=>match k with|(g,h,i)=>(if(!m)=true then some (.inl ((0,0,[]),false))else(if(!l)=true then(x00 (g,h,i)).bind λn=>match n with|(o,p,q)=>some (.inl ((o,p,q),true))else(T3 a b fuel (IntKind.i64.wrap (c+1)) g h i)))else some (.inr (d,e,f)))
def i5(f:D0)(g:O2):Option (j0×Bool):=match f with|(a,b)=>(f02 a g).bind λh=>match h with|(i,c)=>match i with|(j,k,l)=>(chk (!(!c)) (L4 (a,b)) false).bind λm=>(if(bif(!c)then true else(!m))=true then some ((0,0,[]),false)else(N7 (j,k,l)).bind λn=>match n with|(o,t)=>match o with|(p,q,s)=>(T3 a b V0 0 p q s).bind λe=>l7 e (λd=>match d with|(y26,y27,y28)=>some ((0,0,[]),false)))
def z9(a:D0)(d:O2):Option (Int):=match a with|(b,c)=>(i5 (b,c) d).bind λe=>match e with|(f,h)=>match f with|(i,g,j)=>(if(!h)=true then some (-1)else some g)
def A9(b:D0):Option (Int):=match b with|(c,d)=>(z9 (c,d) ([]:O2)).bind λa=>(grd (H0 a)).bind λ_=>some a
def d01(e:j0)(f:J0):Option (Bool):=match e with|(a,b,c)=>(Y2 f).bind λg=>(b01 (a,b,c) 0 g).bind λi=>match i with|(d,j)=>(grd (H0 d)).bind λk=>(i01 (a,b,c)).bind λh=>some (bif(bif h then j else false)then(decide (d=0))else false)
def L00(d:D0)(b:J0):Option (Bool×Bool):=match d with|(a,e)=>(i5 (a,e) ([]:O2)).bind λg=>match g with|(h,c)=>match h with|(i,j,k)=>(chk (!(!c)) (q01 a b) false).bind λl=>(if(bif(!c)then true else(!l))=true then some (false,false)else(d01 (i,j,k) b).bind λf=>some (f,true))
def U3(d:Int)(e:O2):Nat->Int->Int->Int->Z0->Option ((j0×Bool) ⊕ (Int×Int×Z0))
 |0,_,_,_,_=>none
 |fuel+1,f,a,b,c=>(if(decide (f<300))=true then(w9 (d,e) (a,b,c)).bind λg=>match g with|(h,l,m)=>match h with|(i,j,k)=>(if(!m)=true then some (.inl ((0,0,[]),false))else(if(!l)=true then(y00 (a,b,c)).bind λn=>match n with|(o,p,q)=>some (.inl ((o,p,q),true))else(U3 d e fuel (IntKind.i64.wrap (f+1)) i j k)))else some (.inr (a,b,c)))
def d6(e:D0)(f:O2):Option (j0×Bool):=match e with|(a,b)=>(M4 (a,b)).bind λg=>(if(!g)=true then some ((0,0,[]),false)else(j02 a f).bind λh=>match h with|(i,m)=>match i with|(j,k,l)=>(if(!m)=true then some ((0,0,[]),false)else(M8 (j,k,l)).bind λn=>match n with|(o,t)=>match o with|(p,q,s)=>(U3 a b V0 0 p q s).bind λd=>l7 d (λc=>match c with|(y31,y32,y33)=>some ((0,0,[]),false))))
def B9(a:D0)(d:O2):Option (Int):=match a with|(b,c)=>(d6 (b,c) d).bind λe=>match e with|(f,h)=>match f with|(i,g,j)=>(if(!h)=true then some (-1)else some g)
def M00(b:D0):Option (Int):=match b with|(c,d)=>(B9 (c,d) []).bind λa=>(grd (H0 a)).bind λ_=>some a
def n5(d:j0)(a:J0):Option (Bool):=match d with|(e,f,g)=>(Z9 (e,f,g) 0 a).bind λh=>match h with|(b,c)=>(grd (H0 b)).bind λ_=>(grd (H0 c)).bind λ_=>some (bif(decide (c=((a.length:Nat):Int)))then(decide (b=0))else false)
def N00(d:D0)(b:J0):Option (Bool×Bool):=match d with|(a,e)=>(d6 (a,e) []).bind λf=>match f with|(g,c)=>match g with|(h,i,j)=>(chk (!(!c)) (r01 a b) false).bind λk=>(if(bif(!c)then true else(!k))=true then some (false,false)else(n5 (h,i,j) b).bind λl=>some (l,true))
def U9(f:j0):Option (Bool):=match f with|(a,b,c)=>(p00 (a,b,c)).bind λd=>(chk d (w6 (a,b,c)) []).bind λe=>(grd (e.length<=9223372036854775807)).bind λg=>some (bif d then(decide (((e.length:Nat):Int)=0))else false)
def s8(a:J0):Option (J0):=(E02 [a]).bind λb=>some b
def U5(a:O2)(c:Int)(d:Int)(e:Z0):Nat->Int->Option ((Bool) ⊕ (Unit))
 |0,_=>none
 |fuel+1,b=>(if(decide (b<((a.length:Nat):Int)))=true then(gi a b).bind λg=>(s8 g).bind λh=>(n5 (c,d,e) h).bind λf=>(if(!f)=true then some (.inl false)else(U5 a c d e fuel (IntKind.i64.wrap (b+1))))else some (.inr ()))
def S7(e:j0)(f:O2):Option (Bool):=match e with|(a,b,c)=>(p00 (a,b,c)).bind λg=>(if(!g)=true then some false else(U5 f a b c V0 0).bind λd=>l7 d (λ_=>some true))
def e01(e:j0)(f:J0):Option (Bool):=match e with|(b,c,d)=>(p00 (b,c,d)).bind λa=>(chk a (s8 f) []).bind λg=>(chk a (n5 (b,c,d) g) false).bind λh=>some (bif a then h else false)
def c0o(a b:Int):Int:=IntKind.i64.wrap ((BitVec.ofInt 64 a &&& BitVec.ofInt 64 b).toNat:Int)
def e0v(a b:Int):Int:=IntKind.i64.wrap ((BitVec.ofInt 64 a ^^^ BitVec.ofInt 64 b).toNat:Int)
def V9(b:List Int):Nat->Int->Int->Option Int
 |0,_,_=>none
 |fuel+1,c,a=>if(bif decide (a<((b.length:Nat):Int))then decide (a<4000)else false)=true then(gi b a).bind λx=>V9 b fuel (c0o (IntKind.i64.wrap (IntKind.i64.wrap (IntKind.i64.wrap (c*131)+IntKind.i64.wrap x)+7)) 1073741823) (IntKind.i64.wrap (a+1))else some c
def k01(a:List Int):Option (Int×Int):=(V9 a V0 (IntKind.i64.wrap (10101+((a.length:Nat):Int))) 0).bind λy=>some (0,y)
def nxt(q:Int):Int:=IntKind.i64.wrap (IntKind.i64.wrap (q*6364136223846793005)+1442695040888963407)
def drw(q:Int):Int:=c0o (e0v (Int.fdiv q (2 ^ min (33:Int).toNat 64)) (Int.fdiv q (2 ^ min (45:Int).toNat 64))) 255
def H9(a:List Int)(q:Int×Int):Option (Int×(Int×Int)) :=
 if decide (q.1<((a.length:Nat):Int))=true then(gi a q.1).bind λc=>some (c0o (IntKind.i64.wrap (drw (nxt q.2)+IntKind.i64.wrap c)) 255,(IntKind.i64.wrap (q.1+1),nxt q.2))else some (drw (nxt q.2),(q.1,nxt q.2))
def E2(b:List Int)(c:Int×Int)(a:Int):Option (Int×(Int×Int)):=(if(decide (a<=0))=true then some (0,c)else(if(decide (a<=256))=true then(H9 b c).bind λo=>match o with|(g,p)=>(grd (H0 g)).bind λ_=>(grd (a≠0)).bind λ_=>some ((Int.tmod g a),p)else(H9 b c).bind λq=>match q with|(h,s)=>(grd (H0 h)).bind λ_=>(H9 b s).bind λi=>match i with|(d,j)=>(grd (H0 d)).bind λ_=>(H9 b j).bind λk=>match k with|(e,l)=>(grd (H0 e)).bind λ_=>(H9 b l).bind λm=>match m with|(f,n)=>(grd (H0 f)).bind λ_=>(grd (a≠0)).bind λ_=>some ((Int.tmod (IntKind.i64.wrap ((IntKind.i64.wrap ((IntKind.i64.wrap ((IntKind.i64.wrap (h*16777216))+(IntKind.i64.wrap (d*65536))))+(IntKind.i64.wrap (e*256))))+f)) a),n)))
def r02(b:List Int)(c:Int×Int)(d:Int):Option (Bool×(Int×Int)):=(E2 b c d).bind λe=>match e with|(a,f)=>(grd (H0 a)).bind λ_=>some ((decide (a=0)),f)
def A00(c:List Int)(d:Int×Int)(a:J0):Option (Int×(Int×Int)):=(E2 c d ((a.length:Nat):Int)).bind λe=>match e with|(b,f)=>(grd (H0 b)).bind λ_=>(gi a b).bind λg=>some (g,f)
def C8(c:(List Int))(d:Int):Nat->Int->(List Int)->(Int×Int)->Option ((List Int)×(Int×Int))
 |0,_,_,_=>none
 |fuel+1,e,a,u8=>(if(decide (e>0))=true then(E2 c u8 d).bind λg=>match g with|(b,h)=>(grd (H0 b)).bind λ_=>(r02 c h 2).bind λi=>match i with|(j,f)=>(if j=true then(grd ((a.length+([(IntKind.i64.wrap (0-(IntKind.i64.wrap (1+b))))]).length)*8<=140737488355328)).bind λ_=>(C8 c d fuel (IntKind.i64.wrap (e-1)) (a ++ [(IntKind.i64.wrap (0-(IntKind.i64.wrap (1+b))))]) f)else(grd ((a.length+([(IntKind.i64.wrap (1+b))]).length)*8<=140737488355328)).bind λ_=>(C8 c d fuel (IntKind.i64.wrap (e-1)) (a ++ [(IntKind.i64.wrap (1+b))]) f))else some (a,u8))
def M01(a:List Int)(d:Int×Int)(e:Int)(f:Int):Option (J0×(Int×Int)):=(E2 a d (IntKind.i64.wrap (f+1))).bind λg=>match g with|(b,h)=>(grd (H0 b)).bind λ_=>(C8 a e V0 b ([]:J0) h).bind (λc=>match c with|(y36,y37)=>(Y2 y36).bind λi=>some (i,y37))
def Y6(a:(List Int)):Nat->Int->Int->Int->Z0->(Int×Int)->Option (Int×Int×Z0×(Int×Int))
 |0,_,_,_,_,_=>none
 |fuel+1,d,c,b,e,f=>(if(decide (d>0))=true then(E2 a f b).bind λj=>match j with|(g,k)=>(grd (H0 g)).bind λ_=>(E2 a k c).bind λl=>match l with|(h,m)=>(grd (H0 h)).bind λ_=>(E2 a m b).bind λn=>match n with|(i,o)=>(grd (H0 i)).bind λ_=>(R9 (c,b,e) (g,(IntKind.i64.wrap (1+h)),i)).bind λp=>match p with|(q,v)=>match q with|(s,t,u)=>(Y6 a fuel (IntKind.i64.wrap (d-1)) s t u o)else some (c,b,e,f))
def E01(a:List Int)(f:Int×Int):Option (j0×(Int×Int)):=(A00 a f ([1,2,2,2,3])).bind λk=>match k with|(d,l)=>(grd (H0 d)).bind λ_=>(E2 a l 5).bind λg=>match g with|(b,h)=>(grd (H0 b)).bind λ_=>(E2 a h 9).bind λi=>match i with|(c,j)=>(grd (H0 c)).bind λ_=>(Y6 a V0 c d (IntKind.i64.wrap (1+b)) ([]:Z0) j).bind (λe=>match e with|(y49,y50,y51,y52)=>some ((y49,y50,y51),y52))
def V03(a:List Int)(j:Int×Int):Option (j0×(Int×Int)):=(E01 a j).bind λk=>match k with|(l,m)=>match l with|(e,f,b)=>(E2 a m 14).bind λn=>match n with|(c,d)=>(grd (H0 c)).bind λ_=>(if(decide (c=0))=true then(A00 a d ([(-1),0,1,41])).bind λo=>match o with|(h,p)=>(grd (H0 h)).bind λ_=>some ((e,h,b),p)else(if(decide (c=1))=true then(A00 a d ([0,1,4])).bind λq=>match q with|(i,s)=>(grd (H0 i)).bind λ_=>some ((i,f,b),s)else(if(decide (c=2))=true then(E2 a d 4).bind λt=>match t with|(g,u)=>(grd (H0 g)).bind λ_=>(grd ((b.length+([(g,1,0)]).length)*24<=140737488355328)).bind λ_=>some ((e,f,(b ++ [(g,1,0)])),u)else some ((e,f,b),d))))
def p7:Nat->J0->(List Int)->Option (J0×(List Int))
 |0,_,_=>none
 |fuel+1,a,b=>(chk (decide (((a.length:Nat):Int)>1)) (gi a 0) 0).bind λd=>(chk (decide (((a.length:Nat):Int)>1)) (gi a (IntKind.i64.wrap (((a.length:Nat):Int)-1))) 0).bind λc=>(chk (bif(decide (((a.length:Nat):Int)>1))then(decide (d=(IntKind.i64.wrap (0-c))))else false) (gi a 0) 0).bind λf=>(chk (bif(decide (((a.length:Nat):Int)>1))then(decide (d=(IntKind.i64.wrap (0-c))))else false) (gi a 0) 0).bind λg=>(if(bif(bif(decide (((a.length:Nat):Int)>1))then(decide (d=(IntKind.i64.wrap (0-c))))else false)then(!decide (f=(IntKind.i64.wrap (0-g))))else false)=true then(gi a 0).bind λe=>(grd ((b.length + [e].length)*8<=140737488355328)).bind λ_=>(X06 a 1 (IntKind.i64.wrap (((a.length:Nat):Int)-1))).bind λh=>(p7 fuel h (b ++ [e]))else some (a,b))
def a00(b:J0):Option (J0×J0):=(Y2 b).bind λc=>(p7 V0 c ([]:J0)).bind (λa=>match a with|(y28,y29)=>(grd ((([]:J0).length+y28.length)*8<=140737488355328)).bind λ_=>some ((([]:J0)++y28),y29))
def o5:Nat->Int->ByteArray->Option (ByteArray)
 |0,_,_=>none
 |fuel+1,a,b=>(if(!decide (a=0))=true then(grd (10≠0)).bind λ_=>(if(decide ((Int.tmod a 10)<0))=true then(grd ([(IntKind.u8.wrap (IntKind.i64.wrap (48+(IntKind.i64.wrap (0-(Int.tmod a 10))))))].length<=9223372036854775807)).bind λ_=>(grd ((strOfNums [(IntKind.u8.wrap (IntKind.i64.wrap (48+(IntKind.i64.wrap (0-(Int.tmod a 10))))))]).size+b.size<=9223372036854775807)).bind λ_=>(grd (10≠0)).bind λ_=>(o5 fuel (IntKind.i64.wrap (Int.tdiv a 10)) ((strOfNums [(IntKind.u8.wrap (IntKind.i64.wrap (48+(IntKind.i64.wrap (0-(Int.tmod a 10))))))])++b))else(grd ([(IntKind.u8.wrap (IntKind.i64.wrap (48+(Int.tmod a 10))))].length<=9223372036854775807)).bind λ_=>(grd ((strOfNums [(IntKind.u8.wrap (IntKind.i64.wrap (48+(Int.tmod a 10))))]).size+b.size<=9223372036854775807)).bind λ_=>(grd (10≠0)).bind λ_=>(o5 fuel (IntKind.i64.wrap (Int.tdiv a 10)) ((strOfNums [(IntKind.u8.wrap (IntKind.i64.wrap (48+(Int.tmod a 10))))])++b)))else some (b))
def F01(a:Int):Option (ByteArray):=(if(decide (a=0))=true then some (⟨#[48]⟩:ByteArray)else(o5 V0 a (⟨#[]⟩:ByteArray)).bind (λb=>(if(decide (a<0))=true then(grd ((⟨#[45]⟩:ByteArray).size+b.size<=9223372036854775807)).bind λ_=>some ((⟨#[45]⟩:ByteArray)++b)else some b)))
def l02(a:Int):Option (Bool):=(chk (!decide (a=0)) (T4 a (-3) 3) false).bind λb=>some (bif(!decide (a=0))then b else false)
def F04(a:Int):Option (ByteArray):=(if(decide (a<0))=true then(gi [(⟨#[65]⟩:ByteArray),(⟨#[66]⟩:ByteArray),(⟨#[67]⟩:ByteArray)] (IntKind.i64.wrap ((IntKind.i64.wrap (0-a))-1))).bind λb=>some b else(gi [(⟨#[97]⟩:ByteArray),(⟨#[98]⟩:ByteArray),(⟨#[99]⟩:ByteArray)] (IntKind.i64.wrap (a-1))).bind λc=>some c)
def A6(a:J0):Nat->ByteArray->Int->Option ((ByteArray) ⊕ (ByteArray))
 |0,_,_=>none
 |fuel+1,c,b=>(if(decide (b<((a.length:Nat):Int)))=true then(gi a b).bind λf=>(l02 f).bind λg=>(if(!g)=true then some (.inl (⟨#[]⟩:ByteArray))else(gi a b).bind λe=>(F04 e).bind λd=>(grd (d.size<=9223372036854775807)).bind λ_=>(grd (c.size+d.size<=9223372036854775807)).bind λ_=>(A6 a fuel (c++d) (IntKind.i64.wrap (b+1))))else some (.inr (c)))
def b00(c:J0):Option (ByteArray):=(A6 c V0 (⟨#[]⟩:ByteArray) 0).bind λb=>l7 b (λa=>(if(l0c a (⟨#[]⟩:ByteArray))=true then some (⟨#[49]⟩:ByteArray)else some a))
def Z3(c:O2):Nat->ByteArray->Int->Option ((ByteArray) ⊕ (ByteArray))
 |0,_,_=>none
 |fuel+1,a,b=>(if(decide (b<((c.length:Nat):Int)))=true then(if(decide (b>0))=true then(grd (a.size+(⟨#[44]⟩:ByteArray).size<=9223372036854775807)).bind λ_=>(gi c b).bind λg=>(b00 g).bind λd=>(grd (d.size<=9223372036854775807)).bind λ_=>(if(l0c d (⟨#[]⟩:ByteArray))=true then some (.inl (⟨#[]⟩:ByteArray))else(grd ((a++(⟨#[44]⟩:ByteArray)).size+d.size<=9223372036854775807)).bind λ_=>(Z3 c fuel ((a++(⟨#[44]⟩:ByteArray))++d) (IntKind.i64.wrap (b+1))))else(gi c b).bind λf=>(b00 f).bind λe=>(grd (e.size<=9223372036854775807)).bind λ_=>(if(l0c e (⟨#[]⟩:ByteArray))=true then some (.inl (⟨#[]⟩:ByteArray))else(grd (a.size+e.size<=9223372036854775807)).bind λ_=>(Z3 c fuel (a++e) (IntKind.i64.wrap (b+1)))))else some (.inr (a)))
def O00(c:O2):Option (ByteArray):=(Z3 c V0 (⟨#[]⟩:ByteArray) 0).bind λb=>l7 b (λa=>(if(l0c a (⟨#[]⟩:ByteArray))=true then some (⟨#[110,111,110,101]⟩:ByteArray)else some a))
def g7(e:D0):Option (ByteArray):=match e with|(c,d)=>(L4 (c,d)).bind λf=>(if(!f)=true then some (⟨#[]⟩:ByteArray)else(F01 c).bind λa=>(grd (a.size<=9223372036854775807)).bind λ_=>(grd (a.size+(⟨#[32]⟩:ByteArray).size<=9223372036854775807)).bind λ_=>(O00 d).bind λb=>(grd (b.size<=9223372036854775807)).bind λ_=>(grd ((a++(⟨#[32]⟩:ByteArray)).size+b.size<=9223372036854775807)).bind λ_=>some ((a++(⟨#[32]⟩:ByteArray))++b))
def n4:Nat->Int->Int->(List Int)->Option ((List Int))
 |0,_,_,_=>none
 |fuel+1,a,c,b=>(if(decide (a<c))=true then(gi b c).bind λd=>(gi b a).bind λe=>(gi b a).bind λf=>(gi (b.set a.toNat d) c).bind λg=>(n4 fuel (IntKind.i64.wrap (a+1)) (IntKind.i64.wrap (c-1)) ((b.set a.toNat d).set c.toNat e))else some (b))
def p5:Nat->Int->(List Int)->Option ((List Int))
 |0,_,_=>none
 |fuel+1,a,b=>(if(!decide (a=0))=true then(grd (10≠0)).bind λ_=>(if(decide ((Int.tmod a 10)<0))=true then(grd ((b.length+([(IntKind.u8.wrap (IntKind.i64.wrap (48+(IntKind.i64.wrap (0-(Int.tmod a 10))))))]).length)*1<=140737488355328)).bind λ_=>(grd (10≠0)).bind λ_=>(p5 fuel (IntKind.i64.wrap (Int.tdiv a 10)) (b ++ [(IntKind.u8.wrap (IntKind.i64.wrap (48+(IntKind.i64.wrap (0-(Int.tmod a 10))))))]))else(grd ((b.length+([(IntKind.u8.wrap (IntKind.i64.wrap (48+(Int.tmod a 10))))]).length)*1<=140737488355328)).bind λ_=>(grd (10≠0)).bind λ_=>(p5 fuel (IntKind.i64.wrap (Int.tdiv a 10)) (b ++ [(IntKind.u8.wrap (IntKind.i64.wrap (48+(Int.tmod a 10))))])))else some (b))
def G01(b:Int):Option (ByteArray):=(if(decide (b=0))=true then some (⟨#[48]⟩:ByteArray)else(p5 V0 b ([]:(List Int))).bind (λa=>(if(decide (b<0))=true then(grd ((a.length + [45].length)*1<=140737488355328)).bind λ_=>(some (a ++ [45]).length).bind λd=>(grd (d<=9223372036854775807)).bind λ_=>(n4 V0 0 (IntKind.i64.wrap (((d:Nat):Int)-1)) (a ++ [45])).bind (λf=>(grd (f.length<=9223372036854775807)).bind λ_=>some (strOfNums f))else(some a.length).bind λc=>(grd (c<=9223372036854775807)).bind λ_=>(n4 V0 0 (IntKind.i64.wrap (((c:Nat):Int)-1)) a).bind (λe=>(grd (e.length<=9223372036854775807)).bind λ_=>some (strOfNums e)))))
def l01(a:Int):Option (ByteArray):=(p6 a 1 3).bind λb=>(if b=true then(grd ((0:Int)<=(IntKind.i64.wrap (a-1))/\(IntKind.i64.wrap (a-1))<=a/\a<=((⟨#[97,98,99]⟩:ByteArray).size:Int))).bind λ_=>some ((⟨#[97,98,99]⟩:ByteArray).extract ((IntKind.i64.wrap (a-1)):Int).toNat (a:Int).toNat)else(p6 a (-3) (-1)).bind λc=>(if c=true then(grd ((0:Int)<=(IntKind.i64.wrap ((IntKind.i64.wrap (0-a))-1))/\(IntKind.i64.wrap ((IntKind.i64.wrap (0-a))-1))<=(IntKind.i64.wrap (0-a))/\(IntKind.i64.wrap (0-a))<=((⟨#[65,66,67]⟩:ByteArray).size:Int))).bind λ_=>some ((⟨#[65,66,67]⟩:ByteArray).extract ((IntKind.i64.wrap ((IntKind.i64.wrap (0-a))-1)):Int).toNat ((IntKind.i64.wrap (0-a)):Int).toNat)else some (⟨#[]⟩:ByteArray)))
def B6(b:J0):Nat->ByteArray->Int->Option ((ByteArray) ⊕ (ByteArray))
 |0,_,_=>none
 |fuel+1,c,d=>(if(decide (d<((b.length:Nat):Int)))=true then(gi b d).bind λe=>(l01 e).bind λa=>(grd (a.size<=9223372036854775807)).bind λ_=>(if(l0c a (⟨#[]⟩:ByteArray))=true then some (.inl (⟨#[]⟩:ByteArray))else(grd (c.size+a.size<=9223372036854775807)).bind λ_=>(B6 b fuel (c++a) (IntKind.i64.wrap (d+1))))else some (.inr (c)))
def m01(a:J0):Option (ByteArray):=(if(decide (((a.length:Nat):Int)=0))=true then some (⟨#[49]⟩:ByteArray)else(B6 a V0 (⟨#[]⟩:ByteArray) 0).bind λb=>l7 b (λc=>some c))
def W9(d:(List ByteArray))(a:ByteArray):Nat->ByteArray->Int->Option (ByteArray)
 |0,_,_=>none
 |fuel+1,b,c=>(if(decide (c<((d.length:Nat):Int)))=true then(gi d c).bind λe=>(grd (b.size+a.size<=9223372036854775807)).bind λ_=>(grd ((b++a).size+e.size<=9223372036854775807)).bind λ_=>(W9 d a fuel ((b++a)++e) (IntKind.i64.wrap (c+1)))else some (b))
def W03(a:(List ByteArray))(b:ByteArray)(c:ByteArray):Option (ByteArray):=(if(decide (((a.length:Nat):Int)=0))=true then some c else(gi a 0).bind λd=>(X06 a 1 (a.length:Int)).bind λe=>(W9 e b V0 d 0).bind (λf=>some f))
def V5(b:O2):Nat->Int->(List ByteArray)->Option ((ByteArray) ⊕ ((List ByteArray)))
 |0,_,_=>none
 |fuel+1,c,d=>(if(decide (c<((b.length:Nat):Int)))=true then(gi b c).bind λe=>(m01 e).bind λa=>(grd (a.size<=9223372036854775807)).bind λ_=>(if(l0c a (⟨#[]⟩:ByteArray))=true then some (.inl (⟨#[]⟩:ByteArray))else(grd ((d.length + [a].length)*16<=140737488355328)).bind λ_=>(V5 b fuel (IntKind.i64.wrap (c+1)) (d ++ [a])))else some (.inr (d)))
def P00(c:O2):Option (ByteArray):=(V5 c V0 0 ([]:(List ByteArray))).bind λb=>l7 b (λd=>(W03 d (⟨#[44]⟩:ByteArray) (⟨#[110,111,110,101]⟩:ByteArray)).bind λa=>(grd (a.size<=9223372036854775807)).bind λ_=>some a)
def i7(e:D0):Option (ByteArray):=match e with|(c,d)=>(M4 (c,d)).bind λf=>(if(!f)=true then some (⟨#[]⟩:ByteArray)else(G01 c).bind λa=>(grd (a.size<=9223372036854775807)).bind λ_=>(grd (a.size+(⟨#[32]⟩:ByteArray).size<=9223372036854775807)).bind λ_=>(P00 d).bind λb=>(grd (b.size<=9223372036854775807)).bind λ_=>(grd ((a++(⟨#[32]⟩:ByteArray)).size+b.size<=9223372036854775807)).bind λ_=>some ((a++(⟨#[32]⟩:ByteArray))++b))
def H01(a:List Int)(c:Int×Int):Option (j0×(Int×Int)):=(r02 a c 4).bind λd=>match d with|(j,b)=>(if j=true then(V03 a b).bind λk=>match k with|(l,p)=>match l with|(m,n,o)=>some ((m,n,o),p)else(E01 a b).bind λq=>match q with|(s,w)=>match s with|(t,u,v)=>(N7 (t,u,v)).bind λe=>match e with|(f,x)=>match f with|(g,h,i)=>some ((g,h,i),w))
def g6(b:Int)(d:J0):Nat->Int->(List Int)->Option ((J0) ⊕ ((List Int)))
 |0,_,_=>none
 |fuel+1,a,c=>(if(bif(decide (a<b))then true else(decide (a<(IntKind.i64.wrap (0-b)))))=true then(if(decide (a ≥ 24))=true then some (.inl ([]:J0))else(grd ((c.length+d.length)*8<=140737488355328)).bind λ_=>(g6 b d fuel (IntKind.i64.wrap (a+1)) (c++d)))else some (.inr (c)))
def E4(b:J0)(a:Int):Option (J0):=(if(decide (a<0))=true then(O5 b).bind λe=>(g6 a e V0 0 ([]:J0)).bind λc=>l7 c (λh=>(Y2 h).bind λf=>some f)else(g6 a b V0 0 ([]:J0)).bind λd=>l7 d (λi=>(Y2 i).bind λg=>some g))
def t01(a:J0)(b:J0):Option (J0):=(Y3 a b).bind λc=>(O5 a).bind λf=>(O5 b).bind λg=>(Y3 f g).bind λd=>(Y3 c d).bind λe=>some e
def E6(b:(List Int)):Nat->Int->(List J0)->(Int×Int)->Option ((List J0)×(Int×Int))
 |0,_,_,_=>none
 |fuel+1,c,a,e=>(if(decide (c>0))=true then(M01 b e 2 4).bind λg=>match g with|(h,f)=>(a00 h).bind λi=>match i with|(d,j)=>(if(decide (((d.length:Nat):Int)>0))=true then(grd ((a.length + [d].length)*24<=140737488355328)).bind λ_=>(E6 b fuel (IntKind.i64.wrap (c-1)) (a ++ [d]) f)else(E6 b fuel (IntKind.i64.wrap (c-1)) a f))else some (a,e))
def m02(a:List Int)(k:Int×Int):Option (D0×(Int×Int)):=(E2 a k 6).bind λl=>match l with|(b,c)=>(grd (H0 b)).bind λ_=>(if(decide (b=0))=true then(E2 a c 6).bind λG=>match G with|(i,H)=>(grd (H0 i)).bind λ_=>(E4 [1] (IntKind.i64.wrap (1+i))).bind λy=>some ((1,[y]),H)else(if(decide (b=1))=true then(E4 [1] 2).bind λC=>(E4 [2] 2).bind λD=>(E2 a c 4).bind λE=>match E with|(h,F)=>(grd (H0 h)).bind λ_=>(E4 ([1,2]) (IntKind.i64.wrap (1+h))).bind λI=>some ((2,[C,D,I]),F)else(if(decide (b=2))=true then(E4 [1] 2).bind λJ=>(E4 [2] 3).bind λm=>(E2 a c 2).bind λn=>match n with|(d,o)=>(grd (H0 d)).bind λ_=>(E4 ([1,2]) (IntKind.i64.wrap (2+d))).bind λp=>some ((2,[J,m,p]),o)else(if(decide (b=3))=true then(t01 [1] [2]).bind λq=>(E2 a c 3).bind λs=>match s with|(e,t)=>(grd (H0 e)).bind λ_=>(E4 [1] (IntKind.i64.wrap (1+e))).bind λu=>(E2 a t 3).bind λv=>match v with|(f,w)=>(grd (H0 f)).bind λ_=>(E4 [2] (IntKind.i64.wrap (1+f))).bind λx=>some ((2,[q,u,x]),w)else(if(decide (b=4))=true then some ((2,[[1,1,2,2],[1,2,1,(-2)]]),c)else(E2 a c 3).bind λz=>match z with|(g,A)=>(grd (H0 g)).bind λ_=>(E6 a V0 (IntKind.i64.wrap (1+g)) ([]:O2) A).bind (λj=>match j with|(y252,y253)=>some ((2,y252),y253)))))))
def q00(b:List Int)(g:Int×Int):Option (D0×(Int×Int)):=(m02 b g).bind λh=>match h with|(k,l)=>match k with|(f,a)=>(E2 b l 16).bind λm=>match m with|(c,d)=>(grd (H0 c)).bind λ_=>(if(decide (c=0))=true then(E2 b d 6).bind λi=>match i with|(e,j)=>(grd (H0 e)).bind λ_=>some (((IntKind.i64.wrap (e-1)),a),j)else(if(decide (c=1))=true then(grd ((a.length+([([]:J0)]).length)*24<=140737488355328)).bind λ_=>some ((f,(a ++ [([]:J0)])),d)else some ((f,a),d)))
def Q00(a:(List Int)):Option (D0×j0):=(k01 a).bind λe=>(q00 a e).bind λw=>match w with|(x,y)=>match x with|(b,c)=>(r02 a y 2).bind λz=>match z with|(A,d)=>(if A=true then(i5 (b,c) ([]:O2)).bind λf=>match f with|(g,k)=>match g with|(h,i,j)=>(if k=true then some ((b,c),(h,i,j))else(H01 a d).bind λl=>match l with|(m,C)=>match m with|(n,o,p)=>some ((b,c),(n,o,p)))else(H01 a d).bind λq=>match q with|(s,D)=>match s with|(t,u,v)=>some ((b,c),(t,u,v)))
def t8(c:(List Int))(a:Int):Nat->Int->(List J0)->(Int×Int)->Option ((List J0)×(Int×Int))
 |0,_,_,_=>none
 |fuel+1,d,b,e=>(if(decide (d>0))=true then(M01 c e (if(if 3<a then 3 else a)>1 then(if 3<a then 3 else a)else 1) 3).bind λg=>match g with|(f,h)=>(grd ((b.length + [f].length)*24<=140737488355328)).bind λ_=>(t8 c a fuel (IntKind.i64.wrap (d-1)) (b ++ [f]) h)else some (b,e))
def Y03(a:(List Int)):Option (D0×O2):=(k01 a).bind λe=>(q00 a e).bind λf=>match f with|(g,i)=>match g with|(b,h)=>(E2 a i 3).bind λj=>match j with|(c,k)=>(grd (H0 c)).bind λ_=>(t8 a b V0 c ([]:O2) k).bind (λd=>match d with|(y32,y33)=>some ((b,h),y32))
def N6(a:(List Int)):Option (D0×O2):=(Y03 a).bind λb=>match b with|(c,f)=>match c with|(d,e)=>some ((d,e),f)
def N8(a:(List Int)):Option (D0×j0):=(Q00 a).bind λb=>match b with|(c,f)=>match c with|(d,e)=>match f with|(g,h,i)=>some ((d,e),(g,h,i))
def O8(a:(List Int)):Option (D0×j0):=(Q00 a).bind λb=>match b with|(c,f)=>match c with|(d,e)=>match f with|(g,h,i)=>some ((d,e),(g,h,i))
def P8(a:(List Int)):Option (D0):=(k01 a).bind λb=>(q00 a b).bind λc=>match c with|(d,g)=>match d with|(e,f)=>some (e,f)
def Q8(b:(List Int)):Option (D0×J0):=(k01 b).bind λc=>(q00 b c).bind λf=>match f with|(g,i)=>match g with|(a,h)=>(M01 b i (if(if 3<a then 3 else a)>1 then(if 3<a then 3 else a)else 1) 6).bind λd=>match d with|(e,j)=>some ((a,h),e)
def x04(a:(List Int)):Option (Bool):=some (decide (((a.length:Nat):Int)>1048576))
def D05(a:(List Int))(b:Int):Option (Int):=(if(decide (b<((a.length:Nat):Int)))=true then(gi a b).bind λc=>some (IntKind.i64.wrap c)else(grd (256≠0)).bind λ_=>some (Int.tmod (IntKind.i64.wrap ((IntKind.i64.wrap (b*37))+(IntKind.i64.wrap (((a.length:Nat):Int)*11)))) 256))
def D8(d:(List Int))(e:Int)(f:Int)(a:Int):Nat->Int->(List Int)->Option ((List Int))
 |0,_,_=>none
 |fuel+1,g,c=>(D05 d e).bind λh=>(grd (H0 h)).bind λ_=>(grd ((IntKind.i64.wrap (f+1))≠0)).bind λ_=>(if(decide (g<(Int.tmod h (IntKind.i64.wrap (f+1)))))=true then(D05 d (IntKind.i64.wrap ((IntKind.i64.wrap (e+1))+g))).bind λb=>(grd (H0 b)).bind λ_=>(grd (a≠0)).bind λ_=>(grd (8≠0)).bind λ_=>(grd (2≠0)).bind λ_=>(if(decide ((Int.tmod (IntKind.i64.wrap (Int.tdiv b 8)) 2)=1))=true then(grd ((c.length+([(IntKind.i64.wrap (0-(IntKind.i64.wrap (1+(Int.tmod b a)))))]).length)*8<=140737488355328)).bind λ_=>(D8 d e f a fuel (IntKind.i64.wrap (g+1)) (c ++ [(IntKind.i64.wrap (0-(IntKind.i64.wrap (1+(Int.tmod b a)))))]))else(grd ((c.length+([(IntKind.i64.wrap (1+(Int.tmod b a)))]).length)*8<=140737488355328)).bind λ_=>(D8 d e f a fuel (IntKind.i64.wrap (g+1)) (c ++ [(IntKind.i64.wrap (1+(Int.tmod b a)))])))else some (c))
def G03(a:(List Int))(b:Int)(c:Int)(d:Int):Option (J0):=(D8 a b d c V0 0 ([]:J0)).bind (λf=>(Y2 f).bind λe=>some e)
def d9(o:(List Int)):Option ((Bool) ⊕ Unit):=(x04 o).bind λv=>(if v=true then some (.inl true)else(N6 o).bind λA=>match A with|(E,i)=>match E with|(b,a)=>(d6 (b,a) i).bind λF=>match F with|(G,d)=>match G with|(H,I,J)=>(i5 (b,a) i).bind λq=>match q with|(s,e)=>match s with|(f,c,g)=>(chk (!(!(d == e))) (Q7 (H,I,J) (f,c,g)) false).bind λh=>(chk (!(bif(!(d == e))then true else(!h))) (B9 (b,a) i) 0).bind λj=>(grd (H0 j)).bind λ_=>(chk (!(bif(!(d == e))then true else(!h))) (z9 (b,a) i) 0).bind λk=>(grd (H0 k)).bind λ_=>(chk (!(bif(bif(!(d == e))then true else(!h))then true else(!decide (j=k)))) (M4 (b,a)) false).bind λt=>(chk (!(bif(bif(!(d == e))then true else(!h))then true else(!decide (j=k)))) (L4 (b,a)) false).bind λu=>(if(bif(bif(bif(!(d == e))then true else(!h))then true else(!decide (j=k)))then true else(!(t == u)))=true then some (.inl false)else(if d=true then(K6 (b,a) (f,c,g)).bind λw=>match w with|(l,m)=>(grd (H0 l)).bind λ_=>(grd (H0 m)).bind λ_=>(chk (!(bif(decide (l ≥ 0))then true else(decide (m ≥ 0)))) (U9 (f,c,g)) false).bind λp=>(chk (!(bif(bif(decide (l ≥ 0))then true else(decide (m ≥ 0)))then true else(!p))) (S7 (f,c,g) i) false).bind λx=>(if(bif(bif(bif(decide (l ≥ 0))then true else(decide (m ≥ 0)))then true else(!p))then true else(!x))=true then some (.inl false)else(A9 (b,a)).bind λn=>(grd (H0 n)).bind λ_=>(chk (decide (n>0)) (grd (c≠0)) ()).bind λ_=>(if(bif(decide (n>0))then(!decide ((Int.tmod n c)=0))else false)=true then some (.inl false)else(G03 o 27 b 3).bind λy=>(chk (decide (((a.length:Nat):Int)>0)) (gi a 0) []).bind λz=>(chk (decide (((a.length:Nat):Int)>0)) (p8 z y) []).bind λC=>(chk (decide (((a.length:Nat):Int)>0)) (e01 (f,c,g) C) false).bind λD=>(if(bif(decide (((a.length:Nat):Int)>0))then(!D)else false)=true then some (.inl false)else some (.inr ()))))else some (.inr ()))))
def R00(i:(List Int)):Option (Bool):=(d9 i).bind λJ=>l7 J (λ_=>(N8 i).bind λK=>match K with|(L,M)=>match L with|(t,u)=>match M with|(v,w,x)=>(w9 (t,u) (v,w,x)).bind λN=>match N with|(O,a,b)=>match O with|(P,Q,R)=>(t9 (t,u) (v,w,x)).bind λS=>match S with|(T,c,d)=>match T with|(U,V,W)=>(O8 i).bind λX=>match X with|(Y,Z)=>match Y with|(y,z)=>match Z with|(A,C,D)=>(K6 (y,z) (A,C,D)).bind λaa=>match aa with|(e,f)=>(grd (H0 e)).bind λ_=>(grd (H0 f)).bind λ_=>(R7 (y,z) (A,C,D)).bind λab=>match ab with|(g,h)=>(grd (H0 g)).bind λ_=>(grd (H0 h)).bind λ_=>(P8 i).bind λac=>match ac with|(k,l)=>(Q8 i).bind λad=>match ad with|(ae,G)=>match ae with|(E,F)=>(N00 (E,F) G).bind λaf=>match af with|(o,p)=>(L00 (E,F) G).bind λag=>match ag with|(q,s)=>(chk (bif(a == c)then(b == d)else false) (Q7 (P,Q,R) (U,V,W)) false).bind λj=>(chk (bif(bif(bif(bif(a == c)then(b == d)else false)then j else false)then(decide (e=g))else false)then(decide (f=h))else false) (M00 (k,l)) 0).bind λm=>(grd (H0 m)).bind λ_=>(chk (bif(bif(bif(bif(a == c)then(b == d)else false)then j else false)then(decide (e=g))else false)then(decide (f=h))else false) (A9 (k,l)) 0).bind λn=>(grd (H0 n)).bind λ_=>(chk (bif(bif(bif(bif(bif(bif(bif(a == c)then(b == d)else false)then j else false)then(decide (e=g))else false)then(decide (f=h))else false)then(decide (m=n))else false)then(o == q)else false)then(p == s)else false) (i7 (k,l)) ⟨#[]⟩).bind λH=>(grd (H.size<=9223372036854775807)).bind λ_=>(chk (bif(bif(bif(bif(bif(bif(bif(a == c)then(b == d)else false)then j else false)then(decide (e=g))else false)then(decide (f=h))else false)then(decide (m=n))else false)then(o == q)else false)then(p == s)else false) (g7 (k,l)) ⟨#[]⟩).bind λI=>(grd (I.size<=9223372036854775807)).bind λ_=>some (bif(bif(bif(bif(bif(bif(bif(bif(a == c)then(b == d)else false)then j else false)then(decide (e=g))else false)then(decide (f=h))else false)then(decide (m=n))else false)then(o == q)else false)then(p == s)else false)then(l0c H I)else false))
end Go.Proofs.YtmgikbbmpnbbjaaGreat
