/- Texts of the claim, joined: What functions of the program compute, in plain words: batch and others. -/
import Derived.Test.YtohcdjhocpakkaaGreatPart18
import Derived.Test.YtohcdjhocpakkaaGreatH36
namespace Go.Proofs.YtohcdjhocpakkaaGreat
open Go.H
set_option linter.unusedVariables false
set_option linter.unusedSimpArgs false
set_option maxRecDepth 10000
def T3(a:Int)(b:Int)(c:Int):Option (Bool):=some (bif(decide (a ≥ b))then(decide (a<=c))else false)
def j8(b:D0)(d:Int):Nat->Int->Option ((Bool) ⊕ (Unit))
 |0,_=>none
 |fuel+1,a=>(if(decide (a<((b.length:Nat):Int)))=true then(gi b a).bind λc=>(chk (!(decide (c=0))) (gi b a) 0).bind λh=>(chk (!(decide (c=0))) (T3 h (IntKind.i64.wrap (0-d)) d) false).bind λf=>(chk ((decide (a>0))&&(!(bif(decide (c=0))then true else(!f)))) (gi b a) 0).bind λi=>(chk ((decide (a>0))&&(!(bif(decide (c=0))then true else(!f)))) (gi b (IntKind.i64.wrap (a-1))) 0).bind λg=>(if(bif(bif(decide (c=0))then true else(!f))then true else(bif(decide (a>0))then(decide (i=(IntKind.i64.wrap (0-g))))else false))=true then some (.inl false)else(j8 b d fuel (IntKind.i64.wrap (a+1))))else some (.inr ()))
def z00(a:Int)(b:D0):Option (Bool):=(j8 b a Q0 0).bind λc=>t7 c (λ_=>(T3 a 1 3).bind λd=>some (bif d then(decide (((b.length:Nat):Int)<=24))else false))
def Z3(a:N0):Nat->Int->Int->Option (Int)
 |0,_,_=>none
 |fuel+1,c,b=>(if(decide (b<((a.length:Nat):Int)))=true then(gi a b).bind λd=>(Z3 a fuel (IntKind.i64.wrap (c+((d.length:Nat):Int))) (IntKind.i64.wrap (b+1)))else some (c))
def B8(a:N0):Option (Int):=(Z3 a Q0 0 0).bind (λb=>some b)
def R6(a:N0)(c:Int):Nat->Int->Option ((Bool) ⊕ (Unit))
 |0,_=>none
 |fuel+1,b=>(if(decide (b<((a.length:Nat):Int)))=true then(gi a b).bind λd=>(z00 c d).bind λf=>(if(!f)=true then some (.inl false)else(R6 a c fuel (IntKind.i64.wrap (b+1))))else some (.inr ()))
def e00(b:Int)(a:N0):Option (Bool):=(R6 a b Q0 0).bind λf=>t7 f (λ_=>(T3 b 1 3).bind λc=>(chk (bif c then(decide (((a.length:Nat):Int)<=6))else false) (B8 a) 0).bind λd=>(grd (K0 d)).bind λ_=>some (bif(bif c then(decide (((a.length:Nat):Int)<=6))else false)then(decide (d<40))else false))
def E3(a:Int)(b:Int)(c:Int):Option (Bool):=some (bif(decide (a ≥ b))then(decide (a<=c))else false)
def f01(b:Int)(a:Int):Option (Bool):=(chk (!decide (a=0)) (E3 a (IntKind.i64.wrap (0-b)) b) false).bind λc=>some (bif(!decide (a=0))then c else false)
def V8(a:Int)(b:Int):Option (Bool):=some (bif(bif(!decide (a=0))then(!decide (a=(-9223372036854775808)))else false)then(decide (b=(IntKind.i64.wrap (0-a))))else false)
def l8(b:D0)(d:Int):Nat->Int->Option ((Bool) ⊕ (Unit))
 |0,_=>none
 |fuel+1,a=>(if(decide (a<((b.length:Nat):Int)))=true then(gi b a).bind λf=>(f01 d f).bind λc=>(chk ((decide (a>0))&&(!(!c))) (gi b (IntKind.i64.wrap (a-1))) 0).bind λg=>(chk ((decide (a>0))&&(!(!c))) (V8 g f) false).bind λh=>(if(bif(!c)then true else(bif(decide (a>0))then h else false))=true then some (.inl false)else(l8 b d fuel (IntKind.i64.wrap (a+1))))else some (.inr ()))
def A00(a:Int)(b:D0):Option (Bool):=(E3 a 1 3).bind λd=>(if(bif(!d)then true else(decide (((b.length:Nat):Int)>24)))=true then some false else(l8 b a Q0 0).bind λc=>t7 c (λ_=>some true))
def d6(a:N0):Nat->Int->Int->Option (Int)
 |0,_,_=>none
 |fuel+1,c,b=>(if(decide (b<((a.length:Nat):Int)))=true then(gi a b).bind λd=>(d6 a fuel (IntKind.i64.wrap (c+((d.length:Nat):Int))) (IntKind.i64.wrap (b+1)))else some (c))
def K9(a:N0):Option (Int):=(d6 a Q0 0 0).bind (λb=>some b)
def S6(a:N0)(c:Int):Nat->Int->Option ((Bool) ⊕ (Unit))
 |0,_=>none
 |fuel+1,b=>(if(decide (b<((a.length:Nat):Int)))=true then(gi a b).bind λd=>(A00 c d).bind λf=>(if(!f)=true then some (.inl false)else(S6 a c fuel (IntKind.i64.wrap (b+1))))else some (.inr ()))
def f00(b:Int)(a:N0):Option (Bool):=(E3 b 1 3).bind λf=>(if(bif(!f)then true else(decide (((a.length:Nat):Int)>6)))=true then some false else(S6 a b Q0 0).bind λd=>t7 d (λ_=>(K9 a).bind λc=>(grd (K0 c)).bind λ_=>some (decide (c<40))))
def K3(a:Int)(b:Int):Option (Int):=(if(decide (a<b))=true then some (-1)else(if(decide (a>b))=true then some 1 else some 0))
def x02(d:j0)(g:J0):Option (Bool):=match d with|(f,b,l)=>match g with|(h,i,j)=>(T3 h 0 (IntKind.i64.wrap (b-1))).bind λa=>(chk a (T3 j 0 (IntKind.i64.wrap (b-1))) false).bind λc=>(chk (bif a then c else false) (T3 i 1 f) false).bind λk=>some (bif(bif a then c else false)then k else false)
def j7(b:Int)(c:Int)(d:Int)(f:Int)(g:Int)(h:Int):Nat->Int->Option ((Int) ⊕ (Unit))
 |0,_=>none
 |fuel+1,a=>(if(decide (a<3))=true then(gi [b,c,d] a).bind λj=>(gi [f,g,h] a).bind λk=>(if(decide (j<k))=true then some (.inl (-1))else(gi [b,c,d] a).bind λl=>(gi [f,g,h] a).bind λi=>(if(decide (l>i))=true then some (.inl 1)else(j7 b c d f g h fuel (IntKind.i64.wrap (a+1)))))else some (.inr ()))
def c8(b:J0)(g:J0):Option (Int):=match b with|(c,d,f)=>match g with|(h,i,j)=>(j7 c d f h i j Q0 0).bind λa=>t7 a (λ_=>some 0)
def D7(b:E1)(d:Int)(f:Int):Nat->Int->Option ((Bool) ⊕ (Unit))
 |0,_=>none
 |fuel+1,a=>(if(decide (a<((b.length:Nat):Int)))=true then(gi b a).bind λh=>match h with|(i,j,k)=>(x02 (d,f,b) (i,j,k)).bind λc=>(chk ((decide (a>0))&&(!(!c))) (gi b (IntKind.i64.wrap (a-1))) (0,0,0)).bind λl=>match l with|(m,n,o)=>(chk ((decide (a>0))&&(!(!c))) (gi b a) (0,0,0)).bind λp=>match p with|(q,s,t)=>(chk ((decide (a>0))&&(!(!c))) (c8 (m,n,o) (q,s,t)) 0).bind λg=>(grd (K0 g)).bind λ_=>(if(bif(!c)then true else(bif(decide (a>0))then(decide (g ≥ 0))else false))=true then some (.inl false)else(D7 b d f fuel (IntKind.i64.wrap (a+1))))else some (.inr ()))
def l5(g:j0):Option (Bool):=match g with|(a,b,c)=>(D7 c a b Q0 0).bind λf=>t7 f (λ_=>(T3 a 1 3).bind λd=>(chk d (T3 b 1 40) false).bind λh=>some (bif(bif d then h else false)then(decide (((c.length:Nat):Int)<=120))else false))
def s6(a:j0)(c:Int):Option (Bool):=match a with|(f,b,g)=>(E3 c 0 (IntKind.i64.wrap (b-1))).bind λd=>some d
def M8(g:j0)(h:J0):Option (Bool):=match g with|(a,c,d)=>match h with|(i,j,k)=>(s6 (a,c,d) i).bind λb=>(chk b (s6 (a,c,d) k) false).bind λf=>(chk (bif b then f else false) (E3 j 1 a) false).bind λl=>some (bif(bif b then f else false)then l else false)
def j9(d:J0)(i:J0):Option (Int):=match d with|(f,g,h)=>match i with|(j,k,l)=>(K3 f j).bind λa=>(grd (K0 a)).bind λ_=>(if(!decide (a=0))=true then some a else(K3 g k).bind λb=>(grd (K0 b)).bind λ_=>(if(!decide (b=0))=true then some b else(K3 h l).bind λc=>(grd (K0 c)).bind λ_=>some c))
def E7(b:E1)(d:Int)(f:Int):Nat->Int->Option ((Bool) ⊕ (Unit))
 |0,_=>none
 |fuel+1,a=>(if(decide (a<((b.length:Nat):Int)))=true then(gi b a).bind λo=>match o with|(h,i,j)=>(M8 (d,f,b) (h,i,j)).bind λc=>(chk ((decide (a>0))&&(!(!c))) (gi b (IntKind.i64.wrap (a-1))) (0,0,0)).bind λk=>match k with|(l,m,n)=>(chk ((decide (a>0))&&(!(!c))) (j9 (l,m,n) (h,i,j)) 0).bind λg=>(grd (K0 g)).bind λ_=>(if(bif(!c)then true else(bif(decide (a>0))then(decide (g ≥ 0))else false))=true then some (.inl false)else(E7 b d f fuel (IntKind.i64.wrap (a+1))))else some (.inr ()))
def T7(g:j0):Option (Bool):=match g with|(a,b,c)=>(E3 a 1 3).bind λd=>(chk (!(!d)) (E3 b 1 40) false).bind λh=>(if(bif(bif(!d)then true else(!h))then true else(decide (((c.length:Nat):Int)>120)))=true then some false else(E7 c a b Q0 0).bind λf=>t7 f (λ_=>some true))
def O4(b:D0)(a:Int):Nat->Bool->Int->(List Int)->Option (Bool×(List Int))
 |0,_,_,_=>none
 |fuel+1,f,c,d=>(if(decide (c<((b.length:Nat):Int)))=true then(gi b c).bind λm=>(if(decide (m=a))=true then(gi b c).bind λk=>(if(bif(decide (k>a))then(!true)else false)=true then(grd ((d.length + [a].length)*8<=140737488355328)).bind λ_=>(gi b c).bind λg=>(grd (((d ++ [a]).length + [g].length)*8<=140737488355328)).bind λ_=>(O4 b a fuel true (IntKind.i64.wrap (c+1)) ((d ++ [a]) ++ [g]))else(gi b c).bind λh=>(grd ((d.length + [h].length)*8<=140737488355328)).bind λ_=>(O4 b a fuel true (IntKind.i64.wrap (c+1)) (d ++ [h])))else(gi b c).bind λl=>(if(bif(decide (l>a))then(!f)else false)=true then(grd ((d.length + [a].length)*8<=140737488355328)).bind λ_=>(gi b c).bind λi=>(grd (((d ++ [a]).length + [i].length)*8<=140737488355328)).bind λ_=>(O4 b a fuel true (IntKind.i64.wrap (c+1)) ((d ++ [a]) ++ [i]))else(gi b c).bind λj=>(grd ((d.length + [j].length)*8<=140737488355328)).bind λ_=>(O4 b a fuel f (IntKind.i64.wrap (c+1)) (d ++ [j]))))else some (f,d))
def D8(c:D0)(a:Int):Option (D0):=(O4 c a Q0 false 0 ([]:D0)).bind (λb=>match b with|(y35,y36)=>(if(!y35)=true then(grd ((y36.length + [a].length)*8<=140737488355328)).bind λ_=>some (y36 ++ [a])else some y36))
def N8(a:D0)(c:Int):Nat->Int->Option ((Bool) ⊕ (Unit))
 |0,_=>none
 |fuel+1,b=>(if(decide (b<((a.length:Nat):Int)))=true then(gi a b).bind λd=>(if(decide (d=c))=true then some (.inl true)else(N8 a c fuel (IntKind.i64.wrap (b+1))))else some (.inr ()))
def p9(b:D0)(c:Int):Option (Bool):=(N8 b c Q0 0).bind λa=>t7 a (λ_=>some false)
def E4(c:E1)(a:Int)(b:Int):Nat->D0->Int->Option (D0)
 |0,_,_=>none
 |fuel+1,f,d=>(if(decide (d<((c.length:Nat):Int)))=true then(gi c d).bind λk=>match k with|(g,h,i)=>(if(bif(bif(decide (a>0))then(decide (h=a))else false)then(decide (g=b))else false)=true then(D8 f i).bind λj=>(if(bif(bif(decide (a<0))then(decide (h=(IntKind.i64.wrap (0-a))))else false)then(decide (i=b))else false)=true then(D8 j g).bind λl=>(E4 c a b fuel l (IntKind.i64.wrap (d+1)))else(E4 c a b fuel j (IntKind.i64.wrap (d+1))))else(if(bif(bif(decide (a<0))then(decide (h=(IntKind.i64.wrap (0-a))))else false)then(decide (i=b))else false)=true then(D8 f g).bind λm=>(E4 c a b fuel m (IntKind.i64.wrap (d+1)))else(E4 c a b fuel f (IntKind.i64.wrap (d+1)))))else some (f))
def J00(a:j0)(c:Int)(d:Int):Option (D0):=match a with|(g,h,b)=>(E4 b d c Q0 ([]:D0) 0).bind (λf=>some f)
def o00(b:j0)(g:Int)(h:Int):Option (Int):=match b with|(c,d,f)=>(J00 (c,d,f) g h).bind λa=>(if(decide (((a.length:Nat):Int)=0))=true then some (-1)else(gi a 0).bind λi=>some i)
def T6(b:Int)(a:E1):Nat->Int->Option ((Bool) ⊕ (Unit))
 |0,_=>none
 |fuel+1,u8=>(if(decide (u8<b))=true then(gi a b).bind λc=>match c with|(d,f,g)=>(gi a u8).bind λh=>match h with|(i,j,k)=>(if(bif(decide (f=j))then(bif(decide (d=i))then true else(decide (g=k)))else false)=true then some (.inl false)else(T6 b a fuel (IntKind.i64.wrap (u8+1))))else some (.inr ()))
def s5(a:E1)(c:Int)(d:Int):Nat->Int->Option ((Bool) ⊕ (Unit))
 |0,_=>none
 |fuel+1,b=>(chk (decide (b<((a.length:Nat):Int))) (l5 (c,d,a)) false).bind λg=>(if(bif(decide (b<((a.length:Nat):Int)))then g else false)=true then(T6 b a Q0 0).bind λf=>D0f f (λ_=>(s5 a c d fuel (IntKind.i64.wrap (b+1))))else some (.inr ()))
def g00(f:j0):Option (Bool):=match f with|(a,b,c)=>(s5 c a b Q0 0).bind λd=>t7 d (λ_=>(l5 (a,b,c)).bind λg=>some g)
def W4(c:E1)(a:Int)(d:Int):Nat->Int->(List Int)->Option ((List Int))
 |0,_,_=>none
 |fuel+1,f,b=>(if(decide (f<((c.length:Nat):Int)))=true then(gi c f).bind λj=>match j with|(g,i,h)=>(if(bif(bif(decide (a>0))then(decide (i=a))else false)then(decide (g=d))else false)=true then(grd ((b.length + [h].length)*8<=140737488355328)).bind λ_=>(W4 c a d fuel (IntKind.i64.wrap (f+1)) (b ++ [h]))else(if(bif(bif(bif(decide (a<0))then(!decide (a=(-9223372036854775808)))else false)then(decide (i=(IntKind.i64.wrap (0-a))))else false)then(decide (h=d))else false)=true then(grd ((b.length + [g].length)*8<=140737488355328)).bind λ_=>(W4 c a d fuel (IntKind.i64.wrap (f+1)) (b ++ [g]))else(W4 c a d fuel (IntKind.i64.wrap (f+1)) b)))else some (b))
def K00(b:j0)(d:Int)(f:Int):Option (D0):=match b with|(g,h,c)=>(W4 c f d Q0 0 ([]:D0)).bind (λa=>(grd (a.length<4611686018427387904)).bind λ_=>some (k03 eqI (f06 N5 a)))
def p00(b:j0)(g:Int)(h:Int):Option (Int):=match b with|(c,d,f)=>(K00 (c,d,f) g h).bind λa=>(if(decide (((a.length:Nat):Int)=0))=true then some (-1)else(gi a 0).bind λi=>some i)
def U6(b:E1)(d:Int)(c:Int)(f:Int):Nat->Int->Option ((Bool) ⊕ (Unit))
 |0,_=>none
 |fuel+1,a=>(if(decide (a<((b.length:Nat):Int)))=true then(gi b a).bind λg=>match g with|(h,i,j)=>(if(bif(decide (d=i))then(bif(decide (c=h))then true else(decide (f=j)))else false)=true then some (.inl false)else(U6 b d c f fuel (IntKind.i64.wrap (a+1))))else some (.inr ()))
def V6(a:E1):Nat->Int->Option ((Bool) ⊕ (Unit))
 |0,_=>none
 |fuel+1,b=>(if(decide (b<((a.length:Nat):Int)))=true then(gi a b).bind λd=>match d with|(f,g,h)=>(W03 a (IntKind.i64.wrap (b+1)) (a.length:Int)).bind λi=>(U6 i g f h Q0 0).bind λc=>D0f c (λ_=>(V6 a fuel (IntKind.i64.wrap (b+1))))else some (.inr ()))
def i9(c:j0):Option (Bool):=match c with|(d,f,a)=>(T7 (d,f,a)).bind λg=>(if(!g)=true then some false else(V6 a Q0 0).bind λb=>t7 b (λ_=>some true))
def r6(b:j0):Option (j0):=match b with|(c,d,a)=>(grd ((([]:E1).length+a.length)*24<=140737488355328)).bind λ_=>some (c,d,(([]:E1)++a))
def P4(f:E1)(a:Int)(b:Int)(c:Int):Nat->Bool->Int->(List J0)->Option (Bool×(List J0))
 |0,_,_,_=>none
 |fuel+1,i,g,d=>(if(decide (g<((f.length:Nat):Int)))=true then(gi f g).bind λA=>match A with|(C,D,E)=>(c8 (a,b,c) (C,D,E)).bind λh=>(grd (K0 h)).bind λ_=>(if(decide (h=0))=true then(if(bif(decide (h<0))then(!true)else false)=true then(grd ((d.length+([(a,b,c)]).length)*24<=140737488355328)).bind λ_=>(gi f g).bind λw=>match w with|(j,k,l)=>(grd (((d ++ [(a,b,c)]).length+([(j,k,l)]).length)*24<=140737488355328)).bind λ_=>(P4 f a b c fuel true (IntKind.i64.wrap (g+1)) ((d ++ [(a,b,c)]) ++ [(j,k,l)]))else(gi f g).bind λx=>match x with|(m,n,o)=>(grd ((d.length+([(m,n,o)]).length)*24<=140737488355328)).bind λ_=>(P4 f a b c fuel true (IntKind.i64.wrap (g+1)) (d ++ [(m,n,o)])))else(if(bif(decide (h<0))then(!i)else false)=true then(grd ((d.length+([(a,b,c)]).length)*24<=140737488355328)).bind λ_=>(gi f g).bind λy=>match y with|(p,q,s)=>(grd (((d ++ [(a,b,c)]).length+([(p,q,s)]).length)*24<=140737488355328)).bind λ_=>(P4 f a b c fuel true (IntKind.i64.wrap (g+1)) ((d ++ [(a,b,c)]) ++ [(p,q,s)]))else(gi f g).bind λz=>match z with|(t,u,v)=>(grd ((d.length+([(t,u,v)]).length)*24<=140737488355328)).bind λ_=>(P4 f a b c fuel i (IntKind.i64.wrap (g+1)) (d ++ [(t,u,v)]))))else some (i,d))
def E8(f:E1)(g:J0):Option (E1):=match g with|(a,b,c)=>(P4 f a b c Q0 false 0 ([]:E1)).bind (λd=>match d with|(y35,y36)=>(if(!y35)=true then(grd ((y36.length+([(a,b,c)]).length)*24<=140737488355328)).bind λ_=>some (y36 ++ [(a,b,c)])else some y36))
def P3(a:E1)(c:Int):Nat->Int->Int->Option (Int)
 |0,_,_=>none
 |fuel+1,d,b=>(if(decide (b<((a.length:Nat):Int)))=true then(gi a b).bind λh=>match h with|(i,n,o)=>(if(decide (i=c))=true then(gi a b).bind λj=>match j with|(p,q,k)=>(if(decide (k=c))=true then(P3 a c fuel (IntKind.i64.wrap ((IntKind.i64.wrap (d+1))+1)) (IntKind.i64.wrap (b+1)))else(P3 a c fuel (IntKind.i64.wrap (d+1)) (IntKind.i64.wrap (b+1))))else(gi a b).bind λf=>match f with|(l,m,g)=>(if(decide (g=c))=true then(P3 a c fuel (IntKind.i64.wrap (d+1)) (IntKind.i64.wrap (b+1)))else(P3 a c fuel d (IntKind.i64.wrap (b+1)))))else some (d))
def i00(a:j0)(c:Int):Option (Int):=match a with|(f,g,b)=>(P3 b c Q0 0 0).bind (λd=>some d)
def C5(b:E1)(c:E1):Nat->Int->Option ((Bool) ⊕ (Unit))
 |0,_=>none
 |fuel+1,a=>(if(decide (a<((b.length:Nat):Int)))=true then(gi b a).bind λd=>match d with|(f,g,h)=>(gi c a).bind λi=>match i with|(j,k,l)=>(if(!eqE (f,g,h) (j,k,l))=true then some (.inl false)else(C5 b c fuel (IntKind.i64.wrap (a+1))))else some (.inr ()))
def L9(d:j0)(h:j0):Option (Bool):=match d with|(f,g,a)=>match h with|(i,j,b)=>(if(bif(bif(!decide (f=i))then true else(!decide (g=j)))then true else(!decide (((a.length:Nat):Int)=((b.length:Nat):Int))))=true then some false else(C5 a b Q0 0).bind λc=>t7 c (λ_=>some true))
def O3(a:E1):Nat->D0->Int->Option (D0)
 |0,_,_=>none
 |fuel+1,b,c=>(if(decide (c<((a.length:Nat):Int)))=true then(gi a c).bind λh=>match h with|(d,n,f)=>(p9 b d).bind λi=>(if i=true then(D8 b f).bind λg=>(p9 g f).bind λj=>(if j=true then(D8 g d).bind λk=>(O3 a fuel k (IntKind.i64.wrap (c+1)))else(O3 a fuel g (IntKind.i64.wrap (c+1))))else(p9 b f).bind λl=>(if l=true then(D8 b d).bind λm=>(O3 a fuel m (IntKind.i64.wrap (c+1)))else(O3 a fuel b (IntKind.i64.wrap (c+1)))))else some (b))
def D5(a:E1):Nat->D0->Int->Option (D0)
 |0,_,_=>none
 |fuel+1,b,c=>(if(decide (c<(IntKind.i64.wrap (((a.length:Nat):Int)+1))))=true then(O3 a Q0 b 0).bind (λd=>(D5 a fuel d (IntKind.i64.wrap (c+1))))else some (b))
def M9(f:j0)(c:Int):Option (D0):=match f with|(g,a,b)=>(l5 (g,a,b)).bind λd=>(chk (!(!d)) (T3 c 0 (IntKind.i64.wrap (a-1))) false).bind λh=>(if(bif(!d)then true else(!h))=true then some ([]:D0)else(D5 b Q0 [c] 0).bind (λi=>some i))
def n8(b:Int)(d:Int)(f:E1)(g:D0):Nat->Int->Option ((Int) ⊕ (Unit))
 |0,_=>none
 |fuel+1,a=>(if(decide (a<b))=true then(i00 (d,b,f) a).bind λc=>(grd (K0 c)).bind λ_=>(chk (!(decide (c<2))) (p9 g a) false).bind λh=>(if(bif(decide (c<2))then true else(!h))=true then some (.inl a)else(n8 b d f g fuel (IntKind.i64.wrap (a+1))))else some (.inr ()))
def w01(f:j0):Option (Int):=match f with|(a,b,c)=>(M9 (a,b,c) 0).bind λg=>(n8 b a c g Q0 1).bind λd=>t7 d (λ_=>some (-1))
def V3(b:E1)(a:(List Int)):Nat->Int->Int->Int->E1->Option (Int×Int×E1)
 |0,_,_,_,_=>none
 |fuel+1,c,d,f,g=>(if(decide (c<((b.length:Nat):Int)))=true then(gi b c).bind λk=>match k with|(h,l,i)=>(gi a h).bind λj=>(chk (decide (j>0)) (gi a i) 0).bind λm=>(if(bif(decide (j>0))then(decide (m>0))else false)=true then(gi a h).bind λn=>(gi a i).bind λo=>(E8 g ((IntKind.i64.wrap (n-1)),l,(IntKind.i64.wrap (o-1)))).bind λp=>(V3 b a fuel (IntKind.i64.wrap (c+1)) d f p)else(V3 b a fuel (IntKind.i64.wrap (c+1)) d f g))else some (d,f,g))
def Q4(a:D0)(c:Int)(f:Int)(g:E1):Nat->Int->(List Int)->Option ((j0×Bool) ⊕ ((List Int)))
 |0,_,_=>none
 |fuel+1,u8,b=>(if(decide (u8<((a.length:Nat):Int)))=true then(gi a u8).bind λi=>(T3 i 0 (IntKind.i64.wrap (c-1))).bind λd=>(chk (!(!d)) (gi a u8) 0).bind λj=>(chk (!(!d)) (gi b j) 0).bind λk=>(if(bif(!d)then true else(!decide (k=0)))=true then(r6 (f,c,g)).bind λl=>match l with|(m,n,o)=>some (.inl ((m,n,o),false))else(gi a u8).bind λh=>(gi b h).bind λp=>(Q4 a c f g fuel (IntKind.i64.wrap (u8+1)) (b.set h.toNat (IntKind.i64.wrap (u8+1)))))else some (.inr (b)))
def F7(h:j0)(d:D0):Option (j0×Bool):=match h with|(b,a,c)=>(l5 (b,a,c)).bind λi=>(if(bif(bif(!i)then true else(decide (((d.length:Nat):Int)=0)))then true else(decide (((d.length:Nat):Int)>a)))=true then(r6 (b,a,c)).bind λj=>match j with|(k,l,m)=>some ((k,l,m),false)else(grd ((0:Int)<=a/\a<=a/\a*8<=140737488355328/\a<=9223372036854775807)).bind λ_=>(Q4 d a b c Q0 0 (List.replicate a.toNat (0:Int))).bind λg=>t7 g (λn=>(V3 c n Q0 0 b ((d.length:Nat):Int) ([]:E1)).bind (λf=>match f with|(y86,y87,y88)=>some ((y86,y87,y88),true))))
def g6(c:Int):Nat->Int->(List Int)->Option ((List Int))
 |0,_,_=>none
 |fuel+1,a,b=>(if(decide (a<=c))=true then(grd ((b.length + [a].length)*8<=140737488355328)).bind λ_=>(grd (((b ++ [a]).length+([(IntKind.i64.wrap (0-a))]).length)*8<=140737488355328)).bind λ_=>(g6 c fuel (IntKind.i64.wrap (a+1)) ((b ++ [a]) ++ [(IntKind.i64.wrap (0-a))]))else some (b))
def L00(a:Int):Option (D0):=(g6 a Q0 1 ([]:D0)).bind (λb=>some b)
def Q3(d:D0)(i:Int)(f:Int)(g:Int)(h:E1):Nat->Int->(List Int)->Option ((List Int))
 |0,_,_=>none
 |fuel+1,c,a=>(if(decide (c<((d.length:Nat):Int)))=true then(gi a i).bind λj=>(gi d c).bind λk=>(o00 (f,g,h) j k).bind λb=>(grd (K0 b)).bind λ_=>(chk (decide (b ≥ 0)) (p9 a b) false).bind λl=>(if(bif(decide (b ≥ 0))then(!l)else false)=true then(grd ((a.length + [b].length)*8<=140737488355328)).bind λ_=>(Q3 d i f g h fuel (IntKind.i64.wrap (c+1)) (a ++ [b]))else(Q3 d i f g h fuel (IntKind.i64.wrap (c+1)) a))else some (a))
def n5(h:D0)(d:Int)(f:Int)(g:E1):Nat->Int->(List Int)->Option ((List Int))
 |0,_,_=>none
 |fuel+1,a,b=>(some b.length).bind λc=>(grd (c<=9223372036854775807)).bind λ_=>(if(decide (a<((c:Nat):Int)))=true then(Q3 h a d f g Q0 0 b).bind (λi=>(n5 h d f g fuel (IntKind.i64.wrap (a+1)) i))else some (b))
def r8(d:j0):Option (D0):=match d with|(a,b,c)=>(g00 (a,b,c)).bind λf=>(if(!f)=true then some ([]:D0)else(L00 a).bind λg=>(n5 g a b c Q0 0 [0]).bind (λh=>some h))
def l7(f:j0):Option (j0):=match f with|(a,b,c)=>(r8 (a,b,c)).bind λd=>(if(decide (((d.length:Nat):Int)=0))=true then(r6 (a,b,c)).bind λg=>match g with|(h,i,j)=>some (h,i,j)else(F7 (a,b,c) d).bind λk=>match k with|(l,p)=>match l with|(m,n,o)=>some (m,n,o))
def B00(g:j0):Option (Bool):=match g with|(a,b,c)=>(g00 (a,b,c)).bind λd=>(chk d (w01 (a,b,c)) 0).bind λf=>(grd (K0 f)).bind λm=>(chk (bif d then(decide (f<0))else false) (l7 (a,b,c)) (0,0,[])).bind λh=>match h with|(i,j,k)=>(chk (bif d then(decide (f<0))else false) (L9 (i,j,k) (a,b,c)) false).bind λl=>some (bif(bif d then(decide (f<0))else false)then l else false)
def W8(a:j0):Option (Bool):=match a with|(b,c,d)=>(B00 (b,c,d)).bind λf=>some f
def O5(b:j0):Option (j0):=match b with|(c,d,a)=>(grd ((([]:E1).length+a.length)*24<=140737488355328)).bind λ_=>some (c,d,(([]:E1)++a))
def w5(b:E1)(a:Int):Nat->Int->Int->Option (Int)
 |0,_,_=>none
 |fuel+1,d,c=>(if(decide (c<((b.length:Nat):Int)))=true then(gi b c).bind λg=>match g with|(h,i,f)=>(if(decide (h=a))=true then(if(decide (f=a))=true then(w5 b a fuel (IntKind.i64.wrap ((IntKind.i64.wrap (d+1))+1)) (IntKind.i64.wrap (c+1)))else(w5 b a fuel (IntKind.i64.wrap (d+1)) (IntKind.i64.wrap (c+1))))else(if(decide (f=a))=true then(w5 b a fuel (IntKind.i64.wrap (d+1)) (IntKind.i64.wrap (c+1)))else(w5 b a fuel d (IntKind.i64.wrap (c+1)))))else some (d))
def g01(a:j0)(c:Int):Option (Int):=match a with|(f,g,b)=>(w5 b c Q0 0 0).bind (λd=>some d)
def T1(b:E1)(c:E1):Nat->Int->Option ((Bool) ⊕ (Unit))
 |0,_=>none
 |fuel+1,a=>(if(decide (a<((b.length:Nat):Int)))=true then(gi b a).bind λd=>match d with|(f,g,h)=>(gi c a).bind λi=>match i with|(j,k,l)=>(if(!eqE (f,g,h) (j,k,l))=true then some (.inl false)else(T1 b c fuel (IntKind.i64.wrap (a+1))))else some (.inr ()))
def R3(a:E1)(b:E1):Option (Bool):=(if(!decide (((a.length:Nat):Int)=((b.length:Nat):Int)))=true then some false else(T1 a b Q0 0).bind λc=>t7 c (λ_=>some true))
def N9(f:j0)(h:j0):Option (Bool):=match f with|(a,b,g)=>match h with|(c,d,i)=>(chk (bif(decide (a=c))then(decide (b=d))else false) (R3 g i) false).bind λj=>some (bif(bif(decide (a=c))then(decide (b=d))else false)then j else false)
def G4(b:E1):Nat->Bool->Int->(List Bool)->Option (Bool×(List Bool))
 |0,_,_,_=>none
 |fuel+1,g,c,a=>(if(decide (c<((b.length:Nat):Int)))=true then(gi b c).bind λh=>match h with|(d,k,f)=>(gi a d).bind λi=>(gi a f).bind λj=>(if(!(i == j))=true then(gi a d).bind λl=>(gi (a.set d.toNat true) f).bind λm=>(G4 b fuel true (IntKind.i64.wrap (c+1)) ((a.set d.toNat true).set f.toNat true))else(G4 b fuel g (IntKind.i64.wrap (c+1)) a))else some (g,a))
def Z4(a:E1):Nat->Bool->(List Bool)->Option ((List Bool))
 |0,_,_=>none
 |fuel+1,d,b=>(if d=true then(G4 a Q0 false 0 b).bind (λc=>match c with|(y23,y24)=>(Z4 a fuel y23 y24))else some (b))
def l9(c:j0)(b:Int):Option ((List Bool)):=match c with|(g,a,d)=>(grd ((0:Int)<=a/\a<=a/\a*1<=140737488355328/\a<=9223372036854775807)).bind λ_=>(gi (List.replicate a.toNat (false:Bool)) b).bind λh=>(Z4 d Q0 true ((List.replicate a.toNat (false:Bool)).set b.toNat true)).bind (λf=>some f)
def G7(c:Int):Nat->Int->(List Int)->Option ((List Int))
 |0,_,_=>none
 |fuel+1,a,b=>(if(decide (a<=c))=true then(grd ((b.length+([a,(IntKind.i64.wrap (0-a))]).length)*8<=140737488355328)).bind λ_=>(G7 c fuel (IntKind.i64.wrap (a+1)) (b ++ [a,(IntKind.i64.wrap (0-a))]))else some (b))
def O01(a:Int):Option (D0):=(G7 a Q0 1 ([]:D0)).bind (λb=>some b)
def C00(a:E1):Option (E1):=(grd ((([]:E1).length+a.length)*24<=140737488355328)).bind λ_=>(grd ((([]:E1)++a).length<4611686018427387904)).bind λ_=>some (k03 eqE (f06 P0 (([]:E1)++a)))
def F8(b:E1)(a:(List Int)):Nat->Int->Int->Int->(List J0)->Option (Int×Int×(List J0))
 |0,_,_,_,_=>none
 |fuel+1,c,f,g,d=>(if(decide (c<((b.length:Nat):Int)))=true then(gi b c).bind λn=>match n with|(h,i,j)=>(gi a h).bind λk=>(chk (decide (k ≥ 0)) (gi a j) 0).bind λo=>(if(bif(decide (k ≥ 0))then(decide (o ≥ 0))else false)=true then(gi a h).bind λl=>(gi a j).bind λm=>(grd ((d.length+([(l,i,m)]).length)*24<=140737488355328)).bind λ_=>(F8 b a fuel (IntKind.i64.wrap (c+1)) f g (d ++ [(l,i,m)]))else(F8 b a fuel (IntKind.i64.wrap (c+1)) f g d))else some (f,g,d))
def t9(b:D0):Nat->Int->(List Int)->Option ((List Int))
 |0,_,_=>none
 |fuel+1,a,c=>(if(decide (a<((b.length:Nat):Int)))=true then(gi b a).bind λd=>(gi c d).bind λf=>(t9 b fuel (IntKind.i64.wrap (a+1)) (c.set d.toNat a))else some (c))
def w9(c:Nat):Nat->Int->(List Int)->Option ((List Int))
 |0,_,_=>none
 |fuel+1,a,b=>(if(decide (a<((c:Nat):Int)))=true then(gi b a).bind λd=>(w9 c fuel (IntKind.i64.wrap (a+1)) (b.set a.toNat (-1)))else some (b))
def M02(f:j0)(c:D0):Option (j0):=match f with|(g,a,h)=>(grd ((0:Int)<=a/\a<=a/\a*8<=140737488355328/\a<=9223372036854775807)).bind λ_=>(some (List.replicate a.toNat (0:Int)).length).bind λb=>(grd (b<=9223372036854775807)).bind λ_=>(w9 b Q0 0 (List.replicate a.toNat (0:Int))).bind (λj=>(t9 c Q0 0 j).bind (λk=>(F8 h k Q0 0 g ((c.length:Nat):Int) ([]:E1)).bind (λd=>match d with|(y203,y204,y205)=>(C00 y205).bind λi=>some (y203,y204,i))))
def o8(a:D0):Option (D0):=(grd ((([]:D0).length+a.length)*8<=140737488355328)).bind λ_=>some (([]:D0)++a)
def i5(g:D0)(h:Int)(i:Int)(j:E1)(f:Int):Nat->Int->(List (Option D0))->(List Int)->Option ((List (Option D0))×(List Int))
 |0,_,_,_=>none
 |fuel+1,c,b,d=>(if(decide (c<((g.length:Nat):Int)))=true then(gi g c).bind λk=>(p00 (h,i,j) f k).bind λa=>(grd (K0 a)).bind λ_=>(chk (decide (a ≥ 0)) (gi b a) (none:Option D0)).bind λm=>(if(bif(decide (a ≥ 0))then m.isNone else false)=true then(gi b f).bind λn=>(o8 (n.getD [])).bind λl=>(grd ((l.length + [k].length)*8<=140737488355328)).bind λ_=>(gi b a).bind λo=>(grd ((d.length + [a].length)*8<=140737488355328)).bind λ_=>(i5 g h i j f fuel (IntKind.i64.wrap (c+1)) (b.set a.toNat (some (l ++ [k]))) (d ++ [a]))else(i5 g h i j f fuel (IntKind.i64.wrap (c+1)) b d))else some (b,d))
def L6(b:Int)(d:Int)(f:E1):Nat->Int->(List (Option D0))->(List Int)->Option ((List (Option D0))×(List Int))
 |0,_,_,_=>none
 |fuel+1,u8,g,a=>(some a.length).bind λc=>(grd (c<=9223372036854775807)).bind λ_=>(if(decide (u8<((c:Nat):Int)))=true then(gi a u8).bind λi=>(O01 b).bind λj=>(i5 j b d f i Q0 0 g a).bind (λh=>match h with|(y41,y42)=>(L6 b d f fuel (IntKind.i64.wrap (u8+1)) y41 y42))else some (g,a))
def E01(d:j0)(b:Int):Option (D0×N0):=match d with|(f,a,g)=>(grd ((0:Int)<=a/\a<=a/\a*24<=140737488355328/\a<=9223372036854775807)).bind λ_=>(gi (List.replicate a.toNat (none:Option D0)) b).bind λh=>(L6 f a g Q0 0 ((List.replicate a.toNat (none:Option D0)).set b.toNat (some ([]:D0))) [b]).bind (λc=>match c with|(y54,y55)=>some (y55,(List.map (λo:Option D0=>o.getD ([]:D0)) y54)))
def s8(d:j0):Option (D0):=match d with|(a,b,c)=>(i9 (a,b,c)).bind λf=>(if(!f)=true then some ([]:D0)else(E01 (a,b,c) 0).bind λg=>match g with|(h,i)=>some h)
def n7(d:j0):Option (j0):=match d with|(a,b,c)=>(i9 (a,b,c)).bind λf=>(if(!f)=true then(O5 (a,b,c)).bind λk=>match k with|(l,m,n)=>some (l,m,n)else(s8 (a,b,c)).bind λo=>(M02 (a,b,c) o).bind λg=>match g with|(h,i,j)=>some (h,i,j))
def F5(c:Int)(d:Int):Nat->Int->(List Int)->Option ((List Int))
 |0,_,_=>none
 |fuel+1,a,b=>(if(decide (a<c))=true then(if(!decide (a=d))=true then(grd ((b.length + [a].length)*8<=140737488355328)).bind λ_=>(F5 c d fuel (IntKind.i64.wrap (a+1)) (b ++ [a]))else(F5 c d fuel (IntKind.i64.wrap (a+1)) b))else some (b))
def F4(b:Int)(c:Int)(d:E1)(g:(List Bool)):Nat->Int->Int->Option (Int)
 |0,_,_=>none
 |fuel+1,f,a=>(if(bif(decide (a<b))then(decide (f=0))else false)=true then(g01 (c,b,d) a).bind λh=>(grd (K0 h)).bind λ_=>(chk (!(decide (h<2))) (gi g a) false).bind λi=>(if(bif(decide (h<2))then true else(!i))=true then(F4 b c d g fuel a (IntKind.i64.wrap (a+1)))else(F4 b c d g fuel f (IntKind.i64.wrap (a+1))))else some (f))
def G5:Nat->D0->Int->Int->E1->Option ((j0×D0) ⊕ (Int×Int×E1))
 |0,_,_,_,_=>none
 |fuel+1,b,c,a,d=>(l9 (c,a,d) 0).bind λm=>(F4 a c d m Q0 0 1).bind (λf=>(if(decide (f=0))=true then some (.inl ((c,a,d),b))else(F5 a f Q0 0 ([]:D0)).bind (λn=>(M02 (c,a,d) n).bind λi=>match i with|(j,k,l)=>(W03 b 0 f).bind λg=>(W03 b (IntKind.i64.wrap (f+1)) (b.length:Int)).bind λh=>(grd ((g.length+h.length)*8<=140737488355328)).bind λ_=>(G5 fuel (g++h) j k l))))
def j6(c:Int):Nat->Int->(List Int)->Option ((List Int))
 |0,_,_=>none
 |fuel+1,a,b=>(if(decide (a<c))=true then(grd ((b.length + [a].length)*8<=140737488355328)).bind λ_=>(j6 c fuel (IntKind.i64.wrap (a+1)) (b ++ [a]))else some (b))
def H7(i:j0):Option (j0×D0):=match i with|(b,a,c)=>(O5 (b,a,c)).bind λj=>match j with|(d,f,g)=>(T7 (b,a,c)).bind λk=>(if(!k)=true then some ((d,f,g),([]:D0))else(j6 a Q0 0 ([]:D0)).bind (λl=>(G5 Q0 l d f g).bind λh=>t7 h (λ_=>none)))
def D00(f:j0):Option (Bool):=match f with|(b,a,c)=>(i9 (b,a,c)).bind λg=>(if(!g)=true then some false else(H7 (b,a,c)).bind λi=>match i with|(j,q)=>match j with|(o,d,p)=>(chk (decide (d=a)) (n7 (b,a,c)) (0,0,[])).bind λk=>match k with|(l,m,n)=>(chk (decide (d=a)) (N9 (l,m,n) (b,a,c)) false).bind λh=>some (bif(decide (d=a))then h else false))
def j01(a:Int):Option (j0×Bool):=(T3 a 1 3).bind λb=>(if(!b)=true then some ((0,0,[]),false)else some ((a,1,[]),true))
def o5(a:D0)(d:Int):Nat->Int->Int->Int->Int->E1->Option (Int×Int×E1)
 |0,_,_,_,_,_=>none
 |fuel+1,h,b,f,c,g=>(if(decide (b<((a.length:Nat):Int)))=true then(if(decide ((IntKind.i64.wrap (b+1))<((a.length:Nat):Int)))=true then(gi a b).bind λi=>(if(decide (i>0))=true then(gi a b).bind λj=>(E8 g (h,j,c)).bind λk=>(o5 a d fuel c (IntKind.i64.wrap (b+1)) f (IntKind.i64.wrap (c+1)) k)else(gi a b).bind λl=>(E8 g (c,(IntKind.i64.wrap (0-l)),h)).bind λm=>(o5 a d fuel c (IntKind.i64.wrap (b+1)) f (IntKind.i64.wrap (c+1)) m))else(gi a b).bind λn=>(if(decide (n>0))=true then(gi a b).bind λo=>(E8 g (h,o,d)).bind λp=>(o5 a d fuel d (IntKind.i64.wrap (b+1)) f c p)else(gi a b).bind λq=>(E8 g (d,(IntKind.i64.wrap (0-q)),h)).bind λs=>(o5 a d fuel d (IntKind.i64.wrap (b+1)) f c s)))else some (f,c,g))
def Q01(o:j0)(h:Int)(b:D0)(i:Int):Option (j0×Bool):=match o with|(d,a,f)=>(r6 (d,a,f)).bind λp=>match p with|(j,k,l)=>(l5 (d,a,f)).bind λc=>(chk (!(!c)) (T3 h 0 (IntKind.i64.wrap (a-1))) false).bind λg=>(chk (!(bif(!c)then true else(!g))) (T3 i 0 (IntKind.i64.wrap (a-1))) false).bind λm=>(chk (!(bif(bif(!c)then true else(!g))then true else(!m))) (z00 d b) false).bind λq=>(if(bif(bif(bif(bif(bif(bif(!c)then true else(!g))then true else(!m))then true else(!q))then true else(decide (((b.length:Nat):Int)=0)))then true else(decide ((IntKind.i64.wrap ((IntKind.i64.wrap (a+((b.length:Nat):Int)))-1))>40)))then true else(decide ((IntKind.i64.wrap (((f.length:Nat):Int)+((b.length:Nat):Int)))>120)))=true then some ((j,k,l),false)else(o5 b i Q0 h 0 j k l).bind (λn=>match n with|(y68,y69,y70)=>some ((y68,y69,y70),true)))
def k01(a:j0)(f:D0):Option (j0×Bool):=match a with|(b,c,d)=>(Q01 (b,c,d) 0 f 0).bind λg=>match g with|(h,l)=>match h with|(i,j,k)=>some ((i,j,k),l)
def W6(a:N0):Nat->Int->Int->Int->E1->Option (Int×Int×E1)
 |0,_,_,_,_=>none
 |fuel+1,b,u8,d,c=>(if(decide (b<((a.length:Nat):Int)))=true then(gi a b).bind λf=>(k01 (u8,d,c) f).bind λg=>match g with|(h,l)=>match h with|(i,j,k)=>(W6 a fuel (IntKind.i64.wrap (b+1)) i j k)else some (u8,d,c))
def l01(a:Int)(b:N0):Option (j0×Bool):=(e00 a b).bind λd=>(if(!d)=true then some ((0,0,[]),false)else(j01 a).bind λf=>match f with|(g,k)=>match g with|(h,i,j)=>(W6 b Q0 0 h i j).bind (λc=>match c with|(y35,y36,y37)=>some ((y35,y36,y37),true)))
def M4(g:E1)(h:Int):Nat->Int->(List K4)->Option ((List K4))
 |0,_,_=>none
 |fuel+1,u8,f=>(if(decide (u8<((g.length:Nat):Int)))=true then(gi g h).bind λk=>match k with|(c,i,a)=>(gi g u8).bind λl=>match l with|(d,j,b)=>(if(bif(decide (i=j))then(decide (c=d))else false)=true then(grd ((f.length+([((if b<a then b else a),(if b>a then b else a))]).length)*16<=140737488355328)).bind λ_=>(if(bif(decide (i=j))then(decide (a=b))else false)=true then(grd (((f ++ [((if b<a then b else a),(if b>a then b else a))]).length+([((if d<c then d else c),(if d>c then d else c))]).length)*16<=140737488355328)).bind λ_=>(M4 g h fuel (IntKind.i64.wrap (u8+1)) ((f ++ [((if b<a then b else a),(if b>a then b else a))]) ++ [((if d<c then d else c),(if d>c then d else c))]))else(M4 g h fuel (IntKind.i64.wrap (u8+1)) (f ++ [((if b<a then b else a),(if b>a then b else a))])))else(if(bif(decide (i=j))then(decide (a=b))else false)=true then(grd ((f.length+([((if d<c then d else c),(if d>c then d else c))]).length)*16<=140737488355328)).bind λ_=>(M4 g h fuel (IntKind.i64.wrap (u8+1)) (f ++ [((if d<c then d else c),(if d>c then d else c))]))else(M4 g h fuel (IntKind.i64.wrap (u8+1)) f)))else some (f))
def I7(b:E1):Nat->Int->(List K4)->Option ((List K4))
 |0,_,_=>none
 |fuel+1,a,c=>(if(decide (a<((b.length:Nat):Int)))=true then(M4 b a Q0 (IntKind.i64.wrap (a+1)) c).bind (λd=>(I7 b fuel (IntKind.i64.wrap (a+1)) d))else some (c))
def R01(a:j0):Option (J8):=match a with|(d,f,b)=>(I7 b Q0 0 ([]:J8)).bind (λc=>some c)
def D9(f:j0):Option (K4×Bool):=match f with|(a,b,c)=>(l5 (a,b,c)).bind λg=>(if(!g)=true then some ((0,0),false)else(R01 (a,b,c)).bind λd=>(if(decide (((d.length:Nat):Int)=0))=true then some ((0,0),false)else(gi d 0).bind λh=>match h with|(i,j)=>some ((i,j),true)))
def h02(a:Int)(d:K4):Option (Int):=match d with|(b,c)=>(if(decide (a=c))=true then(if(decide (b>c))=true then some (IntKind.i64.wrap (b-1))else some b)else(if(decide (a>c))=true then some (IntKind.i64.wrap (a-1))else some a))
def S4(a:E1)(b:Int)(c:Int):Nat->Int->Int->Int->E1->Option (Int×Int×E1)
 |0,_,_,_,_=>none
 |fuel+1,d,u8,g,f=>(if(decide (d<((a.length:Nat):Int)))=true then(gi a d).bind λj=>match j with|(k,l,m)=>(h02 k (b,c)).bind λh=>(grd (K0 h)).bind λo=>(h02 m (b,c)).bind λi=>(grd (K0 i)).bind λp=>(E8 f (h,l,i)).bind λn=>(S4 a b c fuel (IntKind.i64.wrap (d+1)) u8 g n)else some (u8,g,f))
def J7(h:j0)(i:K4):Option (j0×Bool):=match h with|(b,a,c)=>match i with|(d,f)=>(l5 (b,a,c)).bind λj=>(if(bif(bif(bif(!j)then true else(decide (d<0)))then true else(decide (d ≥ f)))then true else(decide (f ≥ a)))=true then(r6 (b,a,c)).bind λk=>match k with|(l,m,n)=>some ((l,m,n),false)else(S4 c d f Q0 0 b (IntKind.i64.wrap (a-1)) ([]:E1)).bind (λg=>match g with|(y29,y30,y31)=>some ((y29,y30,y31),true)))
def m01(g:j0):Option (j0×K4×Bool):=match g with|(a,b,c)=>(D9 (a,b,c)).bind λh=>match h with|(i,j)=>match i with|(d,f)=>(if(!j)=true then(r6 (a,b,c)).bind λk=>match k with|(l,m,n)=>some ((l,m,n),(0,0),false)else(J7 (a,b,c) (d,f)).bind λo=>match o with|(p,u)=>match p with|(q,s,t)=>some ((q,s,t),(d,f),true))
def w6:Nat->Int->Int->Int->E1->(List K4)->Option ((j0×J8) ⊕ (Int×Int×E1×(List K4)))
 |0,_,_,_,_,_=>none
 |fuel+1,d,b,c,u8,a=>(if(decide (d<40))=true then(m01 (b,c,u8)).bind λh=>match h with|(i,m,n)=>match i with|(j,k,l)=>match m with|(f,g)=>(if(!n)=true then some (.inl ((b,c,u8),a))else(grd ((a.length+([(f,g)]).length)*16<=140737488355328)).bind λ_=>(w6 fuel (IntKind.i64.wrap (d+1)) j k l (a ++ [(f,g)])))else some (.inr (b,c,u8,a)))
def S01(c:j0):Option (j0×J8):=match c with|(d,f,g)=>(r6 (d,f,g)).bind λh=>match h with|(i,j,k)=>(w6 Q0 0 i j k ([]:J8)).bind λb=>t7 b (λa=>match a with|(y27,y28,y29,y30)=>some ((y27,y28,y29),y30))
def Q02(b:Int)(a:Int)(c:Int):Option (J0):=(if(decide (a<0))=true then some (c,(IntKind.i64.wrap (0-a)),b)else some (b,a,c))
def A6(a:Int)(c:K4):Option (Int):=match c with|(d,b)=>(if(decide (a=b))=true then some d else(if(decide (a>b))=true then some (IntKind.i64.wrap (a-1))else some a))
def B6(a:D0)(f:Int):Nat->Int->Int->Int->Int->E1->Option (Int×Int×E1)
 |0,_,_,_,_,_=>none
 |fuel+1,h,b,g,c,d=>(if(decide (b<((a.length:Nat):Int)))=true then(gi a b).bind λi=>(if(decide (b<(IntKind.i64.wrap (((a.length:Nat):Int)-1))))=true then(Q02 h i c).bind λp=>match p with|(j,k,l)=>(grd ((d.length+([(j,k,l)]).length)*24<=140737488355328)).bind λ_=>(B6 a f fuel c (IntKind.i64.wrap (b+1)) g (IntKind.i64.wrap (c+1)) (d ++ [(j,k,l)]))else(Q02 h i f).bind λq=>match q with|(m,n,o)=>(grd ((d.length+([(m,n,o)]).length)*24<=140737488355328)).bind λ_=>(B6 a f fuel f (IntKind.i64.wrap (b+1)) g c (d ++ [(m,n,o)])))else some (g,c,d))
def T01(o:j0)(h:Int)(a:D0)(i:Int):Option (j0×Bool):=match o with|(b,c,d)=>(O5 (b,c,d)).bind λp=>match p with|(j,k,l)=>(T7 (b,c,d)).bind λf=>(chk (!(!f)) (s6 (b,c,d) h) false).bind λg=>(chk (!(bif(!f)then true else(!g))) (s6 (b,c,d) i) false).bind λm=>(chk (!(bif(bif(bif(!f)then true else(!g))then true else(!m))then true else(decide (((a.length:Nat):Int)=0)))) (A00 b a) false).bind λs=>(if(bif(bif(bif(bif(bif(bif(!f)then true else(!g))then true else(!m))then true else(decide (((a.length:Nat):Int)=0)))then true else(!s))then true else(decide ((IntKind.i64.wrap ((IntKind.i64.wrap (c+((a.length:Nat):Int)))-1))>40)))then true else(decide ((IntKind.i64.wrap (((d.length:Nat):Int)+((a.length:Nat):Int)))>120)))=true then some ((j,k,l),false)else(B6 a i Q0 h 0 j k l).bind (λn=>match n with|(y35,y36,y37)=>(C00 y37).bind λq=>some ((y35,y36,q),true)))
def n01(a:Int):Option (j0×Bool):=(E3 a 1 3).bind λb=>(if(!b)=true then some ((0,0,[]),false)else some ((a,1,[]),true))
def o01(a:j0)(f:D0):Option (j0×Bool):=match a with|(b,c,d)=>(T01 (b,c,d) 0 f 0).bind λg=>match g with|(h,l)=>match h with|(i,j,k)=>some ((i,j,k),l)
def W5(a:N0):Nat->Int->Int->Int->E1->Option (Int×Int×E1)
 |0,_,_,_,_=>none
 |fuel+1,u8,d,b,c=>(if(decide (u8<((a.length:Nat):Int)))=true then(gi a u8).bind λf=>(if(decide (((f.length:Nat):Int)>0))=true then(o01 (d,b,c) f).bind λg=>match g with|(h,l)=>match h with|(i,j,k)=>(W5 a fuel (IntKind.i64.wrap (u8+1)) i j k)else(W5 a fuel (IntKind.i64.wrap (u8+1)) d b c))else some (d,b,c))
def p01(a:Int)(b:N0):Option (j0×Bool):=(f00 a b).bind λd=>(if(!d)=true then some ((0,0,[]),false)else(n01 a).bind λf=>match f with|(g,k)=>match g with|(h,i,j)=>(W5 b Q0 0 h i j).bind (λc=>match c with|(y22,y23,y24)=>some ((y22,y23,y24),true)))
def p5(h:E1)(i:Int)(b:Int)(a:Int):Nat->Int->(List K4)->Option ((List K4))
 |0,_,_=>none
 |fuel+1,g,f=>(if(decide (g<((h.length:Nat):Int)))=true then(gi h g).bind λj=>match j with|(d,k,c)=>(if(!decide (i=k))=true then(p5 h i b a fuel (IntKind.i64.wrap (g+1)) f)else(if(decide (b=d))=true then(grd ((f.length+([((if c<a then c else a),(if c>a then c else a))]).length)*16<=140737488355328)).bind λ_=>(if(decide (a=c))=true then(grd (((f ++ [((if c<a then c else a),(if c>a then c else a))]).length+([((if d<b then d else b),(if d>b then d else b))]).length)*16<=140737488355328)).bind λ_=>(p5 h i b a fuel (IntKind.i64.wrap (g+1)) ((f ++ [((if c<a then c else a),(if c>a then c else a))]) ++ [((if d<b then d else b),(if d>b then d else b))]))else(p5 h i b a fuel (IntKind.i64.wrap (g+1)) (f ++ [((if c<a then c else a),(if c>a then c else a))])))else(if(decide (a=c))=true then(grd ((f.length+([((if d<b then d else b),(if d>b then d else b))]).length)*16<=140737488355328)).bind λ_=>(p5 h i b a fuel (IntKind.i64.wrap (g+1)) (f ++ [((if d<b then d else b),(if d>b then d else b))]))else(p5 h i b a fuel (IntKind.i64.wrap (g+1)) f))))else some (f))
def Q8(a:E1):Nat->Int->(List K4)->Option ((List K4))
 |0,_,_=>none
 |fuel+1,b,c=>(if(decide (b<((a.length:Nat):Int)))=true then(gi a b).bind λd=>match d with|(f,g,h)=>(W03 a (IntKind.i64.wrap (b+1)) (a.length:Int)).bind λi=>(p5 i g f h Q0 0 c).bind (λj=>(Q8 a fuel (IntKind.i64.wrap (b+1)) j))else some (c))
def d03(a:j0):Option (J8):=match a with|(d,f,b)=>(Q8 b Q0 0 ([]:J8)).bind (λc=>some c)
def E9(f:j0):Option (K4×Bool):=match f with|(a,b,c)=>(T7 (a,b,c)).bind λg=>(if(!g)=true then some ((0,0),false)else(d03 (a,b,c)).bind λd=>(if(decide (((d.length:Nat):Int)=0))=true then some ((0,0),false)else(gi d 0).bind λh=>match h with|(i,j)=>some ((i,j),true)))
def T4(g:E1)(c:Int)(d:Int):Nat->Int->E1->Option (E1)
 |0,_,_=>none
 |fuel+1,a,b=>(if(decide (a<((g.length:Nat):Int)))=true then(gi b a).bind λi=>match i with|(j,k,l)=>(A6 j (c,d)).bind λf=>(grd (K0 f)).bind λn=>(A6 l (c,d)).bind λh=>(grd (K0 h)).bind λo=>(gi b a).bind λm=>match m with|(p,q,s)=>(T4 g c d fuel (IntKind.i64.wrap (a+1)) (b.set a.toNat (f,k,h)))else some (b))
def K7(j:j0)(k:K4):Option (j0×Bool):=match j with|(f,a,g)=>match k with|(b,c)=>(O5 (f,a,g)).bind λl=>match l with|(h,i,d)=>(T7 (f,a,g)).bind λn=>(if(bif(bif(bif(!n)then true else(decide (b<0)))then true else(decide (b ≥ c)))then true else(decide (c ≥ a)))=true then some ((h,i,d),false)else(T4 d b c Q0 0 d).bind (λo=>(C00 o).bind λm=>some ((h,(IntKind.i64.wrap (i-1)),m),true)))
def q01(g:j0):Option (j0×K4×Bool):=match g with|(a,b,c)=>(E9 (a,b,c)).bind λh=>match h with|(i,j)=>match i with|(d,f)=>(if(!j)=true then(O5 (a,b,c)).bind λk=>match k with|(l,m,n)=>some ((l,m,n),(0,0),false)else(K7 (a,b,c) (d,f)).bind λo=>match o with|(p,u)=>match p with|(q,s,t)=>some ((q,s,t),(d,f),true))
def L7:Nat->Int->Int->E1->(List K4)->Option ((j0×J8) ⊕ (Int×Int×E1×(List K4)))
 |0,_,_,_,_=>none
 |fuel+1,b,c,u8,a=>(q01 (b,c,u8)).bind λg=>match g with|(h,l,m)=>match h with|(i,j,k)=>match l with|(d,f)=>(if(!m)=true then some (.inl ((b,c,u8),a))else(grd ((a.length+([(d,f)]).length)*16<=140737488355328)).bind λ_=>(L7 fuel i j k (a ++ [(d,f)])))
def U01(b:j0):Option (j0×J8):=match b with|(c,d,f)=>(O5 (c,d,f)).bind λg=>match g with|(h,i,j)=>(L7 Q0 h i j ([]:J8)).bind λa=>t7 a (λ_=>none)
def H5(f:Int)(g:Int)(d:D0):Nat->Int->(List Int)->(List Int)->Option ((List Int)×(List Int))
 |0,_,_,_=>none
 |fuel+1,a,b,c=>(if(decide (a<f))=true then(if(!decide (a=g))=true then(grd ((b.length + [a].length)*8<=140737488355328)).bind λ_=>(gi d a).bind λh=>(grd ((c.length + [h].length)*8<=140737488355328)).bind λ_=>(H5 f g d fuel (IntKind.i64.wrap (a+1)) (b ++ [a]) (c ++ [h]))else(H5 f g d fuel (IntKind.i64.wrap (a+1)) b c))else some (b,c))
def l6(h:Int)(i:Int)(j:E1):Nat->D0->Int->Int->Int->E1->Option ((j0×D0) ⊕ (D0×Int×Int×E1))
 |0,_,_,_,_,_=>none
 |fuel+1,d,f,b,a,c=>(chk (decide (f<40)) (l5 (h,i,j)) false).bind λl=>(if(bif(decide (f<40))then l else false)=true then(w01 (b,a,c)).bind λg=>(grd (K0 g)).bind λ_=>(if(decide (g<0))=true then some (.inl ((b,a,c),d))else(H5 a g d Q0 0 ([]:D0) ([]:D0)).bind (λk=>match k with|(y52,y53)=>(F7 (b,a,c) y52).bind λm=>match m with|(n,s)=>match n with|(o,p,q)=>(l6 h i j fuel y53 (IntKind.i64.wrap (f+1)) o p q)))else some (.inr (d,b,a,c)))
def o6(b:Int)(d:Int)(f:E1):Nat->Int->(List Int)->Option ((List Int))
 |0,_,_=>none
 |fuel+1,a,c=>(chk (decide (a<b)) (l5 (d,b,f)) false).bind λg=>(if(bif(decide (a<b))then g else false)=true then(grd ((c.length + [a].length)*8<=140737488355328)).bind λ_=>(o6 b d f fuel (IntKind.i64.wrap (a+1)) (c ++ [a]))else some (c))
def N00(g:j0):Option (j0×D0):=match g with|(a,b,c)=>(r6 (a,b,c)).bind λh=>match h with|(i,j,k)=>(o6 b a c Q0 0 ([]:D0)).bind (λl=>(l6 a b c Q0 l 0 i j k).bind λf=>t7 f (λd=>match d with|(y132,y133,y134,y135)=>some ((y133,y134,y135),y132)))
def O00(a:j0):Option (j0):=match a with|(b,c,d)=>(S01 (b,c,d)).bind λf=>match f with|(g,u)=>match g with|(h,i,j)=>(N00 (h,i,j)).bind λk=>match k with|(l,v)=>match l with|(m,n,o)=>(l7 (m,n,o)).bind λp=>match p with|(q,s,t)=>some (q,s,t)
def P00(a:j0):Option (j0):=match a with|(b,c,d)=>(U01 (b,c,d)).bind λf=>match f with|(g,u)=>match g with|(h,i,j)=>(H7 (h,i,j)).bind λk=>match k with|(l,v)=>match l with|(m,n,o)=>(n7 (m,n,o)).bind λp=>match p with|(q,s,t)=>some (q,s,t)
def J4(c:D0):Nat->Int->(List Int)->Option ((List Int))
 |0,_,_=>none
 |fuel+1,a,b=>(if(decide (a ≥ 0))=true then(gi c a).bind λd=>(grd ((b.length+([(IntKind.i64.wrap (0-d))]).length)*8<=140737488355328)).bind λ_=>(J4 c fuel (IntKind.i64.wrap (a-1)) (b ++ [(IntKind.i64.wrap (0-d))]))else some (b))
def Y5(a:D0):Option (D0):=(J4 a Q0 (IntKind.i64.wrap (((a.length:Nat):Int)-1)) ([]:D0)).bind (λb=>some b)
def W3(c:D0):Nat->Int->(List Int)->Option ((List Int))
 |0,_,_=>none
 |fuel+1,d,b=>(if(decide (d<((c.length:Nat):Int)))=true then(some b.length).bind λa=>(grd (a<=9223372036854775807)).bind λ_=>(chk (decide (((a:Nat):Int)>0)) (gi c d) 0).bind λf=>(chk (bif(decide (((a:Nat):Int)>0))then(!decide (f=0))else false) (gi b (IntKind.i64.wrap (((a:Nat):Int)-1))) 0).bind λg=>(chk (bif(decide (((a:Nat):Int)>0))then(!decide (f=0))else false) (gi c d) 0).bind λh=>(chk (bif(bif(decide (((a:Nat):Int)>0))then(!decide (f=0))else false)then(decide (g=(IntKind.i64.wrap (0-h))))else false) (gi b (IntKind.i64.wrap (((a:Nat):Int)-1))) 0).bind λj=>(chk (bif(bif(decide (((a:Nat):Int)>0))then(!decide (f=0))else false)then(decide (g=(IntKind.i64.wrap (0-h))))else false) (gi c d) 0).bind λk=>(if(bif(bif(bif(decide (((a:Nat):Int)>0))then(!decide (f=0))else false)then(decide (g=(IntKind.i64.wrap (0-h))))else false)then(!decide (j=k))else false)=true then(grd (0<=(IntKind.i64.wrap (((a:Nat):Int)-1))/\(IntKind.i64.wrap (((a:Nat):Int)-1))<=(b.length:Int))).bind λ_=>(W3 c fuel (IntKind.i64.wrap (d+1)) (b.take (IntKind.i64.wrap (((a:Nat):Int)-1)).toNat))else(gi c d).bind λi=>(grd ((b.length + [i].length)*8<=140737488355328)).bind λ_=>(W3 c fuel (IntKind.i64.wrap (d+1)) (b ++ [i])))else some (b))
def R8(b:D0):Option (D0):=(W3 b Q0 0 ([]:D0)).bind (λa=>(grd ((([]:D0).length+a.length)*8<=140737488355328)).bind λ_=>some (([]:D0)++a))
def U4(a:D0)(b:D0):Option (D0):=(grd ((([]:D0).length+a.length)*8<=140737488355328)).bind λ_=>(grd (((([]:D0)++a).length+b.length)*8<=140737488355328)).bind λ_=>(R8 ((([]:D0)++a)++b)).bind λc=>some c
def M6(c:D0):Nat->Int->(List Int)->Option ((List Int))
 |0,_,_=>none
 |fuel+1,a,b=>(if(decide (a ≥ 0))=true then(gi c a).bind λd=>(grd ((b.length+([(IntKind.i64.wrap (0-d))]).length)*8<=140737488355328)).bind λ_=>(M6 c fuel (IntKind.i64.wrap (a-1)) (b ++ [(IntKind.i64.wrap (0-d))]))else some (b))
def V4(a:D0):Option (D0):=(grd ((0:Int)<=0/\0<=((a.length:Nat):Int)/\((a.length:Nat):Int)*8<=140737488355328/\((a.length:Nat):Int)<=9223372036854775807)).bind λ_=>(M6 a Q0 (IntKind.i64.wrap (((a.length:Nat):Int)-1)) (List.replicate (0:Int).toNat (0:Int))).bind (λb=>some b)
def C6(f:D0):Nat->Int->(List Int)->Option ((List Int))
 |0,_,_=>none
 |fuel+1,d,a=>(if(decide (d<((f.length:Nat):Int)))=true then(gi f d).bind λg=>(some a.length).bind λb=>(grd (b<=9223372036854775807)).bind λ_=>(some a.length).bind λh=>(grd (h<=9223372036854775807)).bind λ_=>(chk (decide (((b:Nat):Int)>0)) (gi a (IntKind.i64.wrap (((h:Nat):Int)-1))) 0).bind λi=>(chk (decide (((b:Nat):Int)>0)) (V8 i g) false).bind λj=>(if(bif(decide (((b:Nat):Int)>0))then j else false)=true then(some a.length).bind λc=>(grd (c<=9223372036854775807)).bind λ_=>(grd (0<=(IntKind.i64.wrap (((c:Nat):Int)-1))/\(IntKind.i64.wrap (((c:Nat):Int)-1))<=(a.length:Int))).bind λ_=>(C6 f fuel (IntKind.i64.wrap (d+1)) (a.take (IntKind.i64.wrap (((c:Nat):Int)-1)).toNat))else(grd ((a.length + [g].length)*8<=140737488355328)).bind λ_=>(C6 f fuel (IntKind.i64.wrap (d+1)) (a ++ [g])))else some (a))
def M7(a:N0):Nat->Int->(List Int)->Option ((List Int))
 |0,_,_=>none
 |fuel+1,b,c=>(if(decide (b<((a.length:Nat):Int)))=true then(gi a b).bind λd=>(C6 d Q0 0 c).bind (λf=>(M7 a fuel (IntKind.i64.wrap (b+1)) f))else some (c))
def j2(a:N0):Option (D0):=(M7 a Q0 0 ([]:D0)).bind (λb=>some b)
def W01(a:Int)(b:Int):Option (Int):=(if(decide (a=b))=true then some 0 else(if(bif(bif(decide ((if(IntKind.i64.wrap (0-a))>a then(IntKind.i64.wrap (0-a))else a)<0))then true else(bif(decide ((if(IntKind.i64.wrap (0-b))>b then(IntKind.i64.wrap (0-b))else b) ≥ 0))then(decide ((if(IntKind.i64.wrap (0-a))>a then(IntKind.i64.wrap (0-a))else a)>(if(IntKind.i64.wrap (0-b))>b then(IntKind.i64.wrap (0-b))else b)))else false))then true else(bif(decide ((if(IntKind.i64.wrap (0-a))>a then(IntKind.i64.wrap (0-a))else a)=(if(IntKind.i64.wrap (0-b))>b then(IntKind.i64.wrap (0-b))else b)))then(decide (a<b))else false))=true then some 1 else some (-1)))
def Y2(b:D0)(d:D0):Nat->Int->Option ((Int) ⊕ (Unit))
 |0,_=>none
 |fuel+1,a=>(if(decide (a<((b.length:Nat):Int)))=true then(gi b a).bind λf=>(gi d a).bind λg=>(W01 f g).bind λc=>(grd (K0 c)).bind λ_=>(if(!decide (c=0))=true then some (.inl c)else(Y2 b d fuel (IntKind.i64.wrap (a+1))))else some (.inr ()))
def P5(a:D0)(b:D0):Option (Int):=(if(!decide (((a.length:Nat):Int)=((b.length:Nat):Int)))=true then(if(decide (((a.length:Nat):Int)<((b.length:Nat):Int)))=true then some (-1)else some 1)else(Y2 a b Q0 0).bind λc=>t7 c (λ_=>some 0))
def t8(a:Int)(b:Int):Option (Int):=(if(decide (a=b))=true then some 0 else(if(decide (a=(-9223372036854775808)))=true then some 1 else(if(decide (b=(-9223372036854775808)))=true then some (-1)else(K3 (if(IntKind.i64.wrap (0-a))>a then(IntKind.i64.wrap (0-a))else a) (if(IntKind.i64.wrap (0-b))>b then(IntKind.i64.wrap (0-b))else b)).bind λc=>(grd (K0 c)).bind λ_=>(if(!decide (c=0))=true then some c else(K3 b a).bind λd=>(grd (K0 d)).bind λ_=>some d))))
def H4(b:D0)(d:D0):Nat->Int->Option ((Int) ⊕ (Unit))
 |0,_=>none
 |fuel+1,a=>(if(decide (a<((b.length:Nat):Int)))=true then(gi b a).bind λg=>(gi d a).bind λf=>(t8 g f).bind λc=>(grd (K0 c)).bind λ_=>(if(!decide (c=0))=true then some (.inl c)else(H4 b d fuel (IntKind.i64.wrap (a+1))))else some (.inr ()))
def N6(b:D0)(c:D0):Option (Int):=(K3 ((b.length:Nat):Int) ((c.length:Nat):Int)).bind λa=>(grd (K0 a)).bind λ_=>(if(!decide (a=0))=true then some a else(H4 b c Q0 0).bind λd=>t7 d (λ_=>some 0))
def Y8(a:Int)(b:N0):Option (j0×Bool):=(l01 a b).bind λc=>match c with|(d,i)=>match d with|(f,g,h)=>(if(!i)=true then some ((0,0,[]),false)else(O00 (f,g,h)).bind λj=>match j with|(k,l,m)=>some ((k,l,m),true))
def z01(c:j0):Option (Int):=match c with|(d,a,b)=>(W8 (d,a,b)).bind λf=>(if(!f)=true then some (-1)else some (IntKind.i64.wrap ((IntKind.i64.wrap (((b.length:Nat):Int)-a))+1)))
def Z8(a:Int)(b:N0):Option (j0×Bool):=(p01 a b).bind λc=>match c with|(d,i)=>match d with|(f,g,h)=>(if(!i)=true then some ((0,0,[]),false)else(P00 (f,g,h)).bind λj=>match j with|(k,l,m)=>some ((k,l,m),true))
def A01(c:j0):Option (Int):=match c with|(d,a,b)=>(D00 (d,a,b)).bind λf=>(if(!f)=true then some (-1)else some (IntKind.i64.wrap ((IntKind.i64.wrap (((b.length:Nat):Int)-a))+1)))
def N7(a:N0):Nat->Int->(List D0)->Option ((List D0))
 |0,_,_=>none
 |fuel+1,b,c=>(if(decide (b<((a.length:Nat):Int)))=true then(gi a b).bind λd=>(grd ((([]:D0).length+d.length)*8<=140737488355328)).bind λ_=>(grd ((c.length+([(([]:D0)++d)]).length)*24<=140737488355328)).bind λ_=>(N7 a fuel (IntKind.i64.wrap (b+1)) (c ++ [(([]:D0)++d)]))else some (c))
def V7(a:N0):Option (N0):=(N7 a Q0 0 ([]:N0)).bind (λb=>some b)
def p6(a:N0):Nat->Int->(List D0)->Option ((List D0))
 |0,_,_=>none
 |fuel+1,b,c=>(if(decide (b<((a.length:Nat):Int)))=true then(gi a b).bind λf=>(o8 f).bind λd=>(grd ((c.length + [d].length)*24<=140737488355328)).bind λ_=>(p6 a fuel (IntKind.i64.wrap (b+1)) (c ++ [d]))else some (c))
def D6(a:N0):Option (N0):=(grd ((0:Int)<=0/\0<=((a.length:Nat):Int)/\((a.length:Nat):Int)*24<=140737488355328/\((a.length:Nat):Int)<=9223372036854775807)).bind λ_=>(p6 a Q0 0 (List.replicate (0:Int).toNat ([]:D0))).bind (λb=>some b)
def r01(a:Int):Option (Bool):=(chk (!decide (a=0)) (T3 a (-3) 3) false).bind λb=>some (bif(!decide (a=0))then b else false)
def B01(a:Int):Option (ByteArray):=(if(decide (a<0))=true then(gi [(⟨#[65]⟩:ByteArray),(⟨#[66]⟩:ByteArray),(⟨#[67]⟩:ByteArray)] (IntKind.i64.wrap ((IntKind.i64.wrap (0-a))-1))).bind λb=>some b else(gi [(⟨#[97]⟩:ByteArray),(⟨#[98]⟩:ByteArray),(⟨#[99]⟩:ByteArray)] (IntKind.i64.wrap (a-1))).bind λc=>some c)
def Q5(a:D0):Nat->ByteArray->Int->Option ((ByteArray) ⊕ (ByteArray))
 |0,_,_=>none
 |fuel+1,c,b=>(if(decide (b<((a.length:Nat):Int)))=true then(gi a b).bind λg=>(r01 g).bind λh=>(if(!h)=true then some (.inl (⟨#[]⟩:ByteArray))else(gi a b).bind λf=>(B01 f).bind λd=>(grd (d.size<=9223372036854775807)).bind λ_=>(grd (c.size+d.size<=9223372036854775807)).bind λ_=>(Q5 a fuel (c++d) (IntKind.i64.wrap (b+1))))else some (.inr (c)))
def a9(c:D0):Option (ByteArray):=(Q5 c Q0 (⟨#[]⟩:ByteArray) 0).bind λb=>t7 b (λa=>(if(s0j a (⟨#[]⟩:ByteArray))=true then some (⟨#[49]⟩:ByteArray)else some a))
def W7(a:Int):Option (ByteArray):=(E3 a 1 3).bind λb=>(if b=true then(grd ((0:Int)<=(IntKind.i64.wrap (a-1))/\(IntKind.i64.wrap (a-1))<=a/\a<=((⟨#[97,98,99]⟩:ByteArray).size:Int))).bind λ_=>some ((⟨#[97,98,99]⟩:ByteArray).extract ((IntKind.i64.wrap (a-1)):Int).toNat (a:Int).toNat)else(E3 a (-3) (-1)).bind λc=>(if c=true then(grd ((0:Int)<=(IntKind.i64.wrap ((IntKind.i64.wrap (0-a))-1))/\(IntKind.i64.wrap ((IntKind.i64.wrap (0-a))-1))<=(IntKind.i64.wrap (0-a))/\(IntKind.i64.wrap (0-a))<=((⟨#[65,66,67]⟩:ByteArray).size:Int))).bind λ_=>some ((⟨#[65,66,67]⟩:ByteArray).extract ((IntKind.i64.wrap ((IntKind.i64.wrap (0-a))-1)):Int).toNat ((IntKind.i64.wrap (0-a)):Int).toNat)else some (⟨#[]⟩:ByteArray)))
def R5(b:D0):Nat->ByteArray->Int->Option ((ByteArray) ⊕ (ByteArray))
 |0,_,_=>none
 |fuel+1,c,d=>(if(decide (d<((b.length:Nat):Int)))=true then(gi b d).bind λf=>(W7 f).bind λa=>(grd (a.size<=9223372036854775807)).bind λ_=>(if(s0j a (⟨#[]⟩:ByteArray))=true then some (.inl (⟨#[]⟩:ByteArray))else(grd (c.size+a.size<=9223372036854775807)).bind λ_=>(R5 b fuel (c++a) (IntKind.i64.wrap (d+1))))else some (.inr (c)))
def v00(a:D0):Option (ByteArray):=(if(decide (((a.length:Nat):Int)=0))=true then some (⟨#[49]⟩:ByteArray)else(R5 a Q0 (⟨#[]⟩:ByteArray) 0).bind λb=>t7 b (λc=>some c))
def S8(d:(List ByteArray))(a:ByteArray):Nat->ByteArray->Int->Option (ByteArray)
 |0,_,_=>none
 |fuel+1,b,c=>(if(decide (c<((d.length:Nat):Int)))=true then(gi d c).bind λf=>(grd (b.size+a.size<=9223372036854775807)).bind λ_=>(grd ((b++a).size+f.size<=9223372036854775807)).bind λ_=>(S8 d a fuel ((b++a)++f) (IntKind.i64.wrap (c+1)))else some (b))
def k02(a:(List ByteArray))(b:ByteArray)(c:ByteArray):Option (ByteArray):=(if(decide (((a.length:Nat):Int)=0))=true then some c else(gi a 0).bind λd=>(W03 a 1 (a.length:Int)).bind λf=>(S8 f b Q0 d 0).bind (λg=>some g))
def C01(a:Bool)(b:ByteArray):Option (ByteArray):=(if a=true then some b else some (⟨#[]⟩:ByteArray))
def S5(a:N0)(c:Int):Nat->Int->Option ((Bool) ⊕ (Unit))
 |0,_=>none
 |fuel+1,b=>(if(decide (b<((a.length:Nat):Int)))=true then(gi a b).bind λd=>(z00 c d).bind λf=>(if(!f)=true then some (.inl false)else(S5 a c fuel (IntKind.i64.wrap (b+1))))else some (.inr ()))
def Y6(d:H1):Option (Bool):=match d with|(a,b)=>(S5 b a Q0 0).bind λc=>t7 c (λ_=>(T3 a 1 3).bind λf=>some (bif f then(decide (((b.length:Nat):Int)=a))else false))
def G3(g:Int)(f:N0):Nat->ByteArray->Int->Option (ByteArray)
 |0,_,_=>none
 |fuel+1,a,b=>(if(decide (b<g))=true then(if(decide (b>0))=true then(grd (a.size+(⟨#[32]⟩:ByteArray).size<=9223372036854775807)).bind λ_=>(B01 (IntKind.i64.wrap (b+1))).bind λc=>(grd (c.size<=9223372036854775807)).bind λ_=>(grd ((a++(⟨#[32]⟩:ByteArray)).size+c.size<=9223372036854775807)).bind λ_=>(grd (((a++(⟨#[32]⟩:ByteArray))++c).size+(⟨#[62]⟩:ByteArray).size<=9223372036854775807)).bind λ_=>(gi f b).bind λj=>(a9 j).bind λh=>(grd (h.size<=9223372036854775807)).bind λ_=>(grd ((((a++(⟨#[32]⟩:ByteArray))++c)++(⟨#[62]⟩:ByteArray)).size+h.size<=9223372036854775807)).bind λ_=>(G3 g f fuel ((((a++(⟨#[32]⟩:ByteArray))++c)++(⟨#[62]⟩:ByteArray))++h) (IntKind.i64.wrap (b+1)))else(B01 (IntKind.i64.wrap (b+1))).bind λd=>(grd (d.size<=9223372036854775807)).bind λ_=>(grd (a.size+d.size<=9223372036854775807)).bind λ_=>(grd ((a++d).size+(⟨#[62]⟩:ByteArray).size<=9223372036854775807)).bind λ_=>(gi f b).bind λk=>(a9 k).bind λi=>(grd (i.size<=9223372036854775807)).bind λ_=>(grd (((a++d)++(⟨#[62]⟩:ByteArray)).size+i.size<=9223372036854775807)).bind λ_=>(G3 g f fuel (((a++d)++(⟨#[62]⟩:ByteArray))++i) (IntKind.i64.wrap (b+1))))else some (a))
def o7(c:H1):Option (ByteArray):=match c with|(a,b)=>(Y6 (a,b)).bind λd=>(if(!d)=true then some (⟨#[]⟩:ByteArray)else(G3 a b Q0 (⟨#[]⟩:ByteArray) 0).bind (λf=>some f))
def Y01(d:j0):Option (Bool):=match d with|(a,b,c)=>(W8 (a,b,c)).bind λf=>some (bif(bif f then(decide (b=1))else false)then(decide (((c.length:Nat):Int)=a))else false)
def d8(f:H1):Option (Bool):=match f with|(a,b)=>(Y8 a b).bind λg=>match g with|(h,c)=>match h with|(i,j,k)=>(Y6 (a,b)).bind λd=>(chk (bif d then c else false) (Y01 (i,j,k)) false).bind λl=>some (bif(bif d then c else false)then l else false)
def H6(c:Int):Nat->Int->Int->(List D0)->Option (Int×(List D0))
 |0,_,_,_=>none
 |fuel+1,a,d,b=>(if(decide (a<=c))=true then(grd ((b.length + [[a]].length)*24<=140737488355328)).bind λ_=>(H6 c fuel (IntKind.i64.wrap (a+1)) d (b ++ [[a]]))else some (d,b))
def b9(a:Int):Option (H1×Bool):=(T3 a 1 3).bind λc=>(if(!c)=true then some ((0,[]),false)else(H6 a Q0 1 a ([]:N0)).bind (λb=>match b with|(y20,y21)=>some ((y20,y21),true)))
def t01(a:N0):Option (Bool):=(e00 3 a).bind λb=>some b
def C3(c:N0)(l:Q7):Option (N0×Bool):=match l with|(d,a,f,g)=>(V7 c).bind λb=>(T3 a 0 (IntKind.i64.wrap (((c.length:Nat):Int)-1))).bind λp=>(if(!p)=true then some (b,false)else(if(decide (d=1))=true then(gi c a).bind λv=>(gi b a).bind λA=>(Y5 v).bind λm=>some ((b.set a.toNat m),true)else(if(decide (d=4))=true then(gi c a).bind λn=>(if(decide (((n.length:Nat):Int)>0))=true then some (b,false)else(W03 b 0 a).bind λh=>(grd ((([]:N0).length+h.length)*24<=140737488355328)).bind λ_=>(W03 b (IntKind.i64.wrap (a+1)) (b.length:Int)).bind λj=>(grd (((([]:N0)++h).length+j.length)*24<=140737488355328)).bind λ_=>some (((([]:N0)++h)++j),true))else(T3 f 0 (IntKind.i64.wrap (((c.length:Nat):Int)-1))).bind λo=>(if(bif(bif(!o)then true else(decide (a=f)))then true else(bif(!decide (g=1))then(!decide (g=(-1)))else false))=true then some (b,false)else(gi c f).bind λi=>(if(decide (g<0))=true then(Y5 i).bind λk=>(if(decide (d=2))=true then(gi c a).bind λq=>(gi b a).bind λC=>(U4 q k).bind λs=>some ((b.set a.toNat s),true)else(if(decide (d=3))=true then(gi c a).bind λt=>(gi b a).bind λD=>(U4 k t).bind λu=>some ((b.set a.toNat u),true)else some (b,false)))else(if(decide (d=2))=true then(gi c a).bind λw=>(gi b a).bind λE=>(U4 w i).bind λx=>some ((b.set a.toNat x),true)else(if(decide (d=3))=true then(gi c a).bind λy=>(gi b a).bind λF=>(U4 i y).bind λz=>some ((b.set a.toNat z),true)else some (b,false))))))))
def G9(a:D0):Option (D0×D0):=(grd (2≠0)).bind λ_=>(W03 a 0 (IntKind.i64.wrap (Int.tdiv (IntKind.i64.wrap (((a.length:Nat):Int)+1)) 2))).bind λb=>(grd ((([]:D0).length+b.length)*8<=140737488355328)).bind λ_=>(Y5 a).bind λf=>(W03 f 0 (IntKind.i64.wrap (Int.tdiv (IntKind.i64.wrap (((a.length:Nat):Int)+1)) 2))).bind λc=>(P5 (([]:D0)++b) c).bind λd=>(grd (K0 d)).bind λ_=>(if(decide (d>0))=true then some (c,(([]:D0)++b))else some ((([]:D0)++b),c))
def w8(a:D0)(b:D0):Option (Int):=(if(!decide (((a.length:Nat):Int)=((b.length:Nat):Int)))=true then(if(decide (((a.length:Nat):Int)<((b.length:Nat):Int)))=true then some (-1)else some 1)else(G9 a).bind λf=>match f with|(g,h)=>(G9 b).bind λi=>match i with|(j,k)=>(P5 g j).bind λc=>(grd (K0 c)).bind λ_=>(if(decide (c=0))=true then(P5 h k).bind λd=>(grd (K0 d)).bind λ_=>some d else some c))
def J3(d:N0)(b:Int)(f:Int):Nat->Int->Option ((Q7×Bool) ⊕ (Unit))
 |0,_=>none
 |fuel+1,a=>(if(decide (a<4))=true then(grd (2≠0)).bind λ_=>(grd (2≠0)).bind λ_=>(C3 d ((IntKind.i64.wrap (2+(IntKind.i64.wrap (Int.tdiv a 2)))),b,f,(IntKind.i64.wrap (1-(IntKind.i64.wrap (2*(Int.tmod a 2))))))).bind λh=>match h with|(i,c)=>(chk c (gi i b) []).bind λj=>(chk c (gi d b) []).bind λk=>(chk c (w8 j k) 0).bind λg=>(grd (K0 g)).bind λ_=>(if(bif c then(decide (g<0))else false)=true then some (.inl (((IntKind.i64.wrap (2+(IntKind.i64.wrap (Int.tdiv a 2)))),b,f,(IntKind.i64.wrap (1-(IntKind.i64.wrap (2*(Int.tmod a 2)))))),true))else(J3 d b f fuel (IntKind.i64.wrap (a+1))))else some (.inr ()))
def Z6(a:N0)(c:Int):Nat->Int->Option ((Q7×Bool) ⊕ (Unit))
 |0,_=>none
 |fuel+1,b=>(if(decide (b<((a.length:Nat):Int)))=true then(J3 a c b Q0 0).bind λd=>D0f d (λ_=>(Z6 a c fuel (IntKind.i64.wrap (b+1))))else some (.inr ()))
def a7(a:N0):Nat->Int->Option ((Q7×Bool) ⊕ (Unit))
 |0,_=>none
 |fuel+1,b=>(if(decide (b<((a.length:Nat):Int)))=true then(Z6 a b Q0 0).bind λc=>D0f c (λ_=>(a7 a fuel (IntKind.i64.wrap (b+1))))else some (.inr ()))
def Z5(b:N0):Nat->Int->Option ((Q7×Bool) ⊕ (Unit))
 |0,_=>none
 |fuel+1,a=>(if(decide (a<((b.length:Nat):Int)))=true then(gi b a).bind λc=>(if(decide (((c.length:Nat):Int)=0))=true then some (.inl ((4,a,0,0),true))else(Z5 b fuel (IntKind.i64.wrap (a+1))))else some (.inr ()))
def k00(a:N0):Option (Q7×Bool):=(Z5 a Q0 0).bind λc=>t7 c (λ_=>(a7 a Q0 0).bind λb=>t7 b (λ_=>some ((0,0,0,0),false)))
def M3(i:N0):Nat->N0->Int->(List Q7)->Option ((N0×b00) ⊕ (N0×(List Q7)))
 |0,_,_,_=>none
 |fuel+1,a,c,b=>(chk (decide (c<400)) (t01 i) false).bind λj=>(if(bif(decide (c<400))then j else false)=true then(k00 a).bind λk=>match k with|(l,m)=>match l with|(d,f,g,h)=>(if(!m)=true then some (.inl (a,b))else(C3 a (d,f,g,h)).bind λn=>match n with|(o,p)=>(grd ((b.length+([(d,f,g,h)]).length)*32<=140737488355328)).bind λ_=>(M3 i fuel o (IntKind.i64.wrap (c+1)) (b ++ [(d,f,g,h)])))else some (.inr (a,b)))
def T8(a:N0):Option (N0×b00):=(V7 a).bind λd=>(M3 a Q0 d 0 ([]:b00)).bind λc=>t7 c (λb=>match b with|(y29,y30)=>some (y29,y30))
def d4(a:b00)(c:N0):Nat->N0->Int->Option ((N0×Bool) ⊕ (N0))
 |0,_,_=>none
 |fuel+1,d,b=>(if(decide (b<((a.length:Nat):Int)))=true then(gi a b).bind λf=>match f with|(g,h,i,j)=>(C3 d (g,h,i,j)).bind λk=>match k with|(l,m)=>(if(!m)=true then(V7 c).bind λn=>some (.inl (n,false))else(d4 a c fuel l (IntKind.i64.wrap (b+1))))else some (.inr (d)))
def P9(a:N0)(c:b00):Option (N0×Bool):=(V7 a).bind λd=>(d4 c a Q0 d 0).bind λb=>t7 b (λf=>some (f,true))
def P1(f:Int)(b:N0)(d:N0):Nat->Int->Int->(List D0)->Option ((H1×Bool) ⊕ (Int×(List D0)))
 |0,_,_,_=>none
 |fuel+1,a,g,c=>(if(decide (a<f))=true then(gi b a).bind λh=>(chk (!(!decide (((h.length:Nat):Int)=1))) (gi d a) []).bind λl=>(if(bif(!decide (((h.length:Nat):Int)=1))then true else(decide (((l.length:Nat):Int)>24)))=true then some (.inl ((0,[]),false))else(gi b a).bind λm=>(gi m 0).bind λn=>(if(decide (n>0))=true then(gi b a).bind λo=>(gi o 0).bind λi=>(gi d a).bind λj=>(grd (j.length*8<=140737488355328)).bind λt=>(gi c (IntKind.i64.wrap (i-1))).bind λu=>(P1 f b d fuel (IntKind.i64.wrap (a+1)) g (c.set (IntKind.i64.wrap (i-1)).toNat j))else(gi b a).bind λp=>(gi p 0).bind λk=>(gi d a).bind λq=>(gi c (IntKind.i64.wrap ((IntKind.i64.wrap (0-k))-1))).bind λv=>(Y5 q).bind λs=>(P1 f b d fuel (IntKind.i64.wrap (a+1)) g (c.set (IntKind.i64.wrap ((IntKind.i64.wrap (0-k))-1)).toNat s))))else some (.inr (g,c)))
def T00(g:H1):Option (H1×Bool):=match g with|(a,b)=>(d8 (a,b)).bind λh=>(if(!h)=true then some ((0,[]),false)else(b9 a).bind λi=>match i with|(j,s)=>match j with|(q,k)=>(T8 b).bind λl=>match l with|(c,m)=>(P9 k m).bind λn=>match n with|(o,p)=>(if(bif(!p)then true else(!decide (((c.length:Nat):Int)=a)))=true then some ((0,[]),false)else(grd ((0:Int)<=a/\a<=a/\a*24<=140737488355328/\a<=9223372036854775807)).bind λ_=>(P1 a c o Q0 0 a (List.replicate a.toNat ([]:D0))).bind λf=>t7 f (λd=>match d with|(y84,y85)=>some ((y84,y85),true))))
def Q9(d:Int)(a:N0):Option (Bool):=(Y8 d a).bind λf=>match f with|(g,b)=>match g with|(h,i,j)=>(chk b (z01 (h,i,j)) 0).bind λc=>(grd (K0 c)).bind λ_=>some (bif b then(decide (c=((a.length:Nat):Int)))else false)
def R9(d:H1):Option (Bool):=match d with|(a,b)=>(Y6 (a,b)).bind λc=>(chk c (Q9 a b) false).bind λf=>some (bif c then f else false)
def g8(h:H1):Option (ByteArray):=match h with|(b,c)=>(Y6 (b,c)).bind λi=>(if(!i)=true then some (⟨#[]⟩:ByteArray)else(o7 (b,c)).bind λa=>(grd (a.size<=9223372036854775807)).bind λ_=>(T00 (b,c)).bind λl=>match l with|(m,p)=>match m with|(n,o)=>(if p=true then(grd (a.size+(⟨#[32,105,110,118,101,114,115,101,32]⟩:ByteArray).size<=9223372036854775807)).bind λ_=>(o7 (n,o)).bind λf=>(grd (f.size<=9223372036854775807)).bind λ_=>(grd ((a++(⟨#[32,105,110,118,101,114,115,101,32]⟩:ByteArray)).size+f.size<=9223372036854775807)).bind λ_=>some ((a++(⟨#[32,105,110,118,101,114,115,101,32]⟩:ByteArray))++f)else(R9 (b,c)).bind λj=>(C01 j (⟨#[32,105,110,106,101,99,116,105,118,101]⟩:ByteArray)).bind λd=>(grd (d.size<=9223372036854775807)).bind λ_=>(grd (a.size+d.size<=9223372036854775807)).bind λ_=>(d8 (b,c)).bind λk=>(C01 k (⟨#[32,115,117,114,106,101,99,116,105,118,101]⟩:ByteArray)).bind λg=>(grd (g.size<=9223372036854775807)).bind λ_=>(grd ((a++d).size+g.size<=9223372036854775807)).bind λ_=>some ((a++d)++g)))
def z9(b:(List ByteArray)):Option (ByteArray):=(k02 b (⟨#[32]⟩:ByteArray) (⟨#[]⟩:ByteArray)).bind λa=>(grd (a.size<=9223372036854775807)).bind λ_=>some a
def T5(a:N0)(c:Int):Nat->Int->Option ((Bool) ⊕ (Unit))
 |0,_=>none
 |fuel+1,b=>(if(decide (b<((a.length:Nat):Int)))=true then(gi a b).bind λd=>(A00 c d).bind λf=>(if(!f)=true then some (.inl false)else(T5 a c fuel (IntKind.i64.wrap (b+1))))else some (.inr ()))
def c7(d:H1):Option (Bool):=match d with|(a,b)=>(E3 a 1 3).bind λf=>(if(bif(!f)then true else(!decide (((b.length:Nat):Int)=a)))=true then some false else(T5 b a Q0 0).bind λc=>t7 c (λ_=>some true))
def I4(d:N0):Nat->Int->(List ByteArray)->Option ((List ByteArray))
 |0,_,_=>none
 |fuel+1,b,f=>(if(decide (b<((d.length:Nat):Int)))=true then(gi d b).bind λg=>(W7 (IntKind.i64.wrap (b+1))).bind λa=>(grd (a.size<=9223372036854775807)).bind λ_=>(grd (a.size+(⟨#[62]⟩:ByteArray).size<=9223372036854775807)).bind λ_=>(v00 g).bind λc=>(grd (c.size<=9223372036854775807)).bind λ_=>(grd ((a++(⟨#[62]⟩:ByteArray)).size+c.size<=9223372036854775807)).bind λ_=>(grd ((f.length+([((a++(⟨#[62]⟩:ByteArray))++c)]).length)*16<=140737488355328)).bind λ_=>(I4 d fuel (IntKind.i64.wrap (b+1)) (f ++ [((a++(⟨#[62]⟩:ByteArray))++c)]))else some (f))
def p7(c:H1):Option (ByteArray):=match c with|(d,a)=>(c7 (d,a)).bind λf=>(if(!f)=true then some (⟨#[]⟩:ByteArray)else(I4 a Q0 0 ([]:(List ByteArray))).bind (λg=>(k02 g (⟨#[32]⟩:ByteArray) (⟨#[]⟩:ByteArray)).bind λb=>(grd (b.size<=9223372036854775807)).bind λ_=>some b))
def Z01(d:j0):Option (Bool):=match d with|(a,b,c)=>(D00 (a,b,c)).bind λf=>some (bif(bif f then(decide (b=1))else false)then(decide (((c.length:Nat):Int)=a))else false)
def O6(d:H1):Option (Bool):=match d with|(a,b)=>(c7 (a,b)).bind λf=>(if(!f)=true then some false else(Z8 a b).bind λg=>match g with|(h,c)=>match h with|(i,j,k)=>(chk c (Z01 (i,j,k)) false).bind λl=>some (bif c then l else false))
def D01(a:D0):Option (D0×D0):=(grd (2≠0)).bind λ_=>(W03 a 0 (IntKind.i64.wrap (Int.tdiv (IntKind.i64.wrap (((a.length:Nat):Int)+1)) 2))).bind λb=>(V4 a).bind λf=>(W03 f 0 (IntKind.i64.wrap (Int.tdiv (IntKind.i64.wrap (((a.length:Nat):Int)+1)) 2))).bind λc=>(N6 c b).bind λd=>(grd (K0 d)).bind λ_=>(if(decide (d<0))=true then some (c,b)else some (b,c))
def O2(c:D0)(d:D0):Option (Int):=(K3 ((c.length:Nat):Int) ((d.length:Nat):Int)).bind λa=>(grd (K0 a)).bind λ_=>(if(!decide (a=0))=true then some a else(D01 c).bind λg=>match g with|(h,i)=>(D01 d).bind λj=>match j with|(k,l)=>(N6 h k).bind λb=>(grd (K0 b)).bind λ_=>(if(!decide (b=0))=true then some b else(N6 i l).bind λf=>(grd (K0 f)).bind λ_=>some f))
def B4(d:N0)(c:Int)(a:D0):Nat->Int->Option ((Q7×Bool) ⊕ (Unit))
 |0,_=>none
 |fuel+1,b=>(if(decide (b<((d.length:Nat):Int)))=true then(gi d b).bind λf=>(if(decide (c=b))=true then(B4 d c a fuel (IntKind.i64.wrap (b+1)))else(V4 f).bind λg=>(j2 ([a,f])).bind λl=>(O2 l a).bind λh=>(grd (K0 h)).bind λ_=>(if(decide (h<0))=true then some (.inl ((2,c,b,1),true))else(j2 ([a,g])).bind λm=>(O2 m a).bind λi=>(grd (K0 i)).bind λ_=>(if(decide (i<0))=true then some (.inl ((2,c,b,(-1)),true))else(j2 ([f,a])).bind λn=>(O2 n a).bind λj=>(grd (K0 j)).bind λ_=>(if(decide (j<0))=true then some (.inl ((3,c,b,1),true))else(j2 ([g,a])).bind λo=>(O2 o a).bind λk=>(grd (K0 k)).bind λ_=>(if(decide (k<0))=true then some (.inl ((3,c,b,(-1)),true))else(B4 d c a fuel (IntKind.i64.wrap (b+1))))))))else some (.inr ()))
def d7(a:N0):Nat->Int->Option ((Q7×Bool) ⊕ (Unit))
 |0,_=>none
 |fuel+1,b=>(if(decide (b<((a.length:Nat):Int)))=true then(gi a b).bind λd=>(B4 a b d Q0 0).bind λc=>D0f c (λ_=>(d7 a fuel (IntKind.i64.wrap (b+1))))else some (.inr ()))
def a6(b:N0):Nat->Int->Option ((Q7×Bool) ⊕ (Unit))
 |0,_=>none
 |fuel+1,a=>(if(decide (a<((b.length:Nat):Int)))=true then(gi b a).bind λc=>(if(decide (((c.length:Nat):Int)=0))=true then some (.inl ((4,a,0,0),true))else(a6 b fuel (IntKind.i64.wrap (a+1))))else some (.inr ()))
def l00(a:N0):Option (Q7×Bool):=(a6 a Q0 0).bind λc=>t7 c (λ_=>(d7 a Q0 0).bind λb=>t7 b (λ_=>some ((0,0,0,0),false)))
def l4(f:N0)(o:Q7):Option (N0×Bool):=match o with|(d,b,g,h)=>(D6 f).bind λa=>(E3 b 0 (IntKind.i64.wrap (((f.length:Nat):Int)-1))).bind λw=>(if(!w)=true then some (a,false)else(gi f b).bind λc=>(if(decide (d=1))=true then(gi a b).bind λK=>(V4 c).bind λq=>some ((a.set b.toNat q),true)else(if(decide (d=4))=true then(if(decide (((c.length:Nat):Int)>0))=true then some (a,false)else(W03 a 0 b).bind λk=>(W03 a (IntKind.i64.wrap (b+1)) (a.length:Int)).bind λl=>(grd ((k.length+l.length)*24<=140737488355328)).bind λ_=>some ((k++l),true))else(if(decide (d=2))=true then(if(decide (d=2))=true then(E3 g 0 (IntKind.i64.wrap (((f.length:Nat):Int)-1))).bind λu=>(if(bif(bif(!u)then true else(decide (g=b)))then true else(bif(!decide (h=1))then(!decide (h=(-1)))else false))=true then some (a,false)else(gi f g).bind λi=>(if(decide (h<0))=true then(V4 i).bind λm=>(if(decide (d=2))=true then(j2 ([c,m])).bind λv=>(gi a b).bind λG=>some ((a.set b.toNat v),true)else(j2 ([m,c])).bind λx=>(gi a b).bind λH=>some ((a.set b.toNat x),true))else(if(decide (d=2))=true then(j2 ([c,i])).bind λy=>(gi a b).bind λI=>some ((a.set b.toNat y),true)else(j2 ([i,c])).bind λz=>(gi a b).bind λJ=>some ((a.set b.toNat z),true))))else some (a,false))else(if(decide (d=3))=true then(E3 g 0 (IntKind.i64.wrap (((f.length:Nat):Int)-1))).bind λA=>(if(bif(bif(!A)then true else(decide (g=b)))then true else(bif(!decide (h=1))then(!decide (h=(-1)))else false))=true then some (a,false)else(gi f g).bind λj=>(if(decide (h<0))=true then(V4 j).bind λn=>(if(decide (d=2))=true then(j2 ([c,n])).bind λC=>(gi a b).bind λL=>some ((a.set b.toNat C),true)else(j2 ([n,c])).bind λp=>(gi a b).bind λD=>some ((a.set b.toNat p),true))else(if(decide (d=2))=true then(j2 ([c,j])).bind λs=>(gi a b).bind λE=>some ((a.set b.toNat s),true)else(j2 ([j,c])).bind λt=>(gi a b).bind λF=>some ((a.set b.toNat t),true))))else some (a,false))))))
def N3:Nat->N0->(List Q7)->Option (N0×(List Q7))
 |0,_,_=>none
 |fuel+1,b,a=>(some a.length).bind λh=>(grd (h<=9223372036854775807)).bind λ_=>(if(decide (((h:Nat):Int)<400))=true then(l00 b).bind λi=>match i with|(j,k)=>match j with|(c,d,f,g)=>(if(!k)=true then some (b,a)else(l4 b (c,d,f,g)).bind λl=>match l with|(m,n)=>(grd ((a.length+([(c,d,f,g)]).length)*32<=140737488355328)).bind λ_=>(N3 fuel m (a ++ [(c,d,f,g)])))else some (b,a))
def U8(a:N0):Option (N0×b00):=(D6 a).bind λb=>(f00 3 a).bind λd=>(if(!d)=true then some (b,([]:b00))else(N3 Q0 b ([]:b00)).bind (λc=>match c with|(y35,y36)=>some (y35,y36)))
def I6(c:Int):Nat->Int->Int->(List D0)->Option (Int×(List D0))
 |0,_,_,_=>none
 |fuel+1,a,d,b=>(if(decide (a<=c))=true then(grd ((b.length + [[a]].length)*24<=140737488355328)).bind λ_=>(I6 c fuel (IntKind.i64.wrap (a+1)) d (b ++ [[a]]))else some (d,b))
def c9(a:Int):Option (H1×Bool):=(E3 a 1 3).bind λc=>(if(!c)=true then some ((0,[]),false)else(I6 a Q0 1 a ([]:N0)).bind (λb=>match b with|(y20,y21)=>some ((y20,y21),true)))
def i4(a:b00)(c:N0):Nat->N0->Int->Option ((N0×Bool) ⊕ (N0))
 |0,_,_=>none
 |fuel+1,d,b=>(if(decide (b<((a.length:Nat):Int)))=true then(gi a b).bind λf=>match f with|(g,h,i,j)=>(l4 d (g,h,i,j)).bind λk=>match k with|(l,m)=>(if(!m)=true then(D6 c).bind λn=>some (.inl (n,false))else(i4 a c fuel l (IntKind.i64.wrap (b+1))))else some (.inr (d)))
def S9(a:N0)(c:b00):Option (N0×Bool):=(D6 a).bind λd=>(i4 c a Q0 d 0).bind λb=>t7 b (λf=>some (f,true))
def Q1(g:N0)(j:N0)(d:Int):Nat->Int->Int->(List (Option D0))->Option ((H1×Bool) ⊕ (Int×(List (Option D0))))
 |0,_,_,_=>none
 |fuel+1,c,h,b=>(if(decide (c<((g.length:Nat):Int)))=true then(gi g c).bind λk=>(if(!decide (((k.length:Nat):Int)=1))=true then some (.inl ((0,[]),false))else(gi j c).bind λf=>(gi k 0).bind λa=>(if(decide (a<0))=true then(V4 f).bind λi=>(E3 (IntKind.i64.wrap (0-a)) 1 d).bind λl=>(chk (!(!l)) (gi b (IntKind.i64.wrap ((IntKind.i64.wrap (0-a))-1))) (none:Option D0)).bind λn=>(if(bif(bif(!l)then true else(!n.isNone))then true else(decide (((i.length:Nat):Int)>24)))=true then some (.inl ((0,[]),false))else(grd ((([]:D0).length+i.length)*8<=140737488355328)).bind λ_=>(gi b (IntKind.i64.wrap ((IntKind.i64.wrap (0-a))-1))).bind λp=>(Q1 g j d fuel (IntKind.i64.wrap (c+1)) h (b.set (IntKind.i64.wrap ((IntKind.i64.wrap (0-a))-1)).toNat (some (([]:D0)++i)))))else(E3 a 1 d).bind λm=>(chk (!(!m)) (gi b (IntKind.i64.wrap (a-1))) (none:Option D0)).bind λo=>(if(bif(bif(!m)then true else(!o.isNone))then true else(decide (((f.length:Nat):Int)>24)))=true then some (.inl ((0,[]),false))else(grd ((([]:D0).length+f.length)*8<=140737488355328)).bind λ_=>(gi b (IntKind.i64.wrap (a-1))).bind λq=>(Q1 g j d fuel (IntKind.i64.wrap (c+1)) h (b.set (IntKind.i64.wrap (a-1)).toNat (some (([]:D0)++f)))))))else some (.inr (h,b)))
def U00(g:H1):Option (H1×Bool):=match g with|(a,b)=>(O6 (a,b)).bind λh=>(if(!h)=true then some ((0,[]),false)else(U8 b).bind λi=>match i with|(c,j)=>(c9 a).bind λk=>match k with|(l,t)=>match l with|(s,m)=>(S9 m j).bind λn=>match n with|(p,q)=>(if(bif(!q)then true else(!decide (((c.length:Nat):Int)=a)))=true then some ((0,[]),false)else(grd ((0:Int)<=a/\a<=a/\a*24<=140737488355328/\a<=9223372036854775807)).bind λ_=>(Q1 c p a Q0 0 a (List.replicate a.toNat (none:Option D0))).bind λf=>t7 f (λd=>match d with|(y54,y55)=>some ((y54,(List.map (λo:Option D0=>o.getD ([]:D0)) y55)),true))))
def T9(d:Int)(a:N0):Option (Bool):=(Z8 d a).bind λf=>match f with|(g,b)=>match g with|(h,i,j)=>(chk b (A01 (h,i,j)) 0).bind λc=>(grd (K0 c)).bind λ_=>some (bif b then(decide (c=((a.length:Nat):Int)))else false)
def U9(d:H1):Option (Bool):=match d with|(a,b)=>(c7 (a,b)).bind λc=>(chk c (T9 a b) false).bind λf=>some (bif c then f else false)
def n9(j:H1):Option (ByteArray):=match j with|(a,b)=>(c7 (a,b)).bind λk=>(if(!k)=true then some (⟨#[]⟩:ByteArray)else(p7 (a,b)).bind λc=>(grd (c.size<=9223372036854775807)).bind λ_=>(U00 (a,b)).bind λo=>match o with|(p,t)=>match p with|(q,s)=>(if t=true then(p7 (q,s)).bind λi=>(grd (i.size<=9223372036854775807)).bind λ_=>(z9 ([c,(⟨#[105,110,118,101,114,115,101]⟩:ByteArray),i])).bind λf=>(grd (f.size<=9223372036854775807)).bind λ_=>some f else(U9 (a,b)).bind λl=>(if l=true then(z9 ([c,(⟨#[105,110,106,101,99,116,105,118,101]⟩:ByteArray)])).bind λd=>(grd (d.size<=9223372036854775807)).bind λ_=>(O6 (a,b)).bind λm=>(if m=true then(z9 ([d,(⟨#[115,117,114,106,101,99,116,105,118,101]⟩:ByteArray)])).bind λg=>(grd (g.size<=9223372036854775807)).bind λ_=>some g else some d)else(O6 (a,b)).bind λn=>(if n=true then(z9 ([c,(⟨#[115,117,114,106,101,99,116,105,118,101]⟩:ByteArray)])).bind λh=>(grd (h.size<=9223372036854775807)).bind λ_=>some h else some c))))
end Go.Proofs.YtohcdjhocpakkaaGreat
