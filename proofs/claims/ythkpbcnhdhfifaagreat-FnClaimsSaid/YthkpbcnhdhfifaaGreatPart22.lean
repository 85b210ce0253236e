/- Texts of the claim, joined: What functions of the program compute, in plain words: batch and others. -/
import Derived.Test.YthkpbcnhdhfifaaGreatPart21
import Derived.Test.YthkpbcnhdhfifaaGreatH36
import Derived.Test.YthkpbcnhdhfifaaGreatH35
namespace Go.Proofs.YthkpbcnhdhfifaaGreat
set_option linter.all false
open Go.H
open IntKind (i64)
set_option maxRecDepth 10000
def i4(a:Int)(b:Int)(c:Int):Option (Bool):=some (bif(decide (a ≥ b))then(decide (a<=c))else false)
def K00(b:J0)(d:Int):Nat->Int->Option ((Bool) ⊕ (Unit))
 |0,_=>none
 |fuel+1,a=>(if(decide (a<((b.length:Nat):Int)))=true then(gi b a).bind λc=>(chk (!(decide (c=0))) (gi b a) 0).bind λg=>(chk (!(decide (c=0))) (i4 g (i64.wrap (0-d)) d) false).bind λe=>(chk ((decide (a>0))&&(!(bif(decide (c=0))then true else(!e)))) (gi b a) 0).bind λh=>(chk ((decide (a>0))&&(!(bif(decide (c=0))then true else(!e)))) (gi b (i64.wrap (a-1))) 0).bind λf=>(if(bif(bif(decide (c=0))then true else(!e))then true else(bif(decide (a>0))then(decide (h=(i64.wrap (0-f))))else false))=true then some (.inl false)else(K00 b d fuel (i64.wrap (a+1))))else some (.inr ()))
def I8(a:Int)(b:J0):Option (Bool):=(K00 b a U0 0).bind λc=>T9 c (λ_=>(i4 a 1 3).bind λd=>some (bif d then(decide (((b.length:Nat):Int)<=24))else false))
def T4(a:K1):Nat->Int->Int->Option (Int)
 |0,_,_=>none
 |fuel+1,c,b=>(if(decide (b<((a.length:Nat):Int)))=true then(gi a b).bind λd=>(T4 a fuel (i64.wrap (c+((d.length:Nat):Int))) (i64.wrap (b+1)))else some (c))
def Y00(a:K1):Option (Int):=(T4 a U0 0 0).bind (λb=>some b)
def c9(a:K1)(c:Int):Nat->Int->Option ((Bool) ⊕ (Unit))
 |0,_=>none
 |fuel+1,b=>(if(decide (b<((a.length:Nat):Int)))=true then(gi a b).bind λd=>(I8 c d).bind λe=>(if(!e)=true then some (.inl false)else(c9 a c fuel (i64.wrap (b+1))))else some (.inr ()))
def V01(b:Int)(a:K1):Option (Bool):=(c9 a b U0 0).bind λe=>T9 e (λ_=>(i4 b 1 3).bind λc=>(chk (bif c then(decide (((a.length:Nat):Int)<=6))else false) (Y00 a) 0).bind λd=>(grd (I0 d)).bind λ_=>some (bif(bif c then(decide (((a.length:Nat):Int)<=6))else false)then(decide (d<40))else false))
def A5(a:Int)(b:Int)(c:Int):Option (Bool):=some (bif(decide (a ≥ b))then(decide (a<=c))else false)
def x04(b:Int)(a:Int):Option (Bool):=(chk (!decide (a=0)) (A5 a (i64.wrap (0-b)) b) false).bind λc=>some (bif(!decide (a=0))then c else false)
def J01(a:Int)(b:Int):Option (Bool):=some (bif(bif(!decide (a=0))then(!decide (a=(-9223372036854775808)))else false)then(decide (b=(i64.wrap (0-a))))else false)
def L00(b:J0)(d:Int):Nat->Int->Option ((Bool) ⊕ (Unit))
 |0,_=>none
 |fuel+1,a=>(if(decide (a<((b.length:Nat):Int)))=true then(gi b a).bind λe=>(x04 d e).bind λc=>(chk ((decide (a>0))&&(!(!c))) (gi b (i64.wrap (a-1))) 0).bind λf=>(chk ((decide (a>0))&&(!(!c))) (J01 f e) false).bind λg=>(if(bif(!c)then true else(bif(decide (a>0))then g else false))=true then some (.inl false)else(L00 b d fuel (i64.wrap (a+1))))else some (.inr ()))
def J8(a:Int)(b:J0):Option (Bool):=(A5 a 1 3).bind λd=>(if(bif(!d)then true else(decide (((b.length:Nat):Int)>24)))=true then some false else(L00 b a U0 0).bind λc=>T9 c (λ_=>some true))
def p8(a:K1):Nat->Int->Int->Option (Int)
 |0,_,_=>none
 |fuel+1,c,b=>(if(decide (b<((a.length:Nat):Int)))=true then(gi a b).bind λd=>(p8 a fuel (i64.wrap (c+((d.length:Nat):Int))) (i64.wrap (b+1)))else some (c))
def E02(a:K1):Option (Int):=(p8 a U0 0 0).bind (λb=>some b)
def d9(a:K1)(c:Int):Nat->Int->Option ((Bool) ⊕ (Unit))
 |0,_=>none
 |fuel+1,b=>(if(decide (b<((a.length:Nat):Int)))=true then(gi a b).bind λd=>(J8 c d).bind λe=>(if(!e)=true then some (.inl false)else(d9 a c fuel (i64.wrap (b+1))))else some (.inr ()))
def W01(b:Int)(a:K1):Option (Bool):=(A5 b 1 3).bind λe=>(if(bif(!e)then true else(decide (((a.length:Nat):Int)>6)))=true then some false else(d9 a b U0 0).bind λd=>T9 d (λ_=>(E02 a).bind λc=>(grd (I0 c)).bind λ_=>some (decide (c<40))))
def P9(a:Int)(b:Int):Option (Int):=(if(decide (a<b))=true then some (-1)else(if(decide (a>b))=true then some 1 else some 0))
def C5(c:J0):Nat->Int->(List Int)->Option ((List Int))
 |0,_,_=>none
 |fuel+1,a,b=>(if(decide (a ≥ 0))=true then(gi c a).bind λd=>(grd ((b.length+([(i64.wrap (0-d))]).length)*8<=140737488355328)).bind λ_=>(C5 c fuel (i64.wrap (a-1)) (b ++ [(i64.wrap (0-d))]))else some (b))
def g9(a:J0):Option (J0):=(C5 a U0 (i64.wrap (((a.length:Nat):Int)-1)) ([]:J0)).bind (λb=>some b)
def D3(c:J0):Nat->Int->(List Int)->Option ((List Int))
 |0,_,_=>none
 |fuel+1,d,b=>(if(decide (d<((c.length:Nat):Int)))=true then(some b.length).bind λa=>(grd (a<=9223372036854775807)).bind λ_=>(chk (decide (((a:Nat):Int)>0)) (gi c d) 0).bind λe=>(chk (bif(decide (((a:Nat):Int)>0))then(!decide (e=0))else false) (gi b (i64.wrap (((a:Nat):Int)-1))) 0).bind λf=>(chk (bif(decide (((a:Nat):Int)>0))then(!decide (e=0))else false) (gi c d) 0).bind λg=>(chk (bif(bif(decide (((a:Nat):Int)>0))then(!decide (e=0))else false)then(decide (f=(i64.wrap (0-g))))else false) (gi b (i64.wrap (((a:Nat):Int)-1))) 0).bind λi=>(chk (bif(bif(decide (((a:Nat):Int)>0))then(!decide (e=0))else false)then(decide (f=(i64.wrap (0-g))))else false) (gi c d) 0).bind λj=>(if(bif(bif(bif(decide (((a:Nat):Int)>0))then(!decide (e=0))else false)then(decide (f=(i64.wrap (0-g))))else false)then(!decide (i=j))else false)=true then(grd (0<=(i64.wrap (((a:Nat):Int)-1))/\(i64.wrap (((a:Nat):Int)-1))<=(b.length:Int))).bind λ_=>(D3 c fuel (i64.wrap (d+1)) (b.take (i64.wrap (((a:Nat):Int)-1)).toNat))else(gi c d).bind λh=>(grd ((b.length + [h].length)*8<=140737488355328)).bind λ_=>(D3 c fuel (i64.wrap (d+1)) (b ++ [h])))else some (b))
def L3(b:J0):Option (J0):=(D3 b U0 0 ([]:J0)).bind (λa=>(grd ((([]:J0).length+a.length)*8<=140737488355328)).bind λ_=>some (([]:J0)++a))
def r8(a:J0)(b:J0):Option (J0):=(grd ((([]:J0).length+a.length)*8<=140737488355328)).bind λ_=>(grd (((([]:J0)++a).length+b.length)*8<=140737488355328)).bind λ_=>(L3 ((([]:J0)++a)++b)).bind λc=>some c
def W8(c:J0):Nat->Int->(List Int)->Option ((List Int))
 |0,_,_=>none
 |fuel+1,a,b=>(if(decide (a ≥ 0))=true then(gi c a).bind λd=>(grd ((b.length+([(i64.wrap (0-d))]).length)*8<=140737488355328)).bind λ_=>(W8 c fuel (i64.wrap (a-1)) (b ++ [(i64.wrap (0-d))]))else some (b))
def t00(a:J0):Option (J0):=(grd ((0:Int)<=0/\0<=((a.length:Nat):Int)/\((a.length:Nat):Int)*8<=140737488355328/\((a.length:Nat):Int)<=9223372036854775807)).bind λ_=>(W8 a U0 (i64.wrap (((a.length:Nat):Int)-1)) (List.replicate (0:Int).toNat (0:Int))).bind (λb=>some b)
def K8(e:J0):Nat->Int->(List Int)->Option ((List Int))
 |0,_,_=>none
 |fuel+1,d,a=>(if(decide (d<((e.length:Nat):Int)))=true then(gi e d).bind λf=>(some a.length).bind λb=>(grd (b<=9223372036854775807)).bind λ_=>(some a.length).bind λg=>(grd (g<=9223372036854775807)).bind λ_=>(chk (decide (((b:Nat):Int)>0)) (gi a (i64.wrap (((g:Nat):Int)-1))) 0).bind λh=>(chk (decide (((b:Nat):Int)>0)) (J01 h f) false).bind λi=>(if(bif(decide (((b:Nat):Int)>0))then i else false)=true then(some a.length).bind λc=>(grd (c<=9223372036854775807)).bind λ_=>(grd (0<=(i64.wrap (((c:Nat):Int)-1))/\(i64.wrap (((c:Nat):Int)-1))<=(a.length:Int))).bind λ_=>(K8 e fuel (i64.wrap (d+1)) (a.take (i64.wrap (((c:Nat):Int)-1)).toNat))else(grd ((a.length + [f].length)*8<=140737488355328)).bind λ_=>(K8 e fuel (i64.wrap (d+1)) (a ++ [f])))else some (a))
def U9(a:K1):Nat->Int->(List Int)->Option ((List Int))
 |0,_,_=>none
 |fuel+1,b,c=>(if(decide (b<((a.length:Nat):Int)))=true then(gi a b).bind λd=>(K8 d U0 0 c).bind (λe=>(U9 a fuel (i64.wrap (b+1)) e))else some (c))
def u00(a:K1):Option (J0):=(U9 a U0 0 ([]:J0)).bind (λb=>some b)
def z0s(a b:Int):Int:=i64.wrap ((BitVec.ofInt 64 a &&& BitVec.ofInt 64 b).toNat:Int)
def k0B(a b:Int):Int:=i64.wrap ((BitVec.ofInt 64 a ^^^ BitVec.ofInt 64 b).toNat:Int)
def r01(b:List Int):Nat->Int->Int->Option Int
 |0,_,_=>none
 |fuel+1,c,a=>if(bif decide (a<((b.length:Nat):Int))then decide (a<4000)else false)=true then(gi b a).bind λx=>r01 b fuel (z0s (i64.wrap (i64.wrap (i64.wrap (c*131)+i64.wrap x)+7)) 1073741823) (i64.wrap (a+1))else some c
def j03(a:List Int):Option (Int×Int):=(r01 a U0 (i64.wrap (10101+((a.length:Nat):Int))) 0).bind λy=>some (0,y)
def nxt(q:Int):Int:=i64.wrap (i64.wrap (q*6364136223846793005)+1442695040888963407)
def drw(q:Int):Int:=z0s (k0B (Int.fdiv q (2 ^ min (33:Int).toNat 64)) (Int.fdiv q (2 ^ min (45:Int).toNat 64))) 255
def f01(a:List Int)(q:Int×Int):Option (Int×(Int×Int)) :=
 if decide (q.1<((a.length:Nat):Int))=true then(gi a q.1).bind λc=>some (z0s (i64.wrap (drw (nxt q.2)+i64.wrap c)) 255,(i64.wrap (q.1+1),nxt q.2))else some (drw (nxt q.2),(q.1,nxt q.2))
def E4(b:List Int)(c:Int×Int)(a:Int):Option (Int×(Int×Int)):=(if(decide (a<=0))=true then some (0,c)else(if(decide (a<=256))=true then(f01 b c).bind λ(g,l)=>(grd (I0 g)).bind λ_=>(grd (a≠0)).bind λ_=>some ((Int.tmod g a),l)else(f01 b c).bind λ(h,m)=>(grd (I0 h)).bind λ_=>(f01 b m).bind λ(d,i)=>(grd (I0 d)).bind λ_=>(f01 b i).bind λ(e,j)=>(grd (I0 e)).bind λ_=>(f01 b j).bind λ(f,k)=>(grd (I0 f)).bind λ_=>(grd (a≠0)).bind λ_=>some ((Int.tmod (i64.wrap ((i64.wrap ((i64.wrap ((i64.wrap (h*16777216))+(i64.wrap (d*65536))))+(i64.wrap (e*256))))+f)) a),k)))
def G9(b:List Int)(c:Int×Int)(d:Int):Option (Bool×(Int×Int)):=(E4 b c d).bind λ(a,e)=>(grd (I0 a)).bind λ_=>some ((decide (a=0)),e)
def I03(c:List Int)(d:Int×Int)(a:J0):Option (Int×(Int×Int)):=(E4 c d ((a.length:Nat):Int)).bind λ(b,e)=>(grd (I0 b)).bind λ_=>(gi a b).bind λf=>some (f,e)
def q00(c:(List Int))(d:Int):Nat->Int->(List Int)->(Int×Int)->Option ((List Int)×(Int×Int))
 |0,_,_,_=>none
 |fuel+1,e,a,u8=>(if(decide (e>0))=true then(E4 c u8 d).bind λ(b,g)=>(grd (I0 b)).bind λ_=>(G9 c g 2).bind λ(h,f)=>(if h=true then(grd ((a.length+([(i64.wrap (0-(i64.wrap (1+b))))]).length)*8<=140737488355328)).bind λ_=>(q00 c d fuel (i64.wrap (e-1)) (a ++ [(i64.wrap (0-(i64.wrap (1+b))))]) f)else(grd ((a.length+([(i64.wrap (1+b))]).length)*8<=140737488355328)).bind λ_=>(q00 c d fuel (i64.wrap (e-1)) (a ++ [(i64.wrap (1+b))]) f))else some (a,u8))
def Y04(a:List Int)(c:Int×Int)(d:Int)(e:Int):Option (J0×(Int×Int)):=(E4 a c (i64.wrap (e+1))).bind λ(b,f)=>(grd (I0 b)).bind λ_=>(q00 a d U0 b ([]:J0) f).bind (λ(h,i)=>(L3 h).bind λg=>some (g,i))
def V9(b:(List Int))(c:Int):Nat->Int->(List J0)->(Int×Int)->Option ((List J0)×(Int×Int))
 |0,_,_,_=>none
 |fuel+1,d,a,u8=>(if(decide (d>0))=true then(Y04 b u8 c 5).bind λ(e,f)=>(grd ((a.length + [e].length)*24<=140737488355328)).bind λ_=>(V9 b c fuel (i64.wrap (d-1)) (a ++ [e]) f)else some (a,u8))
def J03(a:List Int)(c:Int×Int)(d:Int):Option (K1×(Int×Int)):=(E4 a c 4).bind λ(b,e)=>(grd (I0 b)).bind λ_=>(V9 a d U0 b ([]:K1) e).bind (λ(f,g)=>some (f,g))
def U05(d:B0)(f:Q0):Option (Bool):=match d with|(e,b,k)=>match f with|(g,h,i)=>(i4 g 0 (i64.wrap (b-1))).bind λa=>(chk a (i4 i 0 (i64.wrap (b-1))) false).bind λc=>(chk (bif a then c else false) (i4 h 1 e) false).bind λj=>some (bif(bif a then c else false)then j else false)
def A9(b:Int)(c:Int)(d:Int)(e:Int)(f:Int)(g:Int):Nat->Int->Option ((Int) ⊕ (Unit))
 |0,_=>none
 |fuel+1,a=>(if(decide (a<3))=true then(gi [b,c,d] a).bind λi=>(gi [e,f,g] a).bind λj=>(if(decide (i<j))=true then some (.inl (-1))else(gi [b,c,d] a).bind λk=>(gi [e,f,g] a).bind λh=>(if(decide (k>h))=true then some (.inl 1)else(A9 b c d e f g fuel (i64.wrap (a+1)))))else some (.inr ()))
def F00(b:Q0)(f:Q0):Option (Int):=match b with|(c,d,e)=>match f with|(g,h,i)=>(A9 c d e g h i U0 0).bind λa=>T9 a (λ_=>some 0)
def W9(b:T0)(d:Int)(e:Int):Nat->Int->Option ((Bool) ⊕ (Unit))
 |0,_=>none
 |fuel+1,a=>(if(decide (a<((b.length:Nat):Int)))=true then(gi b a).bind λ(g,h,i)=>(U05 (d,e,b) (g,h,i)).bind λc=>(chk ((decide (a>0))&&(!(!c))) (gi b (i64.wrap (a-1))) (0,0,0)).bind λ(j,k,l)=>(chk ((decide (a>0))&&(!(!c))) (gi b a) (0,0,0)).bind λ(m,n,o)=>(chk ((decide (a>0))&&(!(!c))) (F00 (j,k,l) (m,n,o)) 0).bind λf=>(grd (I0 f)).bind λ_=>(if(bif(!c)then true else(bif(decide (a>0))then(decide (f ≥ 0))else false))=true then some (.inl false)else(W9 b d e fuel (i64.wrap (a+1))))else some (.inr ()))
def Y4(f:B0):Option (Bool):=match f with|(a,b,c)=>(W9 c a b U0 0).bind λe=>T9 e (λ_=>(i4 a 1 3).bind λd=>(chk d (i4 b 1 40) false).bind λg=>some (bif(bif d then g else false)then(decide (((c.length:Nat):Int)<=120))else false))
def G5(a:B0)(c:Int):Option (Bool):=match a with|(e,b,f)=>(A5 c 0 (i64.wrap (b-1))).bind λd=>some d
def t01(f:B0)(g:Q0):Option (Bool):=match f with|(a,c,d)=>match g with|(h,i,j)=>(G5 (a,c,d) h).bind λb=>(chk b (G5 (a,c,d) j) false).bind λe=>(chk (bif b then e else false) (A5 i 1 a) false).bind λk=>some (bif(bif b then e else false)then k else false)
def f02(d:Q0)(h:Q0):Option (Int):=match d with|(e,f,g)=>match h with|(i,j,k)=>(P9 e i).bind λa=>(grd (I0 a)).bind λ_=>(if(!decide (a=0))=true then some a else(P9 f j).bind λb=>(grd (I0 b)).bind λ_=>(if(!decide (b=0))=true then some b else(P9 g k).bind λc=>(grd (I0 c)).bind λ_=>some c))
def Y9(b:T0)(d:Int)(e:Int):Nat->Int->Option ((Bool) ⊕ (Unit))
 |0,_=>none
 |fuel+1,a=>(if(decide (a<((b.length:Nat):Int)))=true then(gi b a).bind λ(g,h,i)=>(t01 (d,e,b) (g,h,i)).bind λc=>(chk ((decide (a>0))&&(!(!c))) (gi b (i64.wrap (a-1))) (0,0,0)).bind λ(j,k,l)=>(chk ((decide (a>0))&&(!(!c))) (f02 (j,k,l) (g,h,i)) 0).bind λf=>(grd (I0 f)).bind λ_=>(if(bif(!c)then true else(bif(decide (a>0))then(decide (f ≥ 0))else false))=true then some (.inl false)else(Y9 b d e fuel (i64.wrap (a+1))))else some (.inr ()))
def N7(f:B0):Option (Bool):=match f with|(a,b,c)=>(A5 a 1 3).bind λd=>(chk (!(!d)) (A5 b 1 40) false).bind λg=>(if(bif(bif(!d)then true else(!g))then true else(decide (((c.length:Nat):Int)>120)))=true then some false else(Y9 c a b U0 0).bind λe=>T9 e (λ_=>some true))
def K5(b:J0)(a:Int):Nat->Bool->Int->(List Int)->Option (Bool×(List Int))
 |0,_,_,_=>none
 |fuel+1,e,c,d=>(if(decide (c<((b.length:Nat):Int)))=true then(gi b c).bind λl=>(if(decide (l=a))=true then(gi b c).bind λj=>(if(bif(decide (j>a))then(!true)else false)=true then(grd ((d.length + [a].length)*8<=140737488355328)).bind λ_=>(gi b c).bind λf=>(grd (((d ++ [a]).length + [f].length)*8<=140737488355328)).bind λ_=>(K5 b a fuel true (i64.wrap (c+1)) ((d ++ [a]) ++ [f]))else(gi b c).bind λg=>(grd ((d.length + [g].length)*8<=140737488355328)).bind λ_=>(K5 b a fuel true (i64.wrap (c+1)) (d ++ [g])))else(gi b c).bind λk=>(if(bif(decide (k>a))then(!e)else false)=true then(grd ((d.length + [a].length)*8<=140737488355328)).bind λ_=>(gi b c).bind λh=>(grd (((d ++ [a]).length + [h].length)*8<=140737488355328)).bind λ_=>(K5 b a fuel true (i64.wrap (c+1)) ((d ++ [a]) ++ [h]))else(gi b c).bind λi=>(grd ((d.length + [i].length)*8<=140737488355328)).bind λ_=>(K5 b a fuel e (i64.wrap (c+1)) (d ++ [i]))))else some (e,d))
def g01(c:J0)(a:Int):Option (J0):=(K5 c a U0 false 0 ([]:J0)).bind (λ(d,b)=>(if(!d)=true then(grd ((b.length + [a].length)*8<=140737488355328)).bind λ_=>some (b ++ [a])else some b))
def u01(a:J0)(c:Int):Nat->Int->Option ((Bool) ⊕ (Unit))
 |0,_=>none
 |fuel+1,b=>(if(decide (b<((a.length:Nat):Int)))=true then(gi a b).bind λd=>(if(decide (d=c))=true then some (.inl true)else(u01 a c fuel (i64.wrap (b+1))))else some (.inr ()))
def h01(b:J0)(c:Int):Option (Bool):=(u01 b c U0 0).bind λa=>T9 a (λ_=>some false)
def Z4(c:T0)(a:Int)(b:Int):Nat->J0->Int->Option (J0)
 |0,_,_=>none
 |fuel+1,e,d=>(if(decide (d<((c.length:Nat):Int)))=true then(gi c d).bind λ(f,g,h)=>(if(bif(bif(decide (a>0))then(decide (g=a))else false)then(decide (f=b))else false)=true then(g01 e h).bind λi=>(if(bif(bif(decide (a<0))then(decide (g=(i64.wrap (0-a))))else false)then(decide (h=b))else false)=true then(g01 i f).bind λj=>(Z4 c a b fuel j (i64.wrap (d+1)))else(Z4 c a b fuel i (i64.wrap (d+1))))else(if(bif(bif(decide (a<0))then(decide (g=(i64.wrap (0-a))))else false)then(decide (h=b))else false)=true then(g01 e f).bind λk=>(Z4 c a b fuel k (i64.wrap (d+1)))else(Z4 c a b fuel e (i64.wrap (d+1)))))else some (e))
def K03(a:B0)(c:Int)(d:Int):Option (J0):=match a with|(f,g,b)=>(Z4 b d c U0 ([]:J0) 0).bind (λe=>some e)
def j4(b:B0)(f:Int)(g:Int):Option (Int):=match b with|(c,d,e)=>(K03 (c,d,e) f g).bind λa=>(if(decide (((a.length:Nat):Int)=0))=true then some (-1)else(gi a 0).bind λh=>some h)
def i9(b:Int)(a:T0):Nat->Int->Option ((Bool) ⊕ (Unit))
 |0,_=>none
 |fuel+1,u8=>(if(decide (u8<b))=true then(gi a b).bind λ(c,d,e)=>(gi a u8).bind λ(f,g,h)=>(if(bif(decide (d=g))then(bif(decide (c=f))then true else(decide (e=h)))else false)=true then some (.inl false)else(i9 b a fuel (i64.wrap (u8+1))))else some (.inr ()))
def S6(a:T0)(c:Int)(d:Int):Nat->Int->Option ((Bool) ⊕ (Unit))
 |0,_=>none
 |fuel+1,b=>(chk (decide (b<((a.length:Nat):Int))) (Y4 (c,d,a)) false).bind λf=>(if(bif(decide (b<((a.length:Nat):Int)))then f else false)=true then(i9 b a U0 0).bind λe=>z0v e (λ_=>(S6 a c d fuel (i64.wrap (b+1))))else some (.inr ()))
def P4(e:B0):Option (Bool):=match e with|(a,b,c)=>(S6 c a b U0 0).bind λd=>T9 d (λ_=>(Y4 (a,b,c)).bind λf=>some f)
def j9(a:J0)(d:Int)(e:Int)(f:T0):Nat->Int->Int->Option ((Int×Bool) ⊕ (Int))
 |0,_,_=>none
 |fuel+1,g,b=>(if(decide (b<((a.length:Nat):Int)))=true then(gi a b).bind λh=>(j4 (d,e,f) g h).bind λc=>(grd (I0 c)).bind λ_=>(if(decide (c<0))=true then some (.inl ((-1),false))else(j9 a d e f fuel c (i64.wrap (b+1))))else some (.inr (g)))
def X01(g:B0)(d:Int)(h:J0):Option (Int×Bool):=match g with|(b,a,c)=>(P4 (b,a,c)).bind λe=>(chk (!(!e)) (i4 d 0 (i64.wrap (a-1))) false).bind λi=>(if(bif(!e)then true else(!i))=true then some ((-1),false)else(j9 h b a c U0 d 0).bind λf=>T9 f (λj=>some (j,true)))
def j6(c:T0)(a:Int)(d:Int):Nat->Int->(List Int)->Option ((List Int))
 |0,_,_=>none
 |fuel+1,e,b=>(if(decide (e<((c.length:Nat):Int)))=true then(gi c e).bind λ(f,h,g)=>(if(bif(bif(decide (a>0))then(decide (h=a))else false)then(decide (f=d))else false)=true then(grd ((b.length + [g].length)*8<=140737488355328)).bind λ_=>(j6 c a d fuel (i64.wrap (e+1)) (b ++ [g]))else(if(bif(bif(bif(decide (a<0))then(!decide (a=(-9223372036854775808)))else false)then(decide (h=(i64.wrap (0-a))))else false)then(decide (g=d))else false)=true then(grd ((b.length + [f].length)*8<=140737488355328)).bind λ_=>(j6 c a d fuel (i64.wrap (e+1)) (b ++ [f]))else(j6 c a d fuel (i64.wrap (e+1)) b)))else some (b))
def L03(b:B0)(d:Int)(e:Int):Option (J0):=match b with|(f,g,c)=>(j6 c e d U0 0 ([]:J0)).bind (λa=>(grd (a.length<4611686018427387904)).bind λ_=>some (V07 eqI (B0b l02 a)))
def W4(b:B0)(f:Int)(g:Int):Option (Int):=match b with|(c,d,e)=>(L03 (c,d,e) f g).bind λa=>(if(decide (((a.length:Nat):Int)=0))=true then some (-1)else(gi a 0).bind λh=>some h)
def l9(b:T0)(d:Int)(c:Int)(e:Int):Nat->Int->Option ((Bool) ⊕ (Unit))
 |0,_=>none
 |fuel+1,a=>(if(decide (a<((b.length:Nat):Int)))=true then(gi b a).bind λ(f,g,h)=>(if(bif(decide (d=g))then(bif(decide (c=f))then true else(decide (e=h)))else false)=true then some (.inl false)else(l9 b d c e fuel (i64.wrap (a+1))))else some (.inr ()))
def n9(a:T0):Nat->Int->Option ((Bool) ⊕ (Unit))
 |0,_=>none
 |fuel+1,b=>(if(decide (b<((a.length:Nat):Int)))=true then(gi a b).bind λ(d,e,f)=>(U07 a (i64.wrap (b+1)) (a.length:Int)).bind λg=>(l9 g e d f U0 0).bind λc=>z0v c (λ_=>(n9 a fuel (i64.wrap (b+1))))else some (.inr ()))
def O7(c:B0):Option (Bool):=match c with|(d,e,a)=>(N7 (d,e,a)).bind λf=>(if(!f)=true then some false else(n9 a U0 0).bind λb=>T9 b (λ_=>some true))
def W7(b:J0)(e:Int)(f:Int)(g:T0):Nat->Int->Int->Option ((Int×Int) ⊕ (Int))
 |0,_,_=>none
 |fuel+1,c,a=>(if(decide (a<((b.length:Nat):Int)))=true then(gi b a).bind λh=>(W4 (e,f,g) c h).bind λd=>(grd (I0 d)).bind λ_=>(if(decide (d<0))=true then some (.inl (c,a))else(W7 b e f g fuel d (i64.wrap (a+1))))else some (.inr (c)))
def K01(c:B0)(g:Int)(a:J0):Option (Int×Int):=match c with|(d,e,f)=>(W7 a d e f U0 g 0).bind λb=>T9 b (λh=>some (h,((a.length:Nat):Int)))
def W3(b:B0):Option (B0):=match b with|(c,d,a)=>(grd ((([]:T0).length+a.length)*24<=140737488355328)).bind λ_=>some (c,d,(([]:T0)++a))
def L5(e:T0)(a:Int)(b:Int)(c:Int):Nat->Bool->Int->(List Q0)->Option (Bool×(List Q0))
 |0,_,_,_=>none
 |fuel+1,h,f,d=>(if(decide (f<((e.length:Nat):Int)))=true then(gi e f).bind λ(v,w,x)=>(F00 (a,b,c) (v,w,x)).bind λg=>(grd (I0 g)).bind λ_=>(if(decide (g=0))=true then(if(bif(decide (g<0))then(!true)else false)=true then(grd ((d.length+([(a,b,c)]).length)*24<=140737488355328)).bind λ_=>(gi e f).bind λ(i,j,k)=>(grd (((d ++ [(a,b,c)]).length+([(i,j,k)]).length)*24<=140737488355328)).bind λ_=>(L5 e a b c fuel true (i64.wrap (f+1)) ((d ++ [(a,b,c)]) ++ [(i,j,k)]))else(gi e f).bind λ(l,m,n)=>(grd ((d.length+([(l,m,n)]).length)*24<=140737488355328)).bind λ_=>(L5 e a b c fuel true (i64.wrap (f+1)) (d ++ [(l,m,n)])))else(if(bif(decide (g<0))then(!h)else false)=true then(grd ((d.length+([(a,b,c)]).length)*24<=140737488355328)).bind λ_=>(gi e f).bind λ(o,p,q)=>(grd (((d ++ [(a,b,c)]).length+([(o,p,q)]).length)*24<=140737488355328)).bind λ_=>(L5 e a b c fuel true (i64.wrap (f+1)) ((d ++ [(a,b,c)]) ++ [(o,p,q)]))else(gi e f).bind λ(s,t,u)=>(grd ((d.length+([(s,t,u)]).length)*24<=140737488355328)).bind λ_=>(L5 e a b c fuel h (i64.wrap (f+1)) (d ++ [(s,t,u)]))))else some (h,d))
def L8(e:T0)(f:Q0):Option (T0):=match f with|(a,b,c)=>(L5 e a b c U0 false 0 ([]:T0)).bind (λ(g,d)=>(if(!g)=true then(grd ((d.length+([(a,b,c)]).length)*24<=140737488355328)).bind λ_=>some (d ++ [(a,b,c)])else some d))
def I4(a:T0)(c:Int):Nat->Int->Int->Option (Int)
 |0,_,_=>none
 |fuel+1,d,b=>(if(decide (b<((a.length:Nat):Int)))=true then(gi a b).bind λ(f,j,k)=>(if(decide (f=c))=true then(gi a b).bind λ(l,m,g)=>(if(decide (g=c))=true then(I4 a c fuel (i64.wrap ((i64.wrap (d+1))+1)) (i64.wrap (b+1)))else(I4 a c fuel (i64.wrap (d+1)) (i64.wrap (b+1))))else(gi a b).bind λ(h,i,e)=>(if(decide (e=c))=true then(I4 a c fuel (i64.wrap (d+1)) (i64.wrap (b+1)))else(I4 a c fuel d (i64.wrap (b+1)))))else some (d))
def a03(a:B0)(c:Int):Option (Int):=match a with|(e,f,b)=>(I4 b c U0 0 0).bind (λd=>some d)
def n7(b:T0)(c:T0):Nat->Int->Option ((Bool) ⊕ (Unit))
 |0,_=>none
 |fuel+1,a=>(if(decide (a<((b.length:Nat):Int)))=true then(gi b a).bind λ(d,e,f)=>(gi c a).bind λ(g,h,i)=>(if(!eqE (d,e,f) (g,h,i))=true then some (.inl false)else(n7 b c fuel (i64.wrap (a+1))))else some (.inr ()))
def C7(d:B0)(g:B0):Option (Bool):=match d with|(e,f,a)=>match g with|(h,i,b)=>(if(bif(bif(!decide (e=h))then true else(!decide (f=i)))then true else(!decide (((a.length:Nat):Int)=((b.length:Nat):Int))))=true then some false else(n7 a b U0 0).bind λc=>T9 c (λ_=>some true))
def F4(a:T0):Nat->J0->Int->Option (J0)
 |0,_,_=>none
 |fuel+1,b,c=>(if(decide (c<((a.length:Nat):Int)))=true then(gi a c).bind λ(d,l,e)=>(h01 b d).bind λg=>(if g=true then(g01 b e).bind λf=>(h01 f e).bind λh=>(if h=true then(g01 f d).bind λi=>(F4 a fuel i (i64.wrap (c+1)))else(F4 a fuel f (i64.wrap (c+1))))else(h01 b e).bind λj=>(if j=true then(g01 b d).bind λk=>(F4 a fuel k (i64.wrap (c+1)))else(F4 a fuel b (i64.wrap (c+1)))))else some (b))
def o7(a:T0):Nat->J0->Int->Option (J0)
 |0,_,_=>none
 |fuel+1,b,c=>(if(decide (c<(i64.wrap (((a.length:Nat):Int)+1))))=true then(F4 a U0 b 0).bind (λd=>(o7 a fuel d (i64.wrap (c+1))))else some (b))
def F02(e:B0)(c:Int):Option (J0):=match e with|(f,a,b)=>(Y4 (f,a,b)).bind λd=>(chk (!(!d)) (i4 c 0 (i64.wrap (a-1))) false).bind λg=>(if(bif(!d)then true else(!g))=true then some ([]:J0)else(o7 b U0 [c] 0).bind (λh=>some h))
def M00(b:Int)(d:Int)(e:T0)(f:J0):Nat->Int->Option ((Int) ⊕ (Unit))
 |0,_=>none
 |fuel+1,a=>(if(decide (a<b))=true then(a03 (d,b,e) a).bind λc=>(grd (I0 c)).bind λ_=>(chk (!(decide (c<2))) (h01 f a) false).bind λg=>(if(bif(decide (c<2))then true else(!g))=true then some (.inl a)else(M00 b d e f fuel (i64.wrap (a+1))))else some (.inr ()))
def N04(e:B0):Option (Int):=match e with|(a,b,c)=>(F02 (a,b,c) 0).bind λf=>(M00 b a c f U0 1).bind λd=>T9 d (λ_=>some (-1))
def R4(b:T0)(a:(List Int)):Nat->Int->Int->Int->T0->Option (Int×Int×T0)
 |0,_,_,_,_=>none
 |fuel+1,c,d,e,f=>(if(decide (c<((b.length:Nat):Int)))=true then(gi b c).bind λ(g,j,h)=>(gi a g).bind λi=>(chk (decide (i>0)) (gi a h) 0).bind λk=>(if(bif(decide (i>0))then(decide (k>0))else false)=true then(gi a g).bind λl=>(gi a h).bind λm=>(L8 f ((i64.wrap (l-1)),j,(i64.wrap (m-1)))).bind λn=>(R4 b a fuel (i64.wrap (c+1)) d e n)else(R4 b a fuel (i64.wrap (c+1)) d e f))else some (d,e,f))
def M5(b:J0)(d:Int)(f:Int)(g:T0):Nat->Int->(List Int)->Option ((B0×Bool) ⊕ ((List Int)))
 |0,_,_=>none
 |fuel+1,a,c=>(if(decide (a<((b.length:Nat):Int)))=true then(gi b a).bind λi=>(i4 i 0 (i64.wrap (d-1))).bind λe=>(chk (!(!e)) (gi b a) 0).bind λj=>(chk (!(!e)) (gi c j) 0).bind λk=>(if(bif(!e)then true else(!decide (k=0)))=true then(W3 (f,d,g)).bind λ(l,m,n)=>some (.inl ((l,m,n),false))else(gi b a).bind λh=>(gi c h).bind λo=>(M5 b d f g fuel (i64.wrap (a+1)) (c.set h.toNat (i64.wrap (a+1)))))else some (.inr (c)))
def t8(f:B0)(d:J0):Option (B0×Bool):=match f with|(b,a,c)=>(Y4 (b,a,c)).bind λg=>(if(bif(bif(!g)then true else(decide (((d.length:Nat):Int)=0)))then true else(decide (((d.length:Nat):Int)>a)))=true then(W3 (b,a,c)).bind λ(h,i,j)=>some ((h,i,j),false)else(grd ((0:Int)<=a/\a<=a/\a*8<=140737488355328/\a<=9223372036854775807)).bind λ_=>(M5 d a b c U0 0 (List.replicate a.toNat (0:Int))).bind λe=>T9 e (λn=>(R4 c n U0 0 b ((d.length:Nat):Int) ([]:T0)).bind (λ(k,l,m)=>some ((k,l,m),true))))
def w8(c:Int):Nat->Int->(List Int)->Option ((List Int))
 |0,_,_=>none
 |fuel+1,a,b=>(if(decide (a<=c))=true then(grd ((b.length + [a].length)*8<=140737488355328)).bind λ_=>(grd (((b ++ [a]).length+([(i64.wrap (0-a))]).length)*8<=140737488355328)).bind λ_=>(w8 c fuel (i64.wrap (a+1)) ((b ++ [a]) ++ [(i64.wrap (0-a))]))else some (b))
def M8(a:Int):Option (J0):=(w8 a U0 1 ([]:J0)).bind (λb=>some b)
def J4(d:J0)(h:Int)(e:Int)(f:Int)(g:T0):Nat->Int->(List Int)->Option ((List Int))
 |0,_,_=>none
 |fuel+1,c,a=>(if(decide (c<((d.length:Nat):Int)))=true then(gi a h).bind λi=>(gi d c).bind λj=>(j4 (e,f,g) i j).bind λb=>(grd (I0 b)).bind λ_=>(chk (decide (b ≥ 0)) (h01 a b) false).bind λk=>(if(bif(decide (b ≥ 0))then(!k)else false)=true then(grd ((a.length + [b].length)*8<=140737488355328)).bind λ_=>(J4 d h e f g fuel (i64.wrap (c+1)) (a ++ [b]))else(J4 d h e f g fuel (i64.wrap (c+1)) a))else some (a))
def M6(g:J0)(d:Int)(e:Int)(f:T0):Nat->Int->(List Int)->Option ((List Int))
 |0,_,_=>none
 |fuel+1,a,b=>(some b.length).bind λc=>(grd (c<=9223372036854775807)).bind λ_=>(if(decide (a<((c:Nat):Int)))=true then(J4 g a d e f U0 0 b).bind (λh=>(M6 g d e f fuel (i64.wrap (a+1)) h))else some (b))
def T00(d:B0):Option (J0):=match d with|(a,b,c)=>(P4 (a,b,c)).bind λe=>(if(!e)=true then some ([]:J0)else(M8 a).bind λf=>(M6 f a b c U0 0 [0]).bind (λg=>some g))
def B9(e:B0):Option (B0):=match e with|(a,b,c)=>(T00 (a,b,c)).bind λd=>(if(decide (((d.length:Nat):Int)=0))=true then(W3 (a,b,c)).bind λ(f,g,h)=>some (f,g,h)else(t8 (a,b,c) d).bind λ(i,m)=>match i with|(j,k,l)=>some (j,k,l))
def t03(f:B0):Option (Bool):=match f with|(a,b,c)=>(P4 (a,b,c)).bind λd=>(chk d (N04 (a,b,c)) 0).bind λe=>(grd (I0 e)).bind λk=>(chk (bif d then(decide (e<0))else false) (B9 (a,b,c)) (0,0,[])).bind λ(g,h,i)=>(chk (bif d then(decide (e<0))else false) (C7 (g,h,i) (a,b,c)) false).bind λj=>some (bif(bif d then(decide (e<0))else false)then j else false)
def Z2(a:B0):Option (Bool):=match a with|(b,c,d)=>(t03 (b,c,d)).bind λe=>some e
def K4(b:B0):Option (B0):=match b with|(c,d,a)=>(grd ((([]:T0).length+a.length)*24<=140737488355328)).bind λ_=>some (c,d,(([]:T0)++a))
def T6(b:T0)(a:Int):Nat->Int->Int->Option (Int)
 |0,_,_=>none
 |fuel+1,d,c=>(if(decide (c<((b.length:Nat):Int)))=true then(gi b c).bind λ(f,g,e)=>(if(decide (f=a))=true then(if(decide (e=a))=true then(T6 b a fuel (i64.wrap ((i64.wrap (d+1))+1)) (i64.wrap (c+1)))else(T6 b a fuel (i64.wrap (d+1)) (i64.wrap (c+1))))else(if(decide (e=a))=true then(T6 b a fuel (i64.wrap (d+1)) (i64.wrap (c+1)))else(T6 b a fuel d (i64.wrap (c+1)))))else some (d))
def z04(a:B0)(c:Int):Option (Int):=match a with|(e,f,b)=>(T6 b c U0 0 0).bind (λd=>some d)
def I2(b:T0)(c:T0):Nat->Int->Option ((Bool) ⊕ (Unit))
 |0,_=>none
 |fuel+1,a=>(if(decide (a<((b.length:Nat):Int)))=true then(gi b a).bind λ(d,e,f)=>(gi c a).bind λ(g,h,i)=>(if(!eqE (d,e,f) (g,h,i))=true then some (.inl false)else(I2 b c fuel (i64.wrap (a+1))))else some (.inr ()))
def L4(a:T0)(b:T0):Option (Bool):=(if(!decide (((a.length:Nat):Int)=((b.length:Nat):Int)))=true then some false else(I2 a b U0 0).bind λc=>T9 c (λ_=>some true))
def D7(e:B0)(g:B0):Option (Bool):=match e with|(a,b,f)=>match g with|(c,d,h)=>(chk (bif(decide (a=c))then(decide (b=d))else false) (L4 f h) false).bind λi=>some (bif(bif(decide (a=c))then(decide (b=d))else false)then i else false)
def o5(b:T0):Nat->Bool->Int->(List Bool)->Option (Bool×(List Bool))
 |0,_,_,_=>none
 |fuel+1,f,c,a=>(if(decide (c<((b.length:Nat):Int)))=true then(gi b c).bind λ(d,i,e)=>(gi a d).bind λg=>(gi a e).bind λh=>(if(!(g == h))=true then(gi a d).bind λj=>(gi (a.set d.toNat true) e).bind λk=>(o5 b fuel true (i64.wrap (c+1)) ((a.set d.toNat true).set e.toNat true))else(o5 b fuel f (i64.wrap (c+1)) a))else some (f,a))
def B6(a:T0):Nat->Bool->(List Bool)->Option ((List Bool))
 |0,_,_=>none
 |fuel+1,c,b=>(if c=true then(o5 a U0 false 0 b).bind (λ(d,e)=>(B6 a fuel d e))else some (b))
def g02(c:B0)(b:Int):Option ((List Bool)):=match c with|(f,a,d)=>(grd ((0:Int)<=a/\a<=a/\a*1<=140737488355328/\a<=9223372036854775807)).bind λ_=>(gi (List.replicate a.toNat (false:Bool)) b).bind λg=>(B6 d U0 true ((List.replicate a.toNat (false:Bool)).set b.toNat true)).bind (λe=>some e)
def Z9(c:Int):Nat->Int->(List Int)->Option ((List Int))
 |0,_,_=>none
 |fuel+1,a,b=>(if(decide (a<=c))=true then(grd ((b.length+([a,(i64.wrap (0-a))]).length)*8<=140737488355328)).bind λ_=>(Z9 c fuel (i64.wrap (a+1)) (b ++ [a,(i64.wrap (0-a))]))else some (b))
def v01(a:Int):Option (J0):=(Z9 a U0 1 ([]:J0)).bind (λb=>some b)
def i01(a:T0):Option (T0):=(grd ((([]:T0).length+a.length)*24<=140737488355328)).bind λ_=>(grd ((([]:T0)++a).length<4611686018427387904)).bind λ_=>some (V07 eqE (B0b X0 (([]:T0)++a)))
def j01(b:T0)(a:(List Int)):Nat->Int->Int->Int->(List Q0)->Option (Int×Int×(List Q0))
 |0,_,_,_,_=>none
 |fuel+1,c,e,f,d=>(if(decide (c<((b.length:Nat):Int)))=true then(gi b c).bind λ(g,k,h)=>(gi a g).bind λi=>(chk (decide (i ≥ 0)) (gi a h) 0).bind λl=>(if(bif(decide (i ≥ 0))then(decide (l ≥ 0))else false)=true then(gi a g).bind λm=>(gi a h).bind λn=>(some [(m,k,n)]).bind λj=>(grd ((d.length+j.length)*24<=140737488355328)).bind λ_=>(j01 b a fuel (i64.wrap (c+1)) e f (d++j))else(j01 b a fuel (i64.wrap (c+1)) e f d))else some (e,f,d))
def p02(b:J0):Nat->Int->(List Int)->Option ((List Int))
 |0,_,_=>none
 |fuel+1,a,c=>(if(decide (a<((b.length:Nat):Int)))=true then(gi b a).bind λd=>(gi c d).bind λe=>(p02 b fuel (i64.wrap (a+1)) (c.set d.toNat a))else some (c))
def q02(c:Nat):Nat->Int->(List Int)->Option ((List Int))
 |0,_,_=>none
 |fuel+1,a,b=>(if(decide (a<((c:Nat):Int)))=true then(gi b a).bind λd=>(q02 c fuel (i64.wrap (a+1)) (b.set a.toNat (-1)))else some (b))
def Z04(d:B0)(c:J0):Option (B0):=match d with|(e,a,f)=>(grd ((0:Int)<=a/\a<=a/\a*8<=140737488355328/\a<=9223372036854775807)).bind λ_=>(some (List.replicate a.toNat (0:Int)).length).bind λb=>(grd (b<=9223372036854775807)).bind λ_=>(q02 b U0 0 (List.replicate a.toNat (0:Int))).bind (λh=>(p02 c U0 0 h).bind (λi=>(j01 f i U0 0 e ((c.length:Nat):Int) ([]:T0)).bind (λ(j,k,l)=>(i01 l).bind λg=>some (j,k,g))))
def K9(a:J0):Option (J0):=(grd ((([]:J0).length+a.length)*8<=140737488355328)).bind λ_=>some (([]:J0)++a)
def A4(f:J0)(g:Int)(h:Int)(i:T0)(e:Int):Nat->Int->(List (Option J0))->(List Int)->Option ((List (Option J0))×(List Int))
 |0,_,_,_=>none
 |fuel+1,c,b,d=>(if(decide (c<((f.length:Nat):Int)))=true then(gi f c).bind λj=>(W4 (g,h,i) e j).bind λa=>(grd (I0 a)).bind λ_=>(chk (decide (a ≥ 0)) (gi b a) (none:Option J0)).bind λl=>(if(bif(decide (a ≥ 0))then l.isNone else false)=true then(gi b e).bind λm=>(K9 (m.getD [])).bind λk=>(grd ((k.length + [j].length)*8<=140737488355328)).bind λ_=>(gi b a).bind λn=>(grd ((d.length + [a].length)*8<=140737488355328)).bind λ_=>(A4 f g h i e fuel (i64.wrap (c+1)) (b.set a.toNat (some (k ++ [j]))) (d ++ [a]))else(A4 f g h i e fuel (i64.wrap (c+1)) b d))else some (b,d))
def E6(b:Int)(d:Int)(e:T0):Nat->Int->(List (Option J0))->(List Int)->Option ((List (Option J0))×(List Int))
 |0,_,_,_=>none
 |fuel+1,u8,f,a=>(some a.length).bind λc=>(grd (c<=9223372036854775807)).bind λ_=>(if(decide (u8<((c:Nat):Int)))=true then(gi a u8).bind λg=>(v01 b).bind λh=>(A4 h b d e g U0 0 f a).bind (λ(i,j)=>(E6 b d e fuel (i64.wrap (u8+1)) i j))else some (f,a))
def o9(c:B0)(b:Int):Option (J0×K1):=match c with|(d,a,e)=>(grd ((0:Int)<=a/\a<=a/\a*24<=140737488355328/\a<=9223372036854775807)).bind λ_=>(gi (List.replicate a.toNat (none:Option J0)) b).bind λh=>(E6 d a e U0 0 ((List.replicate a.toNat (none:Option J0)).set b.toNat (some ([]:J0))) [b]).bind (λ(f,g)=>some (g,(List.map (λo:Option J0=>o.getD ([]:J0)) f)))
def U00(d:B0):Option (J0):=match d with|(a,b,c)=>(O7 (a,b,c)).bind λe=>(if(!e)=true then some ([]:J0)else(o9 (a,b,c) 0).bind λ(f,g)=>some f)
def C9(d:B0):Option (B0):=match d with|(a,b,c)=>(O7 (a,b,c)).bind λe=>(if(!e)=true then(K4 (a,b,c)).bind λ(i,j,k)=>some (i,j,k)else(U00 (a,b,c)).bind λl=>(Z04 (a,b,c) l).bind λ(f,g,h)=>some (f,g,h))
def E7(c:Int)(d:Int):Nat->Int->(List Int)->Option ((List Int))
 |0,_,_=>none
 |fuel+1,a,b=>(if(decide (a<c))=true then(if(!decide (a=d))=true then(grd ((b.length + [a].length)*8<=140737488355328)).bind λ_=>(E7 c d fuel (i64.wrap (a+1)) (b ++ [a]))else(E7 c d fuel (i64.wrap (a+1)) b))else some (b))
def j5(b:Int)(c:Int)(d:T0)(f:(List Bool)):Nat->Int->Int->Option (Int)
 |0,_,_=>none
 |fuel+1,e,a=>(if(bif(decide (a<b))then(decide (e=0))else false)=true then(z04 (c,b,d) a).bind λg=>(grd (I0 g)).bind λ_=>(chk (!(decide (g<2))) (gi f a) false).bind λh=>(if(bif(decide (g<2))then true else(!h))=true then(j5 b c d f fuel a (i64.wrap (a+1)))else(j5 b c d f fuel e (i64.wrap (a+1))))else some (e))
def F7:Nat->J0->Int->Int->T0->Option ((B0×J0) ⊕ (Int×Int×T0))
 |0,_,_,_,_=>none
 |fuel+1,b,c,a,d=>(g02 (c,a,d) 0).bind λk=>(j5 a c d k U0 0 1).bind (λe=>(if(decide (e=0))=true then some (.inl ((c,a,d),b))else(E7 a e U0 0 ([]:J0)).bind (λl=>(Z04 (c,a,d) l).bind λ(h,i,j)=>(U07 b 0 e).bind λf=>(U07 b (i64.wrap (e+1)) (b.length:Int)).bind λg=>(grd ((f.length+g.length)*8<=140737488355328)).bind λ_=>(F7 fuel (f++g) h i j))))
def z8(c:Int):Nat->Int->(List Int)->Option ((List Int))
 |0,_,_=>none
 |fuel+1,a,b=>(if(decide (a<c))=true then(grd ((b.length + [a].length)*8<=140737488355328)).bind λ_=>(z8 c fuel (i64.wrap (a+1)) (b ++ [a]))else some (b))
def a00(h:B0):Option (B0×J0):=match h with|(b,a,c)=>(K4 (b,a,c)).bind λ(d,e,f)=>(N7 (b,a,c)).bind λi=>(if(!i)=true then some ((d,e,f),([]:J0))else(z8 a U0 0 ([]:J0)).bind (λj=>(F7 U0 j d e f).bind λg=>T9 g (λ_=>none)))
def l6(e:B0):Option (Bool):=match e with|(b,a,c)=>(O7 (b,a,c)).bind λf=>(if(!f)=true then some false else(a00 (b,a,c)).bind λ(h,n)=>match h with|(l,d,m)=>(chk (decide (d=a)) (C9 (b,a,c)) (0,0,[])).bind λ(i,j,k)=>(chk (decide (d=a)) (D7 (i,j,k) (b,a,c)) false).bind λg=>some (bif(decide (d=a))then g else false))
def f06(a:Int):Option (B0×Bool):=(i4 a 1 3).bind λb=>(if(!b)=true then some ((0,0,[]),false)else some ((a,1,[]),true))
def O6(a:J0)(d:Int):Nat->Int->Int->Int->Int->T0->Option (Int×Int×T0)
 |0,_,_,_,_,_=>none
 |fuel+1,g,b,e,c,f=>(if(decide (b<((a.length:Nat):Int)))=true then(if(decide ((i64.wrap (b+1))<((a.length:Nat):Int)))=true then(gi a b).bind λh=>(if(decide (h>0))=true then(gi a b).bind λi=>(L8 f (g,i,c)).bind λj=>(O6 a d fuel c (i64.wrap (b+1)) e (i64.wrap (c+1)) j)else(gi a b).bind λk=>(L8 f (c,(i64.wrap (0-k)),g)).bind λl=>(O6 a d fuel c (i64.wrap (b+1)) e (i64.wrap (c+1)) l))else(gi a b).bind λm=>(if(decide (m>0))=true then(gi a b).bind λn=>(L8 f (g,n,d)).bind λo=>(O6 a d fuel d (i64.wrap (b+1)) e c o)else(gi a b).bind λp=>(L8 f (d,(i64.wrap (0-p)),g)).bind λq=>(O6 a d fuel d (i64.wrap (b+1)) e c q)))else some (e,c,f))
def I02(m:B0)(g:Int)(b:J0)(h:Int):Option (B0×Bool):=match m with|(d,a,e)=>(W3 (d,a,e)).bind λ(i,j,k)=>(Y4 (d,a,e)).bind λc=>(chk (!(!c)) (i4 g 0 (i64.wrap (a-1))) false).bind λf=>(chk (!(bif(!c)then true else(!f))) (i4 h 0 (i64.wrap (a-1))) false).bind λl=>(chk (!(bif(bif(!c)then true else(!f))then true else(!l))) (I8 d b) false).bind λn=>(if(bif(bif(bif(bif(bif(bif(!c)then true else(!f))then true else(!l))then true else(!n))then true else(decide (((b.length:Nat):Int)=0)))then true else(decide ((i64.wrap ((i64.wrap (a+((b.length:Nat):Int)))-1))>40)))then true else(decide ((i64.wrap (((e.length:Nat):Int)+((b.length:Nat):Int)))>120)))=true then some ((i,j,k),false)else(O6 b h U0 g 0 i j k).bind (λ(o,p,q)=>some ((o,p,q),true)))
def b03(a:B0)(e:J0):Option (B0×Bool):=match a with|(b,c,d)=>(I02 (b,c,d) 0 e 0).bind λ(f,j)=>match f with|(g,h,i)=>some ((g,h,i),j)
def p9(a:K1):Nat->Int->Int->Int->T0->Option (Int×Int×T0)
 |0,_,_,_,_=>none
 |fuel+1,b,u8,d,c=>(if(decide (b<((a.length:Nat):Int)))=true then(gi a b).bind λe=>(b03 (u8,d,c) e).bind λ(f,j)=>match f with|(g,h,i)=>(p9 a fuel (i64.wrap (b+1)) g h i)else some (u8,d,c))
def A04(a:Int)(b:K1):Option (B0×Bool):=(V01 a b).bind λc=>(if(!c)=true then some ((0,0,[]),false)else(f06 a).bind λ(d,k)=>match d with|(e,f,g)=>(p9 b U0 0 e f g).bind (λ(h,i,j)=>some ((h,i,j),true)))
def H5(f:T0)(g:Int):Nat->Int->(List K6)->Option ((List K6))
 |0,_,_=>none
 |fuel+1,u8,e=>(if(decide (u8<((f.length:Nat):Int)))=true then(gi f g).bind λ(c,h,a)=>(gi f u8).bind λ(d,i,b)=>(if(bif(decide (h=i))then(decide (c=d))else false)=true then(grd ((e.length+([((if b<a then b else a),(if b>a then b else a))]).length)*16<=140737488355328)).bind λ_=>(if(bif(decide (h=i))then(decide (a=b))else false)=true then(grd (((e ++ [((if b<a then b else a),(if b>a then b else a))]).length+([((if d<c then d else c),(if d>c then d else c))]).length)*16<=140737488355328)).bind λ_=>(H5 f g fuel (i64.wrap (u8+1)) ((e ++ [((if b<a then b else a),(if b>a then b else a))]) ++ [((if d<c then d else c),(if d>c then d else c))]))else(H5 f g fuel (i64.wrap (u8+1)) (e ++ [((if b<a then b else a),(if b>a then b else a))])))else(if(bif(decide (h=i))then(decide (a=b))else false)=true then(grd ((e.length+([((if d<c then d else c),(if d>c then d else c))]).length)*16<=140737488355328)).bind λ_=>(H5 f g fuel (i64.wrap (u8+1)) (e ++ [((if d<c then d else c),(if d>c then d else c))]))else(H5 f g fuel (i64.wrap (u8+1)) e)))else some (e))
def b00(b:T0):Nat->Int->(List K6)->Option ((List K6))
 |0,_,_=>none
 |fuel+1,a,c=>(if(decide (a<((b.length:Nat):Int)))=true then(H5 b a U0 (i64.wrap (a+1)) c).bind (λd=>(b00 b fuel (i64.wrap (a+1)) d))else some (c))
def b05(a:B0):Option (n02):=match a with|(d,e,b)=>(b00 b U0 0 ([]:n02)).bind (λc=>some c)
def v02(e:B0):Option (K6×Bool):=match e with|(a,b,c)=>(Y4 (a,b,c)).bind λf=>(if(!f)=true then some ((0,0),false)else(b05 (a,b,c)).bind λd=>(if(decide (((d.length:Nat):Int)=0))=true then some ((0,0),false)else(gi d 0).bind λ(g,h)=>some ((g,h),true)))
def A05(a:Int)(d:K6):Option (Int):=match d with|(b,c)=>(if(decide (a=c))=true then(if(decide (b>c))=true then some (i64.wrap (b-1))else some b)else(if(decide (a>c))=true then some (i64.wrap (a-1))else some a))
def N5(a:T0)(b:Int)(c:Int):Nat->Int->Int->Int->T0->Option (Int×Int×T0)
 |0,_,_,_,_=>none
 |fuel+1,d,u8,f,e=>(if(decide (d<((a.length:Nat):Int)))=true then(gi a d).bind λ(i,j,k)=>(A05 i (b,c)).bind λg=>(grd (I0 g)).bind λm=>(A05 k (b,c)).bind λh=>(grd (I0 h)).bind λn=>(L8 e (g,j,h)).bind λl=>(N5 a b c fuel (i64.wrap (d+1)) u8 f l)else some (u8,f,e))
def c00(f:B0)(g:K6):Option (B0×Bool):=match f with|(b,a,c)=>match g with|(d,e)=>(Y4 (b,a,c)).bind λh=>(if(bif(bif(bif(!h)then true else(decide (d<0)))then true else(decide (d ≥ e)))then true else(decide (e ≥ a)))=true then(W3 (b,a,c)).bind λ(i,j,k)=>some ((i,j,k),false)else(N5 c d e U0 0 b (i64.wrap (a-1)) ([]:T0)).bind (λ(l,m,n)=>some ((l,m,n),true)))
def B04(f:B0):Option (B0×K6×Bool):=match f with|(a,b,c)=>(v02 (a,b,c)).bind λ(g,h)=>match g with|(d,e)=>(if(!h)=true then(W3 (a,b,c)).bind λ(i,j,k)=>some ((i,j,k),(0,0),false)else(c00 (a,b,c) (d,e)).bind λ(l,p)=>match l with|(m,n,o)=>some ((m,n,o),(d,e),true))
def O8:Nat->Int->Int->Int->T0->(List K6)->Option ((B0×n02) ⊕ (Int×Int×T0×(List K6)))
 |0,_,_,_,_,_=>none
 |fuel+1,d,b,c,u8,a=>(if(decide (d<40))=true then(B04 (b,c,u8)).bind λ(g,k,l)=>match g with|(h,i,j)=>match k with|(e,f)=>(if(!l)=true then some (.inl ((b,c,u8),a))else(grd ((a.length+([(e,f)]).length)*16<=140737488355328)).bind λ_=>(O8 fuel (i64.wrap (d+1)) h i j (a ++ [(e,f)])))else some (.inr (b,c,u8,a)))
def c05(b:B0):Option (B0×n02):=match b with|(c,d,e)=>(W3 (c,d,e)).bind λ(f,g,h)=>(O8 U0 0 f g h ([]:n02)).bind λa=>T9 a (λ(i,j,k,l)=>some ((i,j,k),l))
def w02(f:B0):Option (B0×Bool):=match f with|(b,a,c)=>(W3 (b,a,c)).bind λ(d,g,e)=>(Y4 (b,a,c)).bind λh=>(if(bif(!h)then true else(decide (a ≥ 40)))=true then some ((d,g,e),false)else some ((d,(i64.wrap (a+1)),e),true))
def M4(c:J0)(e:Int)(f:Int)(g:T0)(b:Int):Nat->Int->(List Q0)->Option ((List Q0))
 |0,_,_=>none
 |fuel+1,a,d=>(if(decide (a<((c.length:Nat):Int)))=true then(gi c a).bind λj=>(j4 (e,f,g) b j).bind λh=>(grd (I0 h)).bind λ_=>(if(decide (h<0))=true then(gi c a).bind λi=>(grd ((d.length+([(b,i,(-1))]).length)*24<=140737488355328)).bind λ_=>(M4 c e f g b fuel (i64.wrap (a+1)) (d ++ [(b,i,(-1))]))else(M4 c e f g b fuel (i64.wrap (a+1)) d))else some (d))
def C6(a:Int)(b:Int)(d:T0):Nat->Int->(List Q0)->Option ((List Q0))
 |0,_,_=>none
 |fuel+1,c,e=>(chk (decide (c<a)) (P4 (b,a,d)) false).bind λf=>(if(bif(decide (c<a))then f else false)=true then(M8 b).bind λg=>(M4 g b a d c U0 0 e).bind (λh=>(C6 a b d fuel (i64.wrap (c+1)) h))else some (e))
def G00(a:B0):Option (T0):=match a with|(b,c,d)=>(C6 c b d U0 0 ([]:T0)).bind (λe=>some e)
def i04(b:Int)(a:Int)(c:Int):Option (Q0):=(if(decide (a<0))=true then some (c,(i64.wrap (0-a)),b)else some (b,a,c))
def U1(b:T0)(c:Int)(d:Int)(e:Int):Nat->Int->Option ((Int) ⊕ (Unit))
 |0,_=>none
 |fuel+1,a=>(if(decide (a<((b.length:Nat):Int)))=true then(gi b a).bind λ(f,g,h)=>(if(eqE (c,d,e) (f,g,h))=true then some (.inl a)else(U1 b c d e fuel (i64.wrap (a+1))))else some (.inr ()))
def T2(b:T0)(c:Q0):Option (Int):=match c with|(d,e,f)=>(U1 b d e f U0 0).bind λa=>T9 a (λ_=>some (-1))
def Z3(b:T0)(c:Q0):Option (Bool):=match c with|(d,e,f)=>(T2 b (d,e,f)).bind λa=>(grd (I0 a)).bind λ_=>some (decide (a ≥ 0))
def P8(a:Int)(c:K6):Option (Int):=match c with|(d,b)=>(if(decide (a=b))=true then some d else(if(decide (a>b))=true then some (i64.wrap (a-1))else some a))
def Q8(a:J0)(e:Int):Nat->Int->Int->Int->Int->T0->Option (Int×Int×T0)
 |0,_,_,_,_,_=>none
 |fuel+1,g,b,f,c,d=>(if(decide (b<((a.length:Nat):Int)))=true then(gi a b).bind λh=>(if(decide (b<(i64.wrap (((a.length:Nat):Int)-1))))=true then(i04 g h c).bind λ(k,l,m)=>(some [(k,l,m)]).bind λi=>(grd ((d.length+i.length)*24<=140737488355328)).bind λ_=>(Q8 a e fuel c (i64.wrap (b+1)) f (i64.wrap (c+1)) (d++i))else(i04 g h e).bind λ(n,o,p)=>(some [(n,o,p)]).bind λj=>(grd ((d.length+j.length)*24<=140737488355328)).bind λ_=>(Q8 a e fuel e (i64.wrap (b+1)) f c (d++j)))else some (f,c,d))
def P03(m:B0)(g:Int)(a:J0)(h:Int):Option (B0×Bool):=match m with|(b,c,d)=>(K4 (b,c,d)).bind λ(i,j,k)=>(N7 (b,c,d)).bind λe=>(chk (!(!e)) (G5 (b,c,d) g) false).bind λf=>(chk (!(bif(!e)then true else(!f))) (G5 (b,c,d) h) false).bind λl=>(chk (!(bif(bif(bif(!e)then true else(!f))then true else(!l))then true else(decide (((a.length:Nat):Int)=0)))) (J8 b a) false).bind λo=>(if(bif(bif(bif(bif(bif(bif(!e)then true else(!f))then true else(!l))then true else(decide (((a.length:Nat):Int)=0)))then true else(!o))then true else(decide ((i64.wrap ((i64.wrap (c+((a.length:Nat):Int)))-1))>40)))then true else(decide ((i64.wrap (((d.length:Nat):Int)+((a.length:Nat):Int)))>120)))=true then some ((i,j,k),false)else(Q8 a h U0 g 0 i j k).bind (λ(p,q,s)=>(i01 s).bind λn=>some ((p,q,n),true)))
def g06(a:Int):Option (B0×Bool):=(A5 a 1 3).bind λb=>(if(!b)=true then some ((0,0,[]),false)else some ((a,1,[]),true))
def c03(a:B0)(e:J0):Option (B0×Bool):=match a with|(b,c,d)=>(P03 (b,c,d) 0 e 0).bind λ(f,j)=>match f with|(g,h,i)=>some ((g,h,i),j)
def l8(a:K1):Nat->Int->Int->Int->T0->Option (Int×Int×T0)
 |0,_,_,_,_=>none
 |fuel+1,u8,d,b,c=>(if(decide (u8<((a.length:Nat):Int)))=true then(gi a u8).bind λe=>(if(decide (((e.length:Nat):Int)>0))=true then(c03 (d,b,c) e).bind λ(f,j)=>match f with|(g,h,i)=>(l8 a fuel (i64.wrap (u8+1)) g h i)else(l8 a fuel (i64.wrap (u8+1)) d b c))else some (d,b,c))
def C04(a:Int)(b:K1):Option (B0×Bool):=(W01 a b).bind λc=>(if(!c)=true then some ((0,0,[]),false)else(g06 a).bind λ(d,k)=>match d with|(e,f,g)=>(l8 b U0 0 e f g).bind (λ(h,i,j)=>some ((h,i,j),true)))
def P6(g:T0)(h:Int)(b:Int)(a:Int):Nat->Int->(List K6)->Option ((List K6))
 |0,_,_=>none
 |fuel+1,f,e=>(if(decide (f<((g.length:Nat):Int)))=true then(gi g f).bind λ(d,i,c)=>(if(!decide (h=i))=true then(P6 g h b a fuel (i64.wrap (f+1)) e)else(if(decide (b=d))=true then(grd ((e.length+([((if c<a then c else a),(if c>a then c else a))]).length)*16<=140737488355328)).bind λ_=>(if(decide (a=c))=true then(grd (((e ++ [((if c<a then c else a),(if c>a then c else a))]).length+([((if d<b then d else b),(if d>b then d else b))]).length)*16<=140737488355328)).bind λ_=>(P6 g h b a fuel (i64.wrap (f+1)) ((e ++ [((if c<a then c else a),(if c>a then c else a))]) ++ [((if d<b then d else b),(if d>b then d else b))]))else(P6 g h b a fuel (i64.wrap (f+1)) (e ++ [((if c<a then c else a),(if c>a then c else a))])))else(if(decide (a=c))=true then(grd ((e.length+([((if d<b then d else b),(if d>b then d else b))]).length)*16<=140737488355328)).bind λ_=>(P6 g h b a fuel (i64.wrap (f+1)) (e ++ [((if d<b then d else b),(if d>b then d else b))]))else(P6 g h b a fuel (i64.wrap (f+1)) e))))else some (e))
def x01(a:T0):Nat->Int->(List K6)->Option ((List K6))
 |0,_,_=>none
 |fuel+1,b,c=>(if(decide (b<((a.length:Nat):Int)))=true then(gi a b).bind λ(d,e,f)=>(U07 a (i64.wrap (b+1)) (a.length:Int)).bind λg=>(P6 g e d f U0 0 c).bind (λh=>(x01 a fuel (i64.wrap (b+1)) h))else some (c))
def S06(a:B0):Option (n02):=match a with|(d,e,b)=>(x01 b U0 0 ([]:n02)).bind (λc=>some c)
def x02(e:B0):Option (K6×Bool):=match e with|(a,b,c)=>(N7 (a,b,c)).bind λf=>(if(!f)=true then some ((0,0),false)else(S06 (a,b,c)).bind λd=>(if(decide (((d.length:Nat):Int)=0))=true then some ((0,0),false)else(gi d 0).bind λ(g,h)=>some ((g,h),true)))
def O5(f:T0)(c:Int)(d:Int):Nat->Int->T0->Option (T0)
 |0,_,_=>none
 |fuel+1,a,b=>(if(decide (a<((f.length:Nat):Int)))=true then(gi b a).bind λ(h,i,j)=>(P8 h (c,d)).bind λe=>(grd (I0 e)).bind λk=>(P8 j (c,d)).bind λg=>(grd (I0 g)).bind λl=>(gi b a).bind λ(m,n,o)=>(O5 f c d fuel (i64.wrap (a+1)) (b.set a.toNat (e,i,g)))else some (b))
def d00(i:B0)(j:K6):Option (B0×Bool):=match i with|(e,a,f)=>match j with|(b,c)=>(K4 (e,a,f)).bind λ(g,h,d)=>(N7 (e,a,f)).bind λl=>(if(bif(bif(bif(!l)then true else(decide (b<0)))then true else(decide (b ≥ c)))then true else(decide (c ≥ a)))=true then some ((g,h,d),false)else(O5 d b c U0 0 d).bind (λm=>(i01 m).bind λk=>some ((g,(i64.wrap (h-1)),k),true)))
def D04(f:B0):Option (B0×K6×Bool):=match f with|(a,b,c)=>(x02 (a,b,c)).bind λ(g,h)=>match g with|(d,e)=>(if(!h)=true then(K4 (a,b,c)).bind λ(i,j,k)=>some ((i,j,k),(0,0),false)else(d00 (a,b,c) (d,e)).bind λ(l,p)=>match l with|(m,n,o)=>some ((m,n,o),(d,e),true))
def e00:Nat->Int->Int->T0->(List K6)->Option ((B0×n02) ⊕ (Int×Int×T0×(List K6)))
 |0,_,_,_,_=>none
 |fuel+1,b,c,u8,a=>(D04 (b,c,u8)).bind λ(f,j,k)=>match f with|(g,h,i)=>match j with|(d,e)=>(if(!k)=true then some (.inl ((b,c,u8),a))else(grd ((a.length+([(d,e)]).length)*16<=140737488355328)).bind λ_=>(e00 fuel g h i (a ++ [(d,e)])))
def d05(b:B0):Option (B0×n02):=match b with|(c,d,e)=>(K4 (c,d,e)).bind λ(f,g,h)=>(e00 U0 f g h ([]:n02)).bind λa=>T9 a (λ_=>none)
def Q03(g:B0):Option (B0×Bool):=match g with|(b,a,c)=>(K4 (b,a,c)).bind λ(d,e,f)=>(N7 (b,a,c)).bind λh=>(if(bif(!h)then true else(decide (a=40)))=true then some ((d,e,f),false)else some ((d,(i64.wrap (e+1)),f),true))
def N4(c:J0)(d:Int)(e:Int)(f:T0)(u8:Int):Nat->Int->(List Q0)->Option ((List Q0))
 |0,_,_=>none
 |fuel+1,a,b=>(if(decide (a<((c.length:Nat):Int)))=true then(gi c a).bind λg=>(W4 (d,e,f) u8 g).bind λh=>(grd (I0 h)).bind λ_=>(if(decide (h<0))=true then(grd ((b.length+([(u8,g,(-1))]).length)*24<=140737488355328)).bind λ_=>(N4 c d e f u8 fuel (i64.wrap (a+1)) (b ++ [(u8,g,(-1))]))else(N4 c d e f u8 fuel (i64.wrap (a+1)) b))else some (b))
def D6(b:Int)(a:Int)(c:T0):Nat->Int->(List Q0)->Option ((List Q0))
 |0,_,_=>none
 |fuel+1,u8,d=>(if(decide (u8<b))=true then(v01 a).bind λe=>(N4 e a b c u8 U0 0 d).bind (λf=>(D6 b a c fuel (i64.wrap (u8+1)) f))else some (d))
def H00(d:B0):Option (T0):=match d with|(a,b,c)=>(O7 (a,b,c)).bind λe=>(if(!e)=true then some ([]:T0)else(D6 b a c U0 0 ([]:T0)).bind (λf=>some f))
def G7(e:Int)(f:Int)(d:J0):Nat->Int->(List Int)->(List Int)->Option ((List Int)×(List Int))
 |0,_,_,_=>none
 |fuel+1,a,b,c=>(if(decide (a<e))=true then(if(!decide (a=f))=true then(grd ((b.length + [a].length)*8<=140737488355328)).bind λ_=>(gi d a).bind λg=>(grd ((c.length + [g].length)*8<=140737488355328)).bind λ_=>(G7 e f d fuel (i64.wrap (a+1)) (b ++ [a]) (c ++ [g]))else(G7 e f d fuel (i64.wrap (a+1)) b c))else some (b,c))
def A8(g:Int)(h:Int)(i:T0):Nat->J0->Int->Int->Int->T0->Option ((B0×J0) ⊕ (J0×Int×Int×T0))
 |0,_,_,_,_,_=>none
 |fuel+1,d,e,b,a,c=>(chk (decide (e<40)) (Y4 (g,h,i)) false).bind λj=>(if(bif(decide (e<40))then j else false)=true then(N04 (b,a,c)).bind λf=>(grd (I0 f)).bind λ_=>(if(decide (f<0))=true then some (.inl ((b,a,c),d))else(G7 a f d U0 0 ([]:J0) ([]:J0)).bind (λ(o,p)=>(t8 (b,a,c) o).bind λ(k,q)=>match k with|(l,m,n)=>(A8 g h i fuel p (i64.wrap (e+1)) l m n)))else some (.inr (d,b,a,c)))
def B8(b:Int)(d:Int)(e:T0):Nat->Int->(List Int)->Option ((List Int))
 |0,_,_=>none
 |fuel+1,a,c=>(chk (decide (a<b)) (Y4 (d,b,e)) false).bind λf=>(if(bif(decide (a<b))then f else false)=true then(grd ((c.length + [a].length)*8<=140737488355328)).bind λ_=>(B8 b d e fuel (i64.wrap (a+1)) (c ++ [a]))else some (c))
def R03(e:B0):Option (B0×J0):=match e with|(a,b,c)=>(W3 (a,b,c)).bind λ(f,g,h)=>(B8 b a c U0 0 ([]:J0)).bind (λm=>(A8 a b c U0 m 0 f g h).bind λd=>T9 d (λ(i,j,k,l)=>some ((j,k,l),i)))
def R7(a:B0):Option (B0):=match a with|(b,c,d)=>(c05 (b,c,d)).bind λ(e,p)=>match e with|(f,g,h)=>(R03 (f,g,h)).bind λ(i,q)=>match i with|(j,k,l)=>(B9 (j,k,l)).bind λ(m,n,o)=>some (m,n,o)
def S7(a:B0):Option (B0):=match a with|(b,c,d)=>(d05 (b,c,d)).bind λ(e,p)=>match e with|(f,g,h)=>(a00 (f,g,h)).bind λ(i,q)=>match i with|(j,k,l)=>(C9 (j,k,l)).bind λ(m,n,o)=>some (m,n,o)
def J6(e:B0)(f:J0):Option (Bool):=match e with|(a,b,c)=>(L3 f).bind λg=>(X01 (a,b,c) 0 g).bind λ(d,i)=>(grd (I0 d)).bind λj=>(Z2 (a,b,c)).bind λh=>some (bif(bif h then i else false)then(decide (d=0))else false)
def H7(d:B0)(a:J0):Option (Bool):=match d with|(e,f,g)=>(K01 (e,f,g) 0 a).bind λ(b,c)=>(grd (I0 b)).bind λ_=>(grd (I0 c)).bind λ_=>some (bif(decide (c=((a.length:Nat):Int)))then(decide (b=0))else false)
def C8(a:J0):Option (J0):=(u00 [a]).bind λb=>some b
def D8(d:J0)(n:K1)(e:Int)(f:Int)(g:T0):Nat->Int->(List Q0)->Option ((List Q0))
 |0,_,_=>none
 |fuel+1,a,b=>(if(decide (a<((d.length:Nat):Int)))=true then(gi d a).bind λc=>(gi n c).bind λh=>(gi h (i64.wrap (((h.length:Nat):Int)-1))).bind λi=>(W4 (e,f,g) c (i64.wrap (0-i))).bind λj=>(grd (I0 j)).bind λ_=>(i04 j i c).bind λ(k,l,m)=>(grd ((b.length+([(k,l,m)]).length)*24<=140737488355328)).bind λ_=>(D8 d n e f g fuel (i64.wrap (a+1)) (b ++ [(k,l,m)]))else some (b))
def T03(e:B0):Option (T0):=match e with|(a,b,c)=>(o9 (a,b,c) 0).bind λ(d,f)=>(U07 d 1 (d.length:Int)).bind λh=>(D8 h f a b c U0 0 ([]:T0)).bind (λi=>(i01 i).bind λg=>some g)
def F6(a:T0)(g:T0):Nat->Int->(List Q0)->Option ((List Q0))
 |0,_,_=>none
 |fuel+1,b,c=>(if(decide (b<((a.length:Nat):Int)))=true then(gi a b).bind λ(d,e,f)=>(Z3 g (d,e,f)).bind λh=>(if(!h)=true then(grd ((c.length+([(d,e,f)]).length)*24<=140737488355328)).bind λ_=>(F6 a g fuel (i64.wrap (b+1)) (c ++ [(d,e,f)]))else(F6 a g fuel (i64.wrap (b+1)) c))else some (c))
def M01(d:B0):Option (T0):=match d with|(b,c,a)=>(O7 (b,c,a)).bind λe=>(if(!e)=true then some ([]:T0)else(T03 (b,c,a)).bind λf=>(F6 a f U0 0 ([]:T0)).bind (λg=>some g))
def g00(c:T0)(d:K1):Nat->Int->(List J0)->Option ((List J0))
 |0,_,_=>none
 |fuel+1,a,b=>(if(decide (a<((c.length:Nat):Int)))=true then(gi c a).bind λ(f,g,h)=>(gi d f).bind λi=>(some [g]).bind λj=>(gi d h).bind λk=>(t00 k).bind λl=>(some [i,j,l]).bind λm=>(u00 m).bind λn=>(some [n]).bind λe=>(grd ((b.length+e.length)*24<=140737488355328)).bind λ_=>(g00 c d fuel (i64.wrap (a+1)) (b++e))else some (b))
def h05(d:B0):Option (K1):=match d with|(a,b,c)=>(l6 (a,b,c)).bind λe=>(if(!e)=true then some ([]:K1)else(o9 (a,b,c) 0).bind λ(i,g)=>(M01 (a,b,c)).bind λf=>(g00 f g U0 0 ([]:K1)).bind (λh=>some h))
def p7(a:K1)(c:Int)(d:Int)(e:T0):Nat->Int->Option ((Bool) ⊕ (Unit))
 |0,_=>none
 |fuel+1,b=>(if(decide (b<((a.length:Nat):Int)))=true then(gi a b).bind λg=>(C8 g).bind λh=>(H7 (c,d,e) h).bind λf=>(if(!f)=true then some (.inl false)else(p7 a c d e fuel (i64.wrap (b+1))))else some (.inr ()))
def a01(e:B0)(f:K1):Option (Bool):=match e with|(a,b,c)=>(l6 (a,b,c)).bind λg=>(if(!g)=true then some false else(p7 f a b c U0 0).bind λd=>T9 d (λ_=>some true))
def y01(f:B0):Option (Bool):=match f with|(a,b,c)=>(Z2 (a,b,c)).bind λd=>(chk d (G00 (a,b,c)) []).bind λe=>(grd (e.length<=9223372036854775807)).bind λg=>some (bif d then(decide (((e.length:Nat):Int)=0))else false)
def P5(c:Int)(d:Int):Nat->Int->(List Int)->Option ((List Int))
 |0,_,_=>none
 |fuel+1,a,b=>(if(decide (a<c))=true then(if(!decide (a=d))=true then(grd ((b.length + [a].length)*8<=140737488355328)).bind λ_=>(P5 c d fuel (i64.wrap (a+1)) (b ++ [a]))else(P5 c d fuel (i64.wrap (a+1)) b))else some (b))
def M9(f:B0)(d:Int):Option (B0×Bool):=match f with|(b,a,c)=>(P4 (b,a,c)).bind λe=>(chk (!(!e)) (i4 d 0 (i64.wrap (a-1))) false).bind λg=>(if(bif(!e)then true else(!g))=true then(W3 (b,a,c)).bind λ(o,p,q)=>some ((o,p,q),false)else(P5 a d U0 0 [d]).bind (λs=>(t8 (b,a,c) s).bind λ(h,t)=>match h with|(i,j,k)=>(R7 (i,j,k)).bind λ(l,m,n)=>some ((l,m,n),true)))
end Go.Proofs.YthkpbcnhdhfifaaGreat
