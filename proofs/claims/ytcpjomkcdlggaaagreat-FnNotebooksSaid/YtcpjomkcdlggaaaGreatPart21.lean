/- Texts of the claim, joined: What functions of the program compute, in plain words: batch and others. -/
import Derived.Test.YtcpjomkcdlggaaaGreatPart20
import Derived.Test.YtcpjomkcdlggaaaGreatH36
import Derived.Test.YtcpjomkcdlggaaaGreatH35
namespace Go.Proofs.YtcpjomkcdlggaaaGreat
set_option linter.all false
open Go.H
open IntKind (i64)
set_option maxRecDepth 10000
def O3(a:Int)(b:Int)(c:Int):Option (Bool):=some (bif(decide (a ≥ b))then(decide (a<=c))else false)
def y00(b:H0)(d:Int):Nat->Int->Option ((Bool) ⊕ (Unit))
 |0,_=>none
 |fuel+1,a=>(if(decide (a<((b.length:Nat):Int)))=true then(gi b a).bind λc=>(chk (!(decide (c=0))) (gi b a) 0).bind λg=>(chk (!(decide (c=0))) (O3 g (i64.wrap (0-d)) d) false).bind λe=>(chk ((decide (a>0))&&(!(bif(decide (c=0))then true else(!e)))) (gi b a) 0).bind λh=>(chk ((decide (a>0))&&(!(bif(decide (c=0))then true else(!e)))) (gi b (i64.wrap (a-1))) 0).bind λf=>(if(bif(bif(decide (c=0))then true else(!e))then true else(bif(decide (a>0))then(decide (h=(i64.wrap (0-f))))else false))=true then some (.inl false)else(y00 b d fuel (i64.wrap (a+1))))else some (.inr ()))
def w8(a:Int)(b:H0):Option (Bool):=(y00 b a P0 0).bind λc=>z9 c (λ_=>(O3 a 1 3).bind λd=>some (bif d then(decide (((b.length:Nat):Int)<=24))else false))
def T4(a:O1):Nat->Int->Int->Option (Int)
 |0,_,_=>none
 |fuel+1,c,b=>(if(decide (b<((a.length:Nat):Int)))=true then(gi a b).bind λd=>(T4 a fuel (i64.wrap (c+((d.length:Nat):Int))) (i64.wrap (b+1)))else some (c))
def O00(a:O1):Option (Int):=(T4 a P0 0 0).bind (λb=>some b)
def U8(a:O1)(c:Int):Nat->Int->Option ((Bool) ⊕ (Unit))
 |0,_=>none
 |fuel+1,b=>(if(decide (b<((a.length:Nat):Int)))=true then(gi a b).bind λd=>(w8 c d).bind λe=>(if(!e)=true then some (.inl false)else(U8 a c fuel (i64.wrap (b+1))))else some (.inr ()))
def K01(b:Int)(a:O1):Option (Bool):=(U8 a b P0 0).bind λe=>z9 e (λ_=>(O3 b 1 3).bind λc=>(chk (bif c then(decide (((a.length:Nat):Int)<=6))else false) (O00 a) 0).bind λd=>(grd (F0 d)).bind λ_=>some (bif(bif c then(decide (((a.length:Nat):Int)<=6))else false)then(decide (d<40))else false))
def K4(a:Int)(b:Int)(c:Int):Option (Bool):=some (bif(decide (a ≥ b))then(decide (a<=c))else false)
def c04(b:Int)(a:Int):Option (Bool):=(chk (!decide (a=0)) (K4 a (i64.wrap (0-b)) b) false).bind λc=>some (bif(!decide (a=0))then c else false)
def C01(a:Int)(b:Int):Option (Bool):=some (bif(bif(!decide (a=0))then(!decide (a=(-9223372036854775808)))else false)then(decide (b=(i64.wrap (0-a))))else false)
def z00(b:H0)(d:Int):Nat->Int->Option ((Bool) ⊕ (Unit))
 |0,_=>none
 |fuel+1,a=>(if(decide (a<((b.length:Nat):Int)))=true then(gi b a).bind λe=>(c04 d e).bind λc=>(chk ((decide (a>0))&&(!(!c))) (gi b (i64.wrap (a-1))) 0).bind λf=>(chk ((decide (a>0))&&(!(!c))) (C01 f e) false).bind λg=>(if(bif(!c)then true else(bif(decide (a>0))then g else false))=true then some (.inl false)else(z00 b d fuel (i64.wrap (a+1))))else some (.inr ()))
def a01(a:Int)(b:H0):Option (Bool):=(K4 a 1 3).bind λd=>(if(bif(!d)then true else(decide (((b.length:Nat):Int)>24)))=true then some false else(z00 b a P0 0).bind λc=>z9 c (λ_=>some true))
def Y7(a:O1):Nat->Int->Int->Option (Int)
 |0,_,_=>none
 |fuel+1,c,b=>(if(decide (b<((a.length:Nat):Int)))=true then(gi a b).bind λd=>(Y7 a fuel (i64.wrap (c+((d.length:Nat):Int))) (i64.wrap (b+1)))else some (c))
def q02(a:O1):Option (Int):=(Y7 a P0 0 0).bind (λb=>some b)
def V8(a:O1)(c:Int):Nat->Int->Option ((Bool) ⊕ (Unit))
 |0,_=>none
 |fuel+1,b=>(if(decide (b<((a.length:Nat):Int)))=true then(gi a b).bind λd=>(a01 c d).bind λe=>(if(!e)=true then some (.inl false)else(V8 a c fuel (i64.wrap (b+1))))else some (.inr ()))
def L01(b:Int)(a:O1):Option (Bool):=(K4 b 1 3).bind λe=>(if(bif(!e)then true else(decide (((a.length:Nat):Int)>6)))=true then some false else(V8 a b P0 0).bind λd=>z9 d (λ_=>(q02 a).bind λc=>(grd (F0 c)).bind λ_=>some (decide (c<40))))
def E9(a:Int)(b:Int):Option (Int):=(if(decide (a<b))=true then some (-1)else(if(decide (a>b))=true then some 1 else some 0))
def D5(c:H0):Nat->Int->(List Int)->Option ((List Int))
 |0,_,_=>none
 |fuel+1,a,b=>(if(decide (a ≥ 0))=true then(gi c a).bind λd=>(grd ((b.length+([(i64.wrap (0-d))]).length)*8<=140737488355328)).bind λ_=>(D5 c fuel (i64.wrap (a-1)) (b ++ [(i64.wrap (0-d))]))else some (b))
def W8(a:H0):Option (H0):=(D5 a P0 (i64.wrap (((a.length:Nat):Int)-1)) ([]:H0)).bind (λb=>some b)
def A3(c:H0):Nat->Int->(List Int)->Option ((List Int))
 |0,_,_=>none
 |fuel+1,d,b=>(if(decide (d<((c.length:Nat):Int)))=true then(some b.length).bind λa=>(grd (a<=9223372036854775807)).bind λ_=>(chk (decide (((a:Nat):Int)>0)) (gi c d) 0).bind λe=>(chk (bif(decide (((a:Nat):Int)>0))then(!decide (e=0))else false) (gi b (i64.wrap (((a:Nat):Int)-1))) 0).bind λf=>(chk (bif(decide (((a:Nat):Int)>0))then(!decide (e=0))else false) (gi c d) 0).bind λg=>(chk (bif(bif(decide (((a:Nat):Int)>0))then(!decide (e=0))else false)then(decide (f=(i64.wrap (0-g))))else false) (gi b (i64.wrap (((a:Nat):Int)-1))) 0).bind λi=>(chk (bif(bif(decide (((a:Nat):Int)>0))then(!decide (e=0))else false)then(decide (f=(i64.wrap (0-g))))else false) (gi c d) 0).bind λj=>(if(bif(bif(bif(decide (((a:Nat):Int)>0))then(!decide (e=0))else false)then(decide (f=(i64.wrap (0-g))))else false)then(!decide (i=j))else false)=true then(grd (0<=(i64.wrap (((a:Nat):Int)-1))/\(i64.wrap (((a:Nat):Int)-1))<=(b.length:Int))).bind λ_=>(A3 c fuel (i64.wrap (d+1)) (b.take (i64.wrap (((a:Nat):Int)-1)).toNat))else(gi c d).bind λh=>(grd ((b.length + [h].length)*8<=140737488355328)).bind λ_=>(A3 c fuel (i64.wrap (d+1)) (b ++ [h])))else some (b))
def I3(b:H0):Option (H0):=(A3 b P0 0 ([]:H0)).bind (λa=>(grd ((([]:H0).length+a.length)*8<=140737488355328)).bind λ_=>some (([]:H0)++a))
def Z7(a:H0)(b:H0):Option (H0):=(grd ((([]:H0).length+a.length)*8<=140737488355328)).bind λ_=>(grd (((([]:H0)++a).length+b.length)*8<=140737488355328)).bind λ_=>(I3 ((([]:H0)++a)++b)).bind λc=>some c
def Q8(c:H0):Nat->Int->(List Int)->Option ((List Int))
 |0,_,_=>none
 |fuel+1,a,b=>(if(decide (a ≥ 0))=true then(gi c a).bind λd=>(grd ((b.length+([(i64.wrap (0-d))]).length)*8<=140737488355328)).bind λ_=>(Q8 c fuel (i64.wrap (a-1)) (b ++ [(i64.wrap (0-d))]))else some (b))
def g00(a:H0):Option (H0):=(grd ((0:Int)<=0/\0<=((a.length:Nat):Int)/\((a.length:Nat):Int)*8<=140737488355328/\((a.length:Nat):Int)<=9223372036854775807)).bind λ_=>(Q8 a P0 (i64.wrap (((a.length:Nat):Int)-1)) (List.replicate (0:Int).toNat (0:Int))).bind (λb=>some b)
def D8(e:H0):Nat->Int->(List Int)->Option ((List Int))
 |0,_,_=>none
 |fuel+1,d,a=>(if(decide (d<((e.length:Nat):Int)))=true then(gi e d).bind λf=>(some a.length).bind λb=>(grd (b<=9223372036854775807)).bind λ_=>(some a.length).bind λg=>(grd (g<=9223372036854775807)).bind λ_=>(chk (decide (((b:Nat):Int)>0)) (gi a (i64.wrap (((g:Nat):Int)-1))) 0).bind λh=>(chk (decide (((b:Nat):Int)>0)) (C01 h f) false).bind λi=>(if(bif(decide (((b:Nat):Int)>0))then i else false)=true then(some a.length).bind λc=>(grd (c<=9223372036854775807)).bind λ_=>(grd (0<=(i64.wrap (((c:Nat):Int)-1))/\(i64.wrap (((c:Nat):Int)-1))<=(a.length:Int))).bind λ_=>(D8 e fuel (i64.wrap (d+1)) (a.take (i64.wrap (((c:Nat):Int)-1)).toNat))else(grd ((a.length + [f].length)*8<=140737488355328)).bind λ_=>(D8 e fuel (i64.wrap (d+1)) (a ++ [f])))else some (a))
def K9(a:O1):Nat->Int->(List Int)->Option ((List Int))
 |0,_,_=>none
 |fuel+1,b,c=>(if(decide (b<((a.length:Nat):Int)))=true then(gi a b).bind λd=>(D8 d P0 0 c).bind (λe=>(K9 a fuel (i64.wrap (b+1)) e))else some (c))
def i01(a:O1):Option (H0):=(K9 a P0 0 ([]:H0)).bind (λb=>some b)
def R0q(a b:Int):Int:=i64.wrap ((BitVec.ofInt 64 a &&& BitVec.ofInt 64 b).toNat:Int)
def J0y(a b:Int):Int:=i64.wrap ((BitVec.ofInt 64 a ^^^ BitVec.ofInt 64 b).toNat:Int)
def j01(b:List Int):Nat->Int->Int->Option Int
 |0,_,_=>none
 |fuel+1,c,a=>if(bif decide (a<((b.length:Nat):Int))then decide (a<4000)else false)=true then(gi b a).bind λx=>j01 b fuel (R0q (i64.wrap (i64.wrap (i64.wrap (c*131)+i64.wrap x)+7)) 1073741823) (i64.wrap (a+1))else some c
def Y02(a:List Int):Option (Int×Int):=(j01 a P0 (i64.wrap (10101+((a.length:Nat):Int))) 0).bind λy=>some (0,y)
def nxt(q:Int):Int:=i64.wrap (i64.wrap (q*6364136223846793005)+1442695040888963407)
def drw(q:Int):Int:=R0q (J0y (Int.fdiv q (2 ^ min (33:Int).toNat 64)) (Int.fdiv q (2 ^ min (45:Int).toNat 64))) 255
def b01(a:List Int)(q:Int×Int):Option (Int×(Int×Int)) :=
 if decide (q.1<((a.length:Nat):Int))=true then(gi a q.1).bind λc=>some (R0q (i64.wrap (drw (nxt q.2)+i64.wrap c)) 255,(i64.wrap (q.1+1),nxt q.2))else some (drw (nxt q.2),(q.1,nxt q.2))
def Q3(b:List Int)(c:Int×Int)(a:Int):Option (Int×(Int×Int)):=(if(decide (a<=0))=true then some (0,c)else(if(decide (a<=256))=true then(b01 b c).bind λ(g,l)=>(grd (F0 g)).bind λ_=>(grd (a≠0)).bind λ_=>some ((Int.tmod g a),l)else(b01 b c).bind λ(h,m)=>(grd (F0 h)).bind λ_=>(b01 b m).bind λ(d,i)=>(grd (F0 d)).bind λ_=>(b01 b i).bind λ(e,j)=>(grd (F0 e)).bind λ_=>(b01 b j).bind λ(f,k)=>(grd (F0 f)).bind λ_=>(grd (a≠0)).bind λ_=>some ((Int.tmod (i64.wrap ((i64.wrap ((i64.wrap ((i64.wrap (h*16777216))+(i64.wrap (d*65536))))+(i64.wrap (e*256))))+f)) a),k)))
def z8(b:List Int)(c:Int×Int)(d:Int):Option (Bool×(Int×Int)):=(Q3 b c d).bind λ(a,e)=>(grd (F0 a)).bind λ_=>some ((decide (a=0)),e)
def r03(c:List Int)(d:Int×Int)(a:H0):Option (Int×(Int×Int)):=(Q3 c d ((a.length:Nat):Int)).bind λ(b,e)=>(grd (F0 b)).bind λ_=>(gi a b).bind λf=>some (f,e)
def f00(c:(List Int))(d:Int):Nat->Int->(List Int)->(Int×Int)->Option ((List Int)×(Int×Int))
 |0,_,_,_=>none
 |fuel+1,e,a,u8=>(if(decide (e>0))=true then(Q3 c u8 d).bind λ(b,g)=>(grd (F0 b)).bind λ_=>(z8 c g 2).bind λ(h,f)=>(if h=true then(grd ((a.length+([(i64.wrap (0-(i64.wrap (1+b))))]).length)*8<=140737488355328)).bind λ_=>(f00 c d fuel (i64.wrap (e-1)) (a ++ [(i64.wrap (0-(i64.wrap (1+b))))]) f)else(grd ((a.length+([(i64.wrap (1+b))]).length)*8<=140737488355328)).bind λ_=>(f00 c d fuel (i64.wrap (e-1)) (a ++ [(i64.wrap (1+b))]) f))else some (a,u8))
def I04(a:List Int)(c:Int×Int)(d:Int)(e:Int):Option (H0×(Int×Int)):=(Q3 a c (i64.wrap (e+1))).bind λ(b,f)=>(grd (F0 b)).bind λ_=>(f00 a d P0 b ([]:H0) f).bind (λ(h,i)=>(I3 h).bind λg=>some (g,i))
def L9(b:(List Int))(c:Int):Nat->Int->(List H0)->(Int×Int)->Option ((List H0)×(Int×Int))
 |0,_,_,_=>none
 |fuel+1,d,a,u8=>(if(decide (d>0))=true then(I04 b u8 c 5).bind λ(e,f)=>(grd ((a.length + [e].length)*24<=140737488355328)).bind λ_=>(L9 b c fuel (i64.wrap (d-1)) (a ++ [e]) f)else some (a,u8))
def s03(a:List Int)(c:Int×Int)(d:Int):Option (O1×(Int×Int)):=(Q3 a c 4).bind λ(b,e)=>(grd (F0 b)).bind λ_=>(L9 a d P0 b ([]:O1) e).bind (λ(f,g)=>some (f,g))
def u05(d:z0)(f:O0):Option (Bool):=match d with|(e,b,k)=>match f with|(g,h,i)=>(O3 g 0 (i64.wrap (b-1))).bind λa=>(chk a (O3 i 0 (i64.wrap (b-1))) false).bind λc=>(chk (bif a then c else false) (O3 h 1 e) false).bind λj=>some (bif(bif a then c else false)then j else false)
def n9(b:Int)(c:Int)(d:Int)(e:Int)(f:Int)(g:Int):Nat->Int->Option ((Int) ⊕ (Unit))
 |0,_=>none
 |fuel+1,a=>(if(decide (a<3))=true then(gi [b,c,d] a).bind λi=>(gi [e,f,g] a).bind λj=>(if(decide (i<j))=true then some (.inl (-1))else(gi [b,c,d] a).bind λk=>(gi [e,f,g] a).bind λh=>(if(decide (k>h))=true then some (.inl 1)else(n9 b c d e f g fuel (i64.wrap (a+1)))))else some (.inr ()))
def t00(b:O0)(f:O0):Option (Int):=match b with|(c,d,e)=>match f with|(g,h,i)=>(n9 c d e g h i P0 0).bind λa=>z9 a (λ_=>some 0)
def M9(b:S0)(d:Int)(e:Int):Nat->Int->Option ((Bool) ⊕ (Unit))
 |0,_=>none
 |fuel+1,a=>(if(decide (a<((b.length:Nat):Int)))=true then(gi b a).bind λ(g,h,i)=>(u05 (d,e,b) (g,h,i)).bind λc=>(chk ((decide (a>0))&&(!(!c))) (gi b (i64.wrap (a-1))) (0,0,0)).bind λ(j,k,l)=>(chk ((decide (a>0))&&(!(!c))) (gi b a) (0,0,0)).bind λ(m,o,p)=>(chk ((decide (a>0))&&(!(!c))) (t00 (j,k,l) (m,o,p)) 0).bind λf=>(grd (F0 f)).bind λ_=>(if(bif(!c)then true else(bif(decide (a>0))then(decide (f ≥ 0))else false))=true then some (.inl false)else(M9 b d e fuel (i64.wrap (a+1))))else some (.inr ()))
def Z4(f:z0):Option (Bool):=match f with|(a,b,c)=>(M9 c a b P0 0).bind λe=>z9 e (λ_=>(O3 a 1 3).bind λd=>(chk d (O3 b 1 40) false).bind λg=>some (bif(bif d then g else false)then(decide (((c.length:Nat):Int)<=120))else false))
def H5(a:z0)(c:Int):Option (Bool):=match a with|(e,b,f)=>(K4 c 0 (i64.wrap (b-1))).bind λd=>some d
def k01(f:z0)(g:O0):Option (Bool):=match f with|(a,c,d)=>match g with|(h,i,j)=>(H5 (a,c,d) h).bind λb=>(chk b (H5 (a,c,d) j) false).bind λe=>(chk (bif b then e else false) (K4 i 1 a) false).bind λk=>some (bif(bif b then e else false)then k else false)
def Q01(d:O0)(h:O0):Option (Int):=match d with|(e,f,g)=>match h with|(i,j,k)=>(E9 e i).bind λa=>(grd (F0 a)).bind λ_=>(if(!decide (a=0))=true then some a else(E9 f j).bind λb=>(grd (F0 b)).bind λ_=>(if(!decide (b=0))=true then some b else(E9 g k).bind λc=>(grd (F0 c)).bind λ_=>some c))
def N9(b:S0)(d:Int)(e:Int):Nat->Int->Option ((Bool) ⊕ (Unit))
 |0,_=>none
 |fuel+1,a=>(if(decide (a<((b.length:Nat):Int)))=true then(gi b a).bind λ(g,h,i)=>(k01 (d,e,b) (g,h,i)).bind λc=>(chk ((decide (a>0))&&(!(!c))) (gi b (i64.wrap (a-1))) (0,0,0)).bind λ(j,k,l)=>(chk ((decide (a>0))&&(!(!c))) (Q01 (j,k,l) (g,h,i)) 0).bind λf=>(grd (F0 f)).bind λ_=>(if(bif(!c)then true else(bif(decide (a>0))then(decide (f ≥ 0))else false))=true then some (.inl false)else(N9 b d e fuel (i64.wrap (a+1))))else some (.inr ()))
def E7(f:z0):Option (Bool):=match f with|(a,b,c)=>(K4 a 1 3).bind λd=>(chk (!(!d)) (K4 b 1 40) false).bind λg=>(if(bif(bif(!d)then true else(!g))then true else(decide (((c.length:Nat):Int)>120)))=true then some false else(N9 c a b P0 0).bind λe=>z9 e (λ_=>some true))
def K5(b:H0)(a:Int):Nat->Bool->Int->(List Int)->Option (Bool×(List Int))
 |0,_,_,_=>none
 |fuel+1,e,c,d=>(if(decide (c<((b.length:Nat):Int)))=true then(gi b c).bind λl=>(if(decide (l=a))=true then(gi b c).bind λj=>(if(bif(decide (j>a))then(!true)else false)=true then(grd ((d.length + [a].length)*8<=140737488355328)).bind λ_=>(gi b c).bind λf=>(grd (((d ++ [a]).length + [f].length)*8<=140737488355328)).bind λ_=>(K5 b a fuel true (i64.wrap (c+1)) ((d ++ [a]) ++ [f]))else(gi b c).bind λg=>(grd ((d.length + [g].length)*8<=140737488355328)).bind λ_=>(K5 b a fuel true (i64.wrap (c+1)) (d ++ [g])))else(gi b c).bind λk=>(if(bif(decide (k>a))then(!e)else false)=true then(grd ((d.length + [a].length)*8<=140737488355328)).bind λ_=>(gi b c).bind λh=>(grd (((d ++ [a]).length + [h].length)*8<=140737488355328)).bind λ_=>(K5 b a fuel true (i64.wrap (c+1)) ((d ++ [a]) ++ [h]))else(gi b c).bind λi=>(grd ((d.length + [i].length)*8<=140737488355328)).bind λ_=>(K5 b a fuel e (i64.wrap (c+1)) (d ++ [i]))))else some (e,d))
def c01(c:H0)(a:Int):Option (H0):=(K5 c a P0 false 0 ([]:H0)).bind (λ(d,b)=>(if(!d)=true then(grd ((b.length + [a].length)*8<=140737488355328)).bind λ_=>some (b ++ [a])else some b))
def l01(a:H0)(c:Int):Nat->Int->Option ((Bool) ⊕ (Unit))
 |0,_=>none
 |fuel+1,b=>(if(decide (b<((a.length:Nat):Int)))=true then(gi a b).bind λd=>(if(decide (d=c))=true then some (.inl true)else(l01 a c fuel (i64.wrap (b+1))))else some (.inr ()))
def d01(b:H0)(c:Int):Option (Bool):=(l01 b c P0 0).bind λa=>z9 a (λ_=>some false)
def d5(c:S0)(a:Int)(b:Int):Nat->H0->Int->Option (H0)
 |0,_,_=>none
 |fuel+1,e,d=>(if(decide (d<((c.length:Nat):Int)))=true then(gi c d).bind λ(f,g,h)=>(if(bif(bif(decide (a>0))then(decide (g=a))else false)then(decide (f=b))else false)=true then(c01 e h).bind λi=>(if(bif(bif(decide (a<0))then(decide (g=(i64.wrap (0-a))))else false)then(decide (h=b))else false)=true then(c01 i f).bind λj=>(d5 c a b fuel j (i64.wrap (d+1)))else(d5 c a b fuel i (i64.wrap (d+1))))else(if(bif(bif(decide (a<0))then(decide (g=(i64.wrap (0-a))))else false)then(decide (h=b))else false)=true then(c01 e f).bind λk=>(d5 c a b fuel k (i64.wrap (d+1)))else(d5 c a b fuel e (i64.wrap (d+1)))))else some (e))
def t03(a:z0)(c:Int)(d:Int):Option (H0):=match a with|(f,g,b)=>(d5 b d c P0 ([]:H0) 0).bind (λe=>some e)
def j4(b:z0)(f:Int)(g:Int):Option (Int):=match b with|(c,d,e)=>(t03 (c,d,e) f g).bind λa=>(if(decide (((a.length:Nat):Int)=0))=true then some (-1)else(gi a 0).bind λh=>some h)
def Y8(b:Int)(a:S0):Nat->Int->Option ((Bool) ⊕ (Unit))
 |0,_=>none
 |fuel+1,u8=>(if(decide (u8<b))=true then(gi a b).bind λ(c,d,e)=>(gi a u8).bind λ(f,g,h)=>(if(bif(decide (d=g))then(bif(decide (c=f))then true else(decide (e=h)))else false)=true then some (.inl false)else(Y8 b a fuel (i64.wrap (u8+1))))else some (.inr ()))
def Q6(a:S0)(c:Int)(d:Int):Nat->Int->Option ((Bool) ⊕ (Unit))
 |0,_=>none
 |fuel+1,b=>(chk (decide (b<((a.length:Nat):Int))) (Z4 (c,d,a)) false).bind λf=>(if(bif(decide (b<((a.length:Nat):Int)))then f else false)=true then(Y8 b a P0 0).bind λe=>F0t e (λ_=>(Q6 a c d fuel (i64.wrap (b+1))))else some (.inr ()))
def N4(e:z0):Option (Bool):=match e with|(a,b,c)=>(Q6 c a b P0 0).bind λd=>z9 d (λ_=>(Z4 (a,b,c)).bind λf=>some f)
def Z8(a:H0)(d:Int)(e:Int)(f:S0):Nat->Int->Int->Option ((Int×Bool) ⊕ (Int))
 |0,_,_=>none
 |fuel+1,g,b=>(if(decide (b<((a.length:Nat):Int)))=true then(gi a b).bind λh=>(j4 (d,e,f) g h).bind λc=>(grd (F0 c)).bind λ_=>(if(decide (c<0))=true then some (.inl ((-1),false))else(Z8 a d e f fuel c (i64.wrap (b+1))))else some (.inr (g)))
def M01(g:z0)(d:Int)(h:H0):Option (Int×Bool):=match g with|(b,a,c)=>(N4 (b,a,c)).bind λe=>(chk (!(!e)) (O3 d 0 (i64.wrap (a-1))) false).bind λi=>(if(bif(!e)then true else(!i))=true then some ((-1),false)else(Z8 h b a c P0 d 0).bind λf=>z9 f (λj=>some (j,true)))
def g6(c:S0)(a:Int)(d:Int):Nat->Int->(List Int)->Option ((List Int))
 |0,_,_=>none
 |fuel+1,e,b=>(if(decide (e<((c.length:Nat):Int)))=true then(gi c e).bind λ(f,h,g)=>(if(bif(bif(decide (a>0))then(decide (h=a))else false)then(decide (f=d))else false)=true then(grd ((b.length + [g].length)*8<=140737488355328)).bind λ_=>(g6 c a d fuel (i64.wrap (e+1)) (b ++ [g]))else(if(bif(bif(bif(decide (a<0))then(!decide (a=(-9223372036854775808)))else false)then(decide (h=(i64.wrap (0-a))))else false)then(decide (g=d))else false)=true then(grd ((b.length + [f].length)*8<=140737488355328)).bind λ_=>(g6 c a d fuel (i64.wrap (e+1)) (b ++ [f]))else(g6 c a d fuel (i64.wrap (e+1)) b)))else some (b))
def u03(b:z0)(d:Int)(e:Int):Option (H0):=match b with|(f,g,c)=>(g6 c e d P0 0 ([]:H0)).bind (λa=>(grd (a.length<4611686018427387904)).bind λ_=>some (z07 eqI (Z0a W01 a)))
def a9(b:z0)(f:Int)(g:Int):Option (Int):=match b with|(c,d,e)=>(u03 (c,d,e) f g).bind λa=>(if(decide (((a.length:Nat):Int)=0))=true then some (-1)else(gi a 0).bind λh=>some h)
def b9(b:S0)(d:Int)(c:Int)(e:Int):Nat->Int->Option ((Bool) ⊕ (Unit))
 |0,_=>none
 |fuel+1,a=>(if(decide (a<((b.length:Nat):Int)))=true then(gi b a).bind λ(f,g,h)=>(if(bif(decide (d=g))then(bif(decide (c=f))then true else(decide (e=h)))else false)=true then some (.inl false)else(b9 b d c e fuel (i64.wrap (a+1))))else some (.inr ()))
def c9(a:S0):Nat->Int->Option ((Bool) ⊕ (Unit))
 |0,_=>none
 |fuel+1,b=>(if(decide (b<((a.length:Nat):Int)))=true then(gi a b).bind λ(d,e,f)=>(y07 a (i64.wrap (b+1)) (a.length:Int)).bind λg=>(b9 g e d f P0 0).bind λc=>F0t c (λ_=>(c9 a fuel (i64.wrap (b+1))))else some (.inr ()))
def A8(c:z0):Option (Bool):=match c with|(d,e,a)=>(E7 (d,e,a)).bind λf=>(if(!f)=true then some false else(c9 a P0 0).bind λb=>z9 b (λ_=>some true))
def L7(b:H0)(e:Int)(f:Int)(g:S0):Nat->Int->Int->Option ((Int×Int) ⊕ (Int))
 |0,_,_=>none
 |fuel+1,c,a=>(if(decide (a<((b.length:Nat):Int)))=true then(gi b a).bind λh=>(a9 (e,f,g) c h).bind λd=>(grd (F0 d)).bind λ_=>(if(decide (d<0))=true then some (.inl (c,a))else(L7 b e f g fuel d (i64.wrap (a+1))))else some (.inr (c)))
def D01(c:z0)(g:Int)(a:H0):Option (Int×Int):=match c with|(d,e,f)=>(L7 a d e f P0 g 0).bind λb=>z9 b (λh=>some (h,((a.length:Nat):Int)))
def V3(b:z0):Option (z0):=match b with|(c,d,a)=>(grd ((([]:S0).length+a.length)*24<=140737488355328)).bind λ_=>some (c,d,(([]:S0)++a))
def L5(e:S0)(a:Int)(b:Int)(c:Int):Nat->Bool->Int->(List O0)->Option (Bool×(List O0))
 |0,_,_,_=>none
 |fuel+1,h,f,d=>(if(decide (f<((e.length:Nat):Int)))=true then(gi e f).bind λ(w,x,y)=>(t00 (a,b,c) (w,x,y)).bind λg=>(grd (F0 g)).bind λ_=>(if(decide (g=0))=true then(if(bif(decide (g<0))then(!true)else false)=true then(grd ((d.length+([(a,b,c)]).length)*24<=140737488355328)).bind λ_=>(gi e f).bind λ(i,j,k)=>(grd (((d ++ [(a,b,c)]).length+([(i,j,k)]).length)*24<=140737488355328)).bind λ_=>(L5 e a b c fuel true (i64.wrap (f+1)) ((d ++ [(a,b,c)]) ++ [(i,j,k)]))else(gi e f).bind λ(l,m,o)=>(grd ((d.length+([(l,m,o)]).length)*24<=140737488355328)).bind λ_=>(L5 e a b c fuel true (i64.wrap (f+1)) (d ++ [(l,m,o)])))else(if(bif(decide (g<0))then(!h)else false)=true then(grd ((d.length+([(a,b,c)]).length)*24<=140737488355328)).bind λ_=>(gi e f).bind λ(p,q,s)=>(grd (((d ++ [(a,b,c)]).length+([(p,q,s)]).length)*24<=140737488355328)).bind λ_=>(L5 e a b c fuel true (i64.wrap (f+1)) ((d ++ [(a,b,c)]) ++ [(p,q,s)]))else(gi e f).bind λ(t,u,v)=>(grd ((d.length+([(t,u,v)]).length)*24<=140737488355328)).bind λ_=>(L5 e a b c fuel h (i64.wrap (f+1)) (d ++ [(t,u,v)]))))else some (h,d))
def E8(e:S0)(f:O0):Option (S0):=match f with|(a,b,c)=>(L5 e a b c P0 false 0 ([]:S0)).bind (λ(g,d)=>(if(!g)=true then(grd ((d.length+([(a,b,c)]).length)*24<=140737488355328)).bind λ_=>some (d ++ [(a,b,c)])else some d))
def G4(a:S0)(c:Int):Nat->Int->Int->Option (Int)
 |0,_,_=>none
 |fuel+1,d,b=>(if(decide (b<((a.length:Nat):Int)))=true then(gi a b).bind λ(f,j,k)=>(if(decide (f=c))=true then(gi a b).bind λ(l,m,g)=>(if(decide (g=c))=true then(G4 a c fuel (i64.wrap ((i64.wrap (d+1))+1)) (i64.wrap (b+1)))else(G4 a c fuel (i64.wrap (d+1)) (i64.wrap (b+1))))else(gi a b).bind λ(h,i,e)=>(if(decide (e=c))=true then(G4 a c fuel (i64.wrap (d+1)) (i64.wrap (b+1)))else(G4 a c fuel d (i64.wrap (b+1)))))else some (d))
def K02(a:z0)(c:Int):Option (Int):=match a with|(e,f,b)=>(G4 b c P0 0 0).bind (λd=>some d)
def g7(b:S0)(c:S0):Nat->Int->Option ((Bool) ⊕ (Unit))
 |0,_=>none
 |fuel+1,a=>(if(decide (a<((b.length:Nat):Int)))=true then(gi b a).bind λ(d,e,f)=>(gi c a).bind λ(g,h,i)=>(if(!eqE (d,e,f) (g,h,i))=true then some (.inl false)else(g7 b c fuel (i64.wrap (a+1))))else some (.inr ()))
def d8(d:z0)(g:z0):Option (Bool):=match d with|(e,f,a)=>match g with|(h,i,b)=>(if(bif(bif(!decide (e=h))then true else(!decide (f=i)))then true else(!decide (((a.length:Nat):Int)=((b.length:Nat):Int))))=true then some false else(g7 a b P0 0).bind λc=>z9 c (λ_=>some true))
def C4(a:S0):Nat->H0->Int->Option (H0)
 |0,_,_=>none
 |fuel+1,b,c=>(if(decide (c<((a.length:Nat):Int)))=true then(gi a c).bind λ(d,l,e)=>(d01 b d).bind λg=>(if g=true then(c01 b e).bind λf=>(d01 f e).bind λh=>(if h=true then(c01 f d).bind λi=>(C4 a fuel i (i64.wrap (c+1)))else(C4 a fuel f (i64.wrap (c+1))))else(d01 b e).bind λj=>(if j=true then(c01 b d).bind λk=>(C4 a fuel k (i64.wrap (c+1)))else(C4 a fuel b (i64.wrap (c+1)))))else some (b))
def j7(a:S0):Nat->H0->Int->Option (H0)
 |0,_,_=>none
 |fuel+1,b,c=>(if(decide (c<(i64.wrap (((a.length:Nat):Int)+1))))=true then(C4 a P0 b 0).bind (λd=>(j7 a fuel d (i64.wrap (c+1))))else some (b))
def r02(e:z0)(c:Int):Option (H0):=match e with|(f,a,b)=>(Z4 (f,a,b)).bind λd=>(chk (!(!d)) (O3 c 0 (i64.wrap (a-1))) false).bind λg=>(if(bif(!d)then true else(!g))=true then some ([]:H0)else(j7 b P0 [c] 0).bind (λh=>some h))
def A00(b:Int)(d:Int)(e:S0)(f:H0):Nat->Int->Option ((Int) ⊕ (Unit))
 |0,_=>none
 |fuel+1,a=>(if(decide (a<b))=true then(K02 (d,b,e) a).bind λc=>(grd (F0 c)).bind λ_=>(chk (!(decide (c<2))) (d01 f a) false).bind λg=>(if(bif(decide (c<2))then true else(!g))=true then some (.inl a)else(A00 b d e f fuel (i64.wrap (a+1))))else some (.inr ()))
def s04(e:z0):Option (Int):=match e with|(a,b,c)=>(r02 (a,b,c) 0).bind λf=>(A00 b a c f P0 1).bind λd=>z9 d (λ_=>some (-1))
def S4(b:S0)(a:(List Int)):Nat->Int->Int->Int->S0->Option (Int×Int×S0)
 |0,_,_,_,_=>none
 |fuel+1,c,d,e,f=>(if(decide (c<((b.length:Nat):Int)))=true then(gi b c).bind λ(g,j,h)=>(gi a g).bind λi=>(chk (decide (i>0)) (gi a h) 0).bind λk=>(if(bif(decide (i>0))then(decide (k>0))else false)=true then(gi a g).bind λl=>(gi a h).bind λm=>(E8 f ((i64.wrap (l-1)),j,(i64.wrap (m-1)))).bind λo=>(S4 b a fuel (i64.wrap (c+1)) d e o)else(S4 b a fuel (i64.wrap (c+1)) d e f))else some (d,e,f))
def M5(b:H0)(d:Int)(f:Int)(g:S0):Nat->Int->(List Int)->Option ((z0×Bool) ⊕ ((List Int)))
 |0,_,_=>none
 |fuel+1,a,c=>(if(decide (a<((b.length:Nat):Int)))=true then(gi b a).bind λi=>(O3 i 0 (i64.wrap (d-1))).bind λe=>(chk (!(!e)) (gi b a) 0).bind λj=>(chk (!(!e)) (gi c j) 0).bind λk=>(if(bif(!e)then true else(!decide (k=0)))=true then(V3 (f,d,g)).bind λ(l,m,o)=>some (.inl ((l,m,o),false))else(gi b a).bind λh=>(gi c h).bind λp=>(M5 b d f g fuel (i64.wrap (a+1)) (c.set h.toNat (i64.wrap (a+1)))))else some (.inr (c)))
def g8(f:z0)(d:H0):Option (z0×Bool):=match f with|(b,a,c)=>(Z4 (b,a,c)).bind λg=>(if(bif(bif(!g)then true else(decide (((d.length:Nat):Int)=0)))then true else(decide (((d.length:Nat):Int)>a)))=true then(V3 (b,a,c)).bind λ(h,i,j)=>some ((h,i,j),false)else(grd ((0:Int)<=a/\a<=a/\a*8<=140737488355328/\a<=9223372036854775807)).bind λ_=>(M5 d a b c P0 0 (List.replicate a.toNat (0:Int))).bind λe=>z9 e (λo=>(S4 c o P0 0 b ((d.length:Nat):Int) ([]:S0)).bind (λ(k,l,m)=>some ((k,l,m),true))))
def i8(c:Int):Nat->Int->(List Int)->Option ((List Int))
 |0,_,_=>none
 |fuel+1,a,b=>(if(decide (a<=c))=true then(grd ((b.length + [a].length)*8<=140737488355328)).bind λ_=>(grd (((b ++ [a]).length+([(i64.wrap (0-a))]).length)*8<=140737488355328)).bind λ_=>(i8 c fuel (i64.wrap (a+1)) ((b ++ [a]) ++ [(i64.wrap (0-a))]))else some (b))
def F8(a:Int):Option (H0):=(i8 a P0 1 ([]:H0)).bind (λb=>some b)
def H4(d:H0)(h:Int)(e:Int)(f:Int)(g:S0):Nat->Int->(List Int)->Option ((List Int))
 |0,_,_=>none
 |fuel+1,c,a=>(if(decide (c<((d.length:Nat):Int)))=true then(gi a h).bind λi=>(gi d c).bind λj=>(j4 (e,f,g) i j).bind λb=>(grd (F0 b)).bind λ_=>(chk (decide (b ≥ 0)) (d01 a b) false).bind λk=>(if(bif(decide (b ≥ 0))then(!k)else false)=true then(grd ((a.length + [b].length)*8<=140737488355328)).bind λ_=>(H4 d h e f g fuel (i64.wrap (c+1)) (a ++ [b]))else(H4 d h e f g fuel (i64.wrap (c+1)) a))else some (a))
def J6(g:H0)(d:Int)(e:Int)(f:S0):Nat->Int->(List Int)->Option ((List Int))
 |0,_,_=>none
 |fuel+1,a,b=>(some b.length).bind λc=>(grd (c<=9223372036854775807)).bind λ_=>(if(decide (a<((c:Nat):Int)))=true then(H4 g a d e f P0 0 b).bind (λh=>(J6 g d e f fuel (i64.wrap (a+1)) h))else some (b))
def H00(d:z0):Option (H0):=match d with|(a,b,c)=>(N4 (a,b,c)).bind λe=>(if(!e)=true then some ([]:H0)else(F8 a).bind λf=>(J6 f a b c P0 0 [0]).bind (λg=>some g))
def o9(e:z0):Option (z0):=match e with|(a,b,c)=>(H00 (a,b,c)).bind λd=>(if(decide (((d.length:Nat):Int)=0))=true then(V3 (a,b,c)).bind λ(f,g,h)=>some (f,g,h)else(g8 (a,b,c) d).bind λ(i,m)=>match i with|(j,k,l)=>some (j,k,l))
def h03(f:z0):Option (Bool):=match f with|(a,b,c)=>(N4 (a,b,c)).bind λd=>(chk d (s04 (a,b,c)) 0).bind λe=>(grd (F0 e)).bind λk=>(chk (bif d then(decide (e<0))else false) (o9 (a,b,c)) (0,0,[])).bind λ(g,h,i)=>(chk (bif d then(decide (e<0))else false) (d8 (g,h,i) (a,b,c)) false).bind λj=>some (bif(bif d then(decide (e<0))else false)then j else false)
def U2(a:z0):Option (Bool):=match a with|(b,c,d)=>(h03 (b,c,d)).bind λe=>some e
def W4(b:z0):Option (z0):=match b with|(c,d,a)=>(grd ((([]:S0).length+a.length)*24<=140737488355328)).bind λ_=>some (c,d,(([]:S0)++a))
def R6(b:S0)(a:Int):Nat->Int->Int->Option (Int)
 |0,_,_=>none
 |fuel+1,d,c=>(if(decide (c<((b.length:Nat):Int)))=true then(gi b c).bind λ(f,g,e)=>(if(decide (f=a))=true then(if(decide (e=a))=true then(R6 b a fuel (i64.wrap ((i64.wrap (d+1))+1)) (i64.wrap (c+1)))else(R6 b a fuel (i64.wrap (d+1)) (i64.wrap (c+1))))else(if(decide (e=a))=true then(R6 b a fuel (i64.wrap (d+1)) (i64.wrap (c+1)))else(R6 b a fuel d (i64.wrap (c+1)))))else some (d))
def d04(a:z0)(c:Int):Option (Int):=match a with|(e,f,b)=>(R6 b c P0 0 0).bind (λd=>some d)
def J2(b:S0)(c:S0):Nat->Int->Option ((Bool) ⊕ (Unit))
 |0,_=>none
 |fuel+1,a=>(if(decide (a<((b.length:Nat):Int)))=true then(gi b a).bind λ(d,e,f)=>(gi c a).bind λ(g,h,i)=>(if(!eqE (d,e,f) (g,h,i))=true then some (.inl false)else(J2 b c fuel (i64.wrap (a+1))))else some (.inr ()))
def I4(a:S0)(b:S0):Option (Bool):=(if(!decide (((a.length:Nat):Int)=((b.length:Nat):Int)))=true then some false else(J2 a b P0 0).bind λc=>z9 c (λ_=>some true))
def G9(e:z0)(g:z0):Option (Bool):=match e with|(a,b,f)=>match g with|(c,d,h)=>(chk (bif(decide (a=c))then(decide (b=d))else false) (I4 f h) false).bind λi=>some (bif(bif(decide (a=c))then(decide (b=d))else false)then i else false)
def p5(b:S0):Nat->Bool->Int->(List Bool)->Option (Bool×(List Bool))
 |0,_,_,_=>none
 |fuel+1,f,c,a=>(if(decide (c<((b.length:Nat):Int)))=true then(gi b c).bind λ(d,i,e)=>(gi a d).bind λg=>(gi a e).bind λh=>(if(!(g == h))=true then(gi a d).bind λj=>(gi (a.set d.toNat true) e).bind λk=>(p5 b fuel true (i64.wrap (c+1)) ((a.set d.toNat true).set e.toNat true))else(p5 b fuel f (i64.wrap (c+1)) a))else some (f,a))
def w6(a:S0):Nat->Bool->(List Bool)->Option ((List Bool))
 |0,_,_=>none
 |fuel+1,c,b=>(if c=true then(p5 a P0 false 0 b).bind (λ(d,e)=>(w6 a fuel d e))else some (b))
def R01(c:z0)(b:Int):Option ((List Bool)):=match c with|(f,a,d)=>(grd ((0:Int)<=a/\a<=a/\a*1<=140737488355328/\a<=9223372036854775807)).bind λ_=>(gi (List.replicate a.toNat (false:Bool)) b).bind λg=>(w6 d P0 true ((List.replicate a.toNat (false:Bool)).set b.toNat true)).bind (λe=>some e)
def O9(c:Int):Nat->Int->(List Int)->Option ((List Int))
 |0,_,_=>none
 |fuel+1,a,b=>(if(decide (a<=c))=true then(grd ((b.length+([a,(i64.wrap (0-a))]).length)*8<=140737488355328)).bind λ_=>(O9 c fuel (i64.wrap (a+1)) (b ++ [a,(i64.wrap (0-a))]))else some (b))
def m01(a:Int):Option (H0):=(O9 a P0 1 ([]:H0)).bind (λb=>some b)
def b02(a:S0):Option (S0):=(grd ((([]:S0).length+a.length)*24<=140737488355328)).bind λ_=>(grd ((([]:S0)++a).length<4611686018427387904)).bind λ_=>some (z07 eqE (Z0a V0 (([]:S0)++a)))
def e01(b:S0)(a:(List Int)):Nat->Int->Int->Int->(List O0)->Option (Int×Int×(List O0))
 |0,_,_,_,_=>none
 |fuel+1,c,e,f,d=>(if(decide (c<((b.length:Nat):Int)))=true then(gi b c).bind λ(g,k,h)=>(gi a g).bind λi=>(chk (decide (i ≥ 0)) (gi a h) 0).bind λl=>(if(bif(decide (i ≥ 0))then(decide (l ≥ 0))else false)=true then(gi a g).bind λm=>(gi a h).bind λo=>(some [(m,k,o)]).bind λj=>(grd ((d.length+j.length)*24<=140737488355328)).bind λ_=>(e01 b a fuel (i64.wrap (c+1)) e f (d++j))else(e01 b a fuel (i64.wrap (c+1)) e f d))else some (e,f,d))
def c02(b:H0):Nat->Int->(List Int)->Option ((List Int))
 |0,_,_=>none
 |fuel+1,a,c=>(if(decide (a<((b.length:Nat):Int)))=true then(gi b a).bind λd=>(gi c d).bind λe=>(c02 b fuel (i64.wrap (a+1)) (c.set d.toNat a))else some (c))
def d02(c:Nat):Nat->Int->(List Int)->Option ((List Int))
 |0,_,_=>none
 |fuel+1,a,b=>(if(decide (a<((c:Nat):Int)))=true then(gi b a).bind λd=>(d02 c fuel (i64.wrap (a+1)) (b.set a.toNat (-1)))else some (b))
def J04(d:z0)(c:H0):Option (z0):=match d with|(e,a,f)=>(grd ((0:Int)<=a/\a<=a/\a*8<=140737488355328/\a<=9223372036854775807)).bind λ_=>(some (List.replicate a.toNat (0:Int)).length).bind λb=>(grd (b<=9223372036854775807)).bind λ_=>(d02 b P0 0 (List.replicate a.toNat (0:Int))).bind (λh=>(c02 c P0 0 h).bind (λi=>(e01 f i P0 0 e ((c.length:Nat):Int) ([]:S0)).bind (λ(j,k,l)=>(b02 l).bind λg=>some (j,k,g))))
def B8(a:H0):Option (H0):=(grd ((([]:H0).length+a.length)*8<=140737488355328)).bind λ_=>some (([]:H0)++a)
def l4(f:H0)(g:Int)(h:Int)(i:S0)(e:Int):Nat->Int->(List (Option H0))->(List Int)->Option ((List (Option H0))×(List Int))
 |0,_,_,_=>none
 |fuel+1,c,b,d=>(if(decide (c<((f.length:Nat):Int)))=true then(gi f c).bind λj=>(a9 (g,h,i) e j).bind λa=>(grd (F0 a)).bind λ_=>(chk (decide (a ≥ 0)) (gi b a) (none:Option H0)).bind λl=>(if(bif(decide (a ≥ 0))then l.isNone else false)=true then(gi b e).bind λm=>(B8 (m.getD [])).bind λk=>(grd ((k.length + [j].length)*8<=140737488355328)).bind λ_=>(gi b a).bind λo=>(grd ((d.length + [a].length)*8<=140737488355328)).bind λ_=>(l4 f g h i e fuel (i64.wrap (c+1)) (b.set a.toNat (some (k ++ [j]))) (d ++ [a]))else(l4 f g h i e fuel (i64.wrap (c+1)) b d))else some (b,d))
def D6(b:Int)(d:Int)(e:S0):Nat->Int->(List (Option H0))->(List Int)->Option ((List (Option H0))×(List Int))
 |0,_,_,_=>none
 |fuel+1,u8,f,a=>(some a.length).bind λc=>(grd (c<=9223372036854775807)).bind λ_=>(if(decide (u8<((c:Nat):Int)))=true then(gi a u8).bind λg=>(m01 b).bind λh=>(l4 h b d e g P0 0 f a).bind (λ(i,j)=>(D6 b d e fuel (i64.wrap (u8+1)) i j))else some (f,a))
def d9(c:z0)(b:Int):Option (H0×O1):=match c with|(d,a,e)=>(grd ((0:Int)<=a/\a<=a/\a*24<=140737488355328/\a<=9223372036854775807)).bind λ_=>(gi (List.replicate a.toNat (none:Option H0)) b).bind λh=>(D6 d a e P0 0 ((List.replicate a.toNat (none:Option H0)).set b.toNat (some ([]:H0))) [b]).bind (λ(f,g)=>some (g,(List.map (λo:Option H0=>o.getD ([]:H0)) f)))
def I00(d:z0):Option (H0):=match d with|(a,b,c)=>(A8 (a,b,c)).bind λe=>(if(!e)=true then some ([]:H0)else(d9 (a,b,c) 0).bind λ(f,g)=>some f)
def p9(d:z0):Option (z0):=match d with|(a,b,c)=>(A8 (a,b,c)).bind λe=>(if(!e)=true then(W4 (a,b,c)).bind λ(i,j,k)=>some (i,j,k)else(I00 (a,b,c)).bind λl=>(J04 (a,b,c) l).bind λ(f,g,h)=>some (f,g,h))
def t7(c:Int)(d:Int):Nat->Int->(List Int)->Option ((List Int))
 |0,_,_=>none
 |fuel+1,a,b=>(if(decide (a<c))=true then(if(!decide (a=d))=true then(grd ((b.length + [a].length)*8<=140737488355328)).bind λ_=>(t7 c d fuel (i64.wrap (a+1)) (b ++ [a]))else(t7 c d fuel (i64.wrap (a+1)) b))else some (b))
def l5(b:Int)(c:Int)(d:S0)(f:(List Bool)):Nat->Int->Int->Option (Int)
 |0,_,_=>none
 |fuel+1,e,a=>(if(bif(decide (a<b))then(decide (e=0))else false)=true then(d04 (c,b,d) a).bind λg=>(grd (F0 g)).bind λ_=>(chk (!(decide (g<2))) (gi f a) false).bind λh=>(if(bif(decide (g<2))then true else(!h))=true then(l5 b c d f fuel a (i64.wrap (a+1)))else(l5 b c d f fuel e (i64.wrap (a+1))))else some (e))
def w7:Nat->H0->Int->Int->S0->Option ((z0×H0) ⊕ (Int×Int×S0))
 |0,_,_,_,_=>none
 |fuel+1,b,c,a,d=>(R01 (c,a,d) 0).bind λk=>(l5 a c d k P0 0 1).bind (λe=>(if(decide (e=0))=true then some (.inl ((c,a,d),b))else(t7 a e P0 0 ([]:H0)).bind (λl=>(J04 (c,a,d) l).bind λ(h,i,j)=>(y07 b 0 e).bind λf=>(y07 b (i64.wrap (e+1)) (b.length:Int)).bind λg=>(grd ((f.length+g.length)*8<=140737488355328)).bind λ_=>(w7 fuel (f++g) h i j))))
def j8(c:Int):Nat->Int->(List Int)->Option ((List Int))
 |0,_,_=>none
 |fuel+1,a,b=>(if(decide (a<c))=true then(grd ((b.length + [a].length)*8<=140737488355328)).bind λ_=>(j8 c fuel (i64.wrap (a+1)) (b ++ [a]))else some (b))
def P9(h:z0):Option (z0×H0):=match h with|(b,a,c)=>(W4 (b,a,c)).bind λ(d,e,f)=>(E7 (b,a,c)).bind λi=>(if(!i)=true then some ((d,e,f),([]:H0))else(j8 a P0 0 ([]:H0)).bind (λj=>(w7 P0 j d e f).bind λg=>z9 g (λ_=>none)))
def G7(e:z0):Option (Bool):=match e with|(b,a,c)=>(A8 (b,a,c)).bind λf=>(if(!f)=true then some false else(P9 (b,a,c)).bind λ(h,o)=>match h with|(l,d,m)=>(chk (decide (d=a)) (p9 (b,a,c)) (0,0,[])).bind λ(i,j,k)=>(chk (decide (d=a)) (G9 (i,j,k) (b,a,c)) false).bind λg=>some (bif(decide (d=a))then g else false))
def K05(a:Int):Option (z0×Bool):=(O3 a 1 3).bind λb=>(if(!b)=true then some ((0,0,[]),false)else some ((a,1,[]),true))
def L6(a:H0)(d:Int):Nat->Int->Int->Int->Int->S0->Option (Int×Int×S0)
 |0,_,_,_,_,_=>none
 |fuel+1,g,b,e,c,f=>(if(decide (b<((a.length:Nat):Int)))=true then(if(decide ((i64.wrap (b+1))<((a.length:Nat):Int)))=true then(gi a b).bind λh=>(if(decide (h>0))=true then(gi a b).bind λi=>(E8 f (g,i,c)).bind λj=>(L6 a d fuel c (i64.wrap (b+1)) e (i64.wrap (c+1)) j)else(gi a b).bind λk=>(E8 f (c,(i64.wrap (0-k)),g)).bind λl=>(L6 a d fuel c (i64.wrap (b+1)) e (i64.wrap (c+1)) l))else(gi a b).bind λm=>(if(decide (m>0))=true then(gi a b).bind λo=>(E8 f (g,o,d)).bind λp=>(L6 a d fuel d (i64.wrap (b+1)) e c p)else(gi a b).bind λq=>(E8 f (d,(i64.wrap (0-q)),g)).bind λs=>(L6 a d fuel d (i64.wrap (b+1)) e c s)))else some (e,c,f))
def t02(m:z0)(g:Int)(b:H0)(h:Int):Option (z0×Bool):=match m with|(d,a,e)=>(V3 (d,a,e)).bind λ(i,j,k)=>(Z4 (d,a,e)).bind λc=>(chk (!(!c)) (O3 g 0 (i64.wrap (a-1))) false).bind λf=>(chk (!(bif(!c)then true else(!f))) (O3 h 0 (i64.wrap (a-1))) false).bind λl=>(chk (!(bif(bif(!c)then true else(!f))then true else(!l))) (w8 d b) false).bind λo=>(if(bif(bif(bif(bif(bif(bif(!c)then true else(!f))then true else(!l))then true else(!o))then true else(decide (((b.length:Nat):Int)=0)))then true else(decide ((i64.wrap ((i64.wrap (a+((b.length:Nat):Int)))-1))>40)))then true else(decide ((i64.wrap (((e.length:Nat):Int)+((b.length:Nat):Int)))>120)))=true then some ((i,j,k),false)else(L6 b h P0 g 0 i j k).bind (λ(p,q,s)=>some ((p,q,s),true)))
def L02(a:z0)(e:H0):Option (z0×Bool):=match a with|(b,c,d)=>(t02 (b,c,d) 0 e 0).bind λ(f,j)=>match f with|(g,h,i)=>some ((g,h,i),j)
def g9(a:O1):Nat->Int->Int->Int->S0->Option (Int×Int×S0)
 |0,_,_,_,_=>none
 |fuel+1,b,u8,d,c=>(if(decide (b<((a.length:Nat):Int)))=true then(gi a b).bind λe=>(L02 (u8,d,c) e).bind λ(f,j)=>match f with|(g,h,i)=>(g9 a fuel (i64.wrap (b+1)) g h i)else some (u8,d,c))
def e04(a:Int)(b:O1):Option (z0×Bool):=(K01 a b).bind λc=>(if(!c)=true then some ((0,0,[]),false)else(K05 a).bind λ(d,k)=>match d with|(e,f,g)=>(g9 b P0 0 e f g).bind (λ(h,i,j)=>some ((h,i,j),true)))
def I5(f:S0)(g:Int):Nat->Int->(List K7)->Option ((List K7))
 |0,_,_=>none
 |fuel+1,u8,e=>(if(decide (u8<((f.length:Nat):Int)))=true then(gi f g).bind λ(c,h,a)=>(gi f u8).bind λ(d,i,b)=>(if(bif(decide (h=i))then(decide (c=d))else false)=true then(grd ((e.length+([((if b<a then b else a),(if b>a then b else a))]).length)*16<=140737488355328)).bind λ_=>(if(bif(decide (h=i))then(decide (a=b))else false)=true then(grd (((e ++ [((if b<a then b else a),(if b>a then b else a))]).length+([((if d<c then d else c),(if d>c then d else c))]).length)*16<=140737488355328)).bind λ_=>(I5 f g fuel (i64.wrap (u8+1)) ((e ++ [((if b<a then b else a),(if b>a then b else a))]) ++ [((if d<c then d else c),(if d>c then d else c))]))else(I5 f g fuel (i64.wrap (u8+1)) (e ++ [((if b<a then b else a),(if b>a then b else a))])))else(if(bif(decide (h=i))then(decide (a=b))else false)=true then(grd ((e.length+([((if d<c then d else c),(if d>c then d else c))]).length)*16<=140737488355328)).bind λ_=>(I5 f g fuel (i64.wrap (u8+1)) (e ++ [((if d<c then d else c),(if d>c then d else c))]))else(I5 f g fuel (i64.wrap (u8+1)) e)))else some (e))
def Q9(b:S0):Nat->Int->(List K7)->Option ((List K7))
 |0,_,_=>none
 |fuel+1,a,c=>(if(decide (a<((b.length:Nat):Int)))=true then(I5 b a P0 (i64.wrap (a+1)) c).bind (λd=>(Q9 b fuel (i64.wrap (a+1)) d))else some (c))
def L04(a:z0):Option (Y01):=match a with|(d,e,b)=>(Q9 b P0 0 ([]:Y01)).bind (λc=>some c)
def j02(e:z0):Option (K7×Bool):=match e with|(a,b,c)=>(Z4 (a,b,c)).bind λf=>(if(!f)=true then some ((0,0),false)else(L04 (a,b,c)).bind λd=>(if(decide (((d.length:Nat):Int)=0))=true then some ((0,0),false)else(gi d 0).bind λ(g,h)=>some ((g,h),true)))
def f05(a:Int)(d:K7):Option (Int):=match d with|(b,c)=>(if(decide (a=c))=true then(if(decide (b>c))=true then some (i64.wrap (b-1))else some b)else(if(decide (a>c))=true then some (i64.wrap (a-1))else some a))
def N5(a:S0)(b:Int)(c:Int):Nat->Int->Int->Int->S0->Option (Int×Int×S0)
 |0,_,_,_,_=>none
 |fuel+1,d,u8,f,e=>(if(decide (d<((a.length:Nat):Int)))=true then(gi a d).bind λ(i,j,k)=>(f05 i (b,c)).bind λg=>(grd (F0 g)).bind λm=>(f05 k (b,c)).bind λh=>(grd (F0 h)).bind λo=>(E8 e (g,j,h)).bind λl=>(N5 a b c fuel (i64.wrap (d+1)) u8 f l)else some (u8,f,e))
def R9(f:z0)(g:K7):Option (z0×Bool):=match f with|(b,a,c)=>match g with|(d,e)=>(Z4 (b,a,c)).bind λh=>(if(bif(bif(bif(!h)then true else(decide (d<0)))then true else(decide (d ≥ e)))then true else(decide (e ≥ a)))=true then(V3 (b,a,c)).bind λ(i,j,k)=>some ((i,j,k),false)else(N5 c d e P0 0 b (i64.wrap (a-1)) ([]:S0)).bind (λ(l,m,o)=>some ((l,m,o),true)))
def f04(f:z0):Option (z0×K7×Bool):=match f with|(a,b,c)=>(j02 (a,b,c)).bind λ(g,h)=>match g with|(d,e)=>(if(!h)=true then(V3 (a,b,c)).bind λ(i,j,k)=>some ((i,j,k),(0,0),false)else(R9 (a,b,c) (d,e)).bind λ(l,q)=>match l with|(m,o,p)=>some ((m,o,p),(d,e),true))
def G8:Nat->Int->Int->Int->S0->(List K7)->Option ((z0×Y01) ⊕ (Int×Int×S0×(List K7)))
 |0,_,_,_,_,_=>none
 |fuel+1,d,b,c,u8,a=>(if(decide (d<40))=true then(f04 (b,c,u8)).bind λ(g,k,l)=>match g with|(h,i,j)=>match k with|(e,f)=>(if(!l)=true then some (.inl ((b,c,u8),a))else(grd ((a.length+([(e,f)]).length)*16<=140737488355328)).bind λ_=>(G8 fuel (i64.wrap (d+1)) h i j (a ++ [(e,f)])))else some (.inr (b,c,u8,a)))
def M04(b:z0):Option (z0×Y01):=match b with|(c,d,e)=>(V3 (c,d,e)).bind λ(f,g,h)=>(G8 P0 0 f g h ([]:Y01)).bind λa=>z9 a (λ(i,j,k,l)=>some ((i,j,k),l))
def k02(f:z0):Option (z0×Bool):=match f with|(b,a,c)=>(V3 (b,a,c)).bind λ(d,g,e)=>(Z4 (b,a,c)).bind λh=>(if(bif(!h)then true else(decide (a ≥ 40)))=true then some ((d,g,e),false)else some ((d,(i64.wrap (a+1)),e),true))
def L4(c:H0)(e:Int)(f:Int)(g:S0)(b:Int):Nat->Int->(List O0)->Option ((List O0))
 |0,_,_=>none
 |fuel+1,a,d=>(if(decide (a<((c.length:Nat):Int)))=true then(gi c a).bind λj=>(j4 (e,f,g) b j).bind λh=>(grd (F0 h)).bind λ_=>(if(decide (h<0))=true then(gi c a).bind λi=>(grd ((d.length+([(b,i,(-1))]).length)*24<=140737488355328)).bind λ_=>(L4 c e f g b fuel (i64.wrap (a+1)) (d ++ [(b,i,(-1))]))else(L4 c e f g b fuel (i64.wrap (a+1)) d))else some (d))
def A6(a:Int)(b:Int)(d:S0):Nat->Int->(List O0)->Option ((List O0))
 |0,_,_=>none
 |fuel+1,c,e=>(chk (decide (c<a)) (N4 (b,a,d)) false).bind λf=>(if(bif(decide (c<a))then f else false)=true then(F8 b).bind λg=>(L4 g b a d c P0 0 e).bind (λh=>(A6 a b d fuel (i64.wrap (c+1)) h))else some (e))
def u00(a:z0):Option (S0):=match a with|(b,c,d)=>(A6 c b d P0 0 ([]:S0)).bind (λe=>some e)
def N04(b:Int)(a:Int)(c:Int):Option (O0):=(if(decide (a<0))=true then some (c,(i64.wrap (0-a)),b)else some (b,a,c))
def L2(b:S0)(c:Int)(d:Int)(e:Int):Nat->Int->Option ((Int) ⊕ (Unit))
 |0,_=>none
 |fuel+1,a=>(if(decide (a<((b.length:Nat):Int)))=true then(gi b a).bind λ(f,g,h)=>(if(eqE (c,d,e) (f,g,h))=true then some (.inl a)else(L2 b c d e fuel (i64.wrap (a+1))))else some (.inr ()))
def r6(b:S0)(c:O0):Option (Int):=match c with|(d,e,f)=>(L2 b d e f P0 0).bind λa=>z9 a (λ_=>some (-1))
def i4(b:S0)(c:O0):Option (Bool):=match c with|(d,e,f)=>(r6 b (d,e,f)).bind λa=>(grd (F0 a)).bind λ_=>some (decide (a ≥ 0))
def H8(a:Int)(c:K7):Option (Int):=match c with|(d,b)=>(if(decide (a=b))=true then some d else(if(decide (a>b))=true then some (i64.wrap (a-1))else some a))
def I8(a:H0)(e:Int):Nat->Int->Int->Int->Int->S0->Option (Int×Int×S0)
 |0,_,_,_,_,_=>none
 |fuel+1,g,b,f,c,d=>(if(decide (b<((a.length:Nat):Int)))=true then(gi a b).bind λh=>(if(decide (b<(i64.wrap (((a.length:Nat):Int)-1))))=true then(N04 g h c).bind λ(k,l,m)=>(some [(k,l,m)]).bind λi=>(grd ((d.length+i.length)*24<=140737488355328)).bind λ_=>(I8 a e fuel c (i64.wrap (b+1)) f (i64.wrap (c+1)) (d++i))else(N04 g h e).bind λ(o,p,q)=>(some [(o,p,q)]).bind λj=>(grd ((d.length+j.length)*24<=140737488355328)).bind λ_=>(I8 a e fuel e (i64.wrap (b+1)) f c (d++j)))else some (f,c,d))
def y03(m:z0)(g:Int)(a:H0)(h:Int):Option (z0×Bool):=match m with|(b,c,d)=>(W4 (b,c,d)).bind λ(i,j,k)=>(E7 (b,c,d)).bind λe=>(chk (!(!e)) (H5 (b,c,d) g) false).bind λf=>(chk (!(bif(!e)then true else(!f))) (H5 (b,c,d) h) false).bind λl=>(chk (!(bif(bif(bif(!e)then true else(!f))then true else(!l))then true else(decide (((a.length:Nat):Int)=0)))) (a01 b a) false).bind λp=>(if(bif(bif(bif(bif(bif(bif(!e)then true else(!f))then true else(!l))then true else(decide (((a.length:Nat):Int)=0)))then true else(!p))then true else(decide ((i64.wrap ((i64.wrap (c+((a.length:Nat):Int)))-1))>40)))then true else(decide ((i64.wrap (((d.length:Nat):Int)+((a.length:Nat):Int)))>120)))=true then some ((i,j,k),false)else(I8 a h P0 g 0 i j k).bind (λ(q,s,t)=>(b02 t).bind λo=>some ((q,s,o),true)))
def L05(a:Int):Option (z0×Bool):=(K4 a 1 3).bind λb=>(if(!b)=true then some ((0,0,[]),false)else some ((a,1,[]),true))
def g04(a:z0)(e:H0):Option (z0×Bool):=match a with|(b,c,d)=>(y03 (b,c,d) 0 e 0).bind λ(f,j)=>match f with|(g,h,i)=>some ((g,h,i),j)
def T7(a:O1):Nat->Int->Int->Int->S0->Option (Int×Int×S0)
 |0,_,_,_,_=>none
 |fuel+1,u8,d,b,c=>(if(decide (u8<((a.length:Nat):Int)))=true then(gi a u8).bind λe=>(if(decide (((e.length:Nat):Int)>0))=true then(g04 (d,b,c) e).bind λ(f,j)=>match f with|(g,h,i)=>(T7 a fuel (i64.wrap (u8+1)) g h i)else(T7 a fuel (i64.wrap (u8+1)) d b c))else some (d,b,c))
def h04(a:Int)(b:O1):Option (z0×Bool):=(L01 a b).bind λc=>(if(!c)=true then some ((0,0,[]),false)else(L05 a).bind λ(d,k)=>match d with|(e,f,g)=>(T7 b P0 0 e f g).bind (λ(h,i,j)=>some ((h,i,j),true)))
def M6(g:S0)(h:Int)(b:Int)(a:Int):Nat->Int->(List K7)->Option ((List K7))
 |0,_,_=>none
 |fuel+1,f,e=>(if(decide (f<((g.length:Nat):Int)))=true then(gi g f).bind λ(d,i,c)=>(if(!decide (h=i))=true then(M6 g h b a fuel (i64.wrap (f+1)) e)else(if(decide (b=d))=true then(grd ((e.length+([((if c<a then c else a),(if c>a then c else a))]).length)*16<=140737488355328)).bind λ_=>(if(decide (a=c))=true then(grd (((e ++ [((if c<a then c else a),(if c>a then c else a))]).length+([((if d<b then d else b),(if d>b then d else b))]).length)*16<=140737488355328)).bind λ_=>(M6 g h b a fuel (i64.wrap (f+1)) ((e ++ [((if c<a then c else a),(if c>a then c else a))]) ++ [((if d<b then d else b),(if d>b then d else b))]))else(M6 g h b a fuel (i64.wrap (f+1)) (e ++ [((if c<a then c else a),(if c>a then c else a))])))else(if(decide (a=c))=true then(grd ((e.length+([((if d<b then d else b),(if d>b then d else b))]).length)*16<=140737488355328)).bind λ_=>(M6 g h b a fuel (i64.wrap (f+1)) (e ++ [((if d<b then d else b),(if d>b then d else b))]))else(M6 g h b a fuel (i64.wrap (f+1)) e))))else some (e))
def r01(a:S0):Nat->Int->(List K7)->Option ((List K7))
 |0,_,_=>none
 |fuel+1,b,c=>(if(decide (b<((a.length:Nat):Int)))=true then(gi a b).bind λ(d,e,f)=>(y07 a (i64.wrap (b+1)) (a.length:Int)).bind λg=>(M6 g e d f P0 0 c).bind (λh=>(r01 a fuel (i64.wrap (b+1)) h))else some (c))
def B06(a:z0):Option (Y01):=match a with|(d,e,b)=>(r01 b P0 0 ([]:Y01)).bind (λc=>some c)
def l02(e:z0):Option (K7×Bool):=match e with|(a,b,c)=>(E7 (a,b,c)).bind λf=>(if(!f)=true then some ((0,0),false)else(B06 (a,b,c)).bind λd=>(if(decide (((d.length:Nat):Int)=0))=true then some ((0,0),false)else(gi d 0).bind λ(g,h)=>some ((g,h),true)))
def O5(f:S0)(c:Int)(d:Int):Nat->Int->S0->Option (S0)
 |0,_,_=>none
 |fuel+1,a,b=>(if(decide (a<((f.length:Nat):Int)))=true then(gi b a).bind λ(h,i,j)=>(H8 h (c,d)).bind λe=>(grd (F0 e)).bind λk=>(H8 j (c,d)).bind λg=>(grd (F0 g)).bind λl=>(gi b a).bind λ(m,o,p)=>(O5 f c d fuel (i64.wrap (a+1)) (b.set a.toNat (e,i,g)))else some (b))
def S9(i:z0)(j:K7):Option (z0×Bool):=match i with|(e,a,f)=>match j with|(b,c)=>(W4 (e,a,f)).bind λ(g,h,d)=>(E7 (e,a,f)).bind λl=>(if(bif(bif(bif(!l)then true else(decide (b<0)))then true else(decide (b ≥ c)))then true else(decide (c ≥ a)))=true then some ((g,h,d),false)else(O5 d b c P0 0 d).bind (λm=>(b02 m).bind λk=>some ((g,(i64.wrap (h-1)),k),true)))
def i04(f:z0):Option (z0×K7×Bool):=match f with|(a,b,c)=>(l02 (a,b,c)).bind λ(g,h)=>match g with|(d,e)=>(if(!h)=true then(W4 (a,b,c)).bind λ(i,j,k)=>some ((i,j,k),(0,0),false)else(S9 (a,b,c) (d,e)).bind λ(l,q)=>match l with|(m,o,p)=>some ((m,o,p),(d,e),true))
def T9:Nat->Int->Int->S0->(List K7)->Option ((z0×Y01) ⊕ (Int×Int×S0×(List K7)))
 |0,_,_,_,_=>none
 |fuel+1,b,c,u8,a=>(i04 (b,c,u8)).bind λ(f,j,k)=>match f with|(g,h,i)=>match j with|(d,e)=>(if(!k)=true then some (.inl ((b,c,u8),a))else(grd ((a.length+([(d,e)]).length)*16<=140737488355328)).bind λ_=>(T9 fuel g h i (a ++ [(d,e)])))
def O04(b:z0):Option (z0×Y01):=match b with|(c,d,e)=>(W4 (c,d,e)).bind λ(f,g,h)=>(T9 P0 f g h ([]:Y01)).bind λa=>z9 a (λ_=>none)
def z03(g:z0):Option (z0×Bool):=match g with|(b,a,c)=>(W4 (b,a,c)).bind λ(d,e,f)=>(E7 (b,a,c)).bind λh=>(if(bif(!h)then true else(decide (a=40)))=true then some ((d,e,f),false)else some ((d,(i64.wrap (e+1)),f),true))
def M4(c:H0)(d:Int)(e:Int)(f:S0)(u8:Int):Nat->Int->(List O0)->Option ((List O0))
 |0,_,_=>none
 |fuel+1,a,b=>(if(decide (a<((c.length:Nat):Int)))=true then(gi c a).bind λg=>(a9 (d,e,f) u8 g).bind λh=>(grd (F0 h)).bind λ_=>(if(decide (h<0))=true then(grd ((b.length+([(u8,g,(-1))]).length)*24<=140737488355328)).bind λ_=>(M4 c d e f u8 fuel (i64.wrap (a+1)) (b ++ [(u8,g,(-1))]))else(M4 c d e f u8 fuel (i64.wrap (a+1)) b))else some (b))
def B6(b:Int)(a:Int)(c:S0):Nat->Int->(List O0)->Option ((List O0))
 |0,_,_=>none
 |fuel+1,u8,d=>(if(decide (u8<b))=true then(m01 a).bind λe=>(M4 e a b c u8 P0 0 d).bind (λf=>(B6 b a c fuel (i64.wrap (u8+1)) f))else some (d))
def v00(d:z0):Option (S0):=match d with|(a,b,c)=>(A8 (a,b,c)).bind λe=>(if(!e)=true then some ([]:S0)else(B6 b a c P0 0 ([]:S0)).bind (λf=>some f))
def z7(e:Int)(f:Int)(d:H0):Nat->Int->(List Int)->(List Int)->Option ((List Int)×(List Int))
 |0,_,_,_=>none
 |fuel+1,a,b,c=>(if(decide (a<e))=true then(if(!decide (a=f))=true then(grd ((b.length + [a].length)*8<=140737488355328)).bind λ_=>(gi d a).bind λg=>(grd ((c.length + [g].length)*8<=140737488355328)).bind λ_=>(z7 e f d fuel (i64.wrap (a+1)) (b ++ [a]) (c ++ [g]))else(z7 e f d fuel (i64.wrap (a+1)) b c))else some (b,c))
def l8(g:Int)(h:Int)(i:S0):Nat->H0->Int->Int->Int->S0->Option ((z0×H0) ⊕ (H0×Int×Int×S0))
 |0,_,_,_,_,_=>none
 |fuel+1,d,e,b,a,c=>(chk (decide (e<40)) (Z4 (g,h,i)) false).bind λj=>(if(bif(decide (e<40))then j else false)=true then(s04 (b,a,c)).bind λf=>(grd (F0 f)).bind λ_=>(if(decide (f<0))=true then some (.inl ((b,a,c),d))else(z7 a f d P0 0 ([]:H0) ([]:H0)).bind (λ(p,q)=>(g8 (b,a,c) p).bind λ(k,s)=>match k with|(l,m,o)=>(l8 g h i fuel q (i64.wrap (e+1)) l m o)))else some (.inr (d,b,a,c)))
def n8(b:Int)(d:Int)(e:S0):Nat->Int->(List Int)->Option ((List Int))
 |0,_,_=>none
 |fuel+1,a,c=>(chk (decide (a<b)) (Z4 (d,b,e)) false).bind λf=>(if(bif(decide (a<b))then f else false)=true then(grd ((c.length + [a].length)*8<=140737488355328)).bind λ_=>(n8 b d e fuel (i64.wrap (a+1)) (c ++ [a]))else some (c))
def B03(e:z0):Option (z0×H0):=match e with|(a,b,c)=>(V3 (a,b,c)).bind λ(f,g,h)=>(n8 b a c P0 0 ([]:H0)).bind (λm=>(l8 a b c P0 m 0 f g h).bind λd=>z9 d (λ(i,j,k,l)=>some ((j,k,l),i)))
def H7(a:z0):Option (z0):=match a with|(b,c,d)=>(M04 (b,c,d)).bind λ(e,q)=>match e with|(f,g,h)=>(B03 (f,g,h)).bind λ(i,s)=>match i with|(j,k,l)=>(o9 (j,k,l)).bind λ(m,o,p)=>some (m,o,p)
def U9(a:z0):Option (z0):=match a with|(b,c,d)=>(O04 (b,c,d)).bind λ(e,q)=>match e with|(f,g,h)=>(P9 (f,g,h)).bind λ(i,s)=>match i with|(j,k,l)=>(p9 (j,k,l)).bind λ(m,o,p)=>some (m,o,p)
def B9(e:z0)(f:H0):Option (Bool):=match e with|(a,b,c)=>(I3 f).bind λg=>(M01 (a,b,c) 0 g).bind λ(d,i)=>(grd (F0 d)).bind λj=>(U2 (a,b,c)).bind λh=>some (bif(bif h then i else false)then(decide (d=0))else false)
def R00(d:z0)(a:H0):Option (Bool):=match d with|(e,f,g)=>(D01 (e,f,g) 0 a).bind λ(b,c)=>(grd (F0 b)).bind λ_=>(grd (F0 c)).bind λ_=>some (bif(decide (c=((a.length:Nat):Int)))then(decide (b=0))else false)
def V9(a:H0):Option (H0):=(i01 [a]).bind λb=>some b
def o8(d:H0)(o:O1)(e:Int)(f:Int)(g:S0):Nat->Int->(List O0)->Option ((List O0))
 |0,_,_=>none
 |fuel+1,a,b=>(if(decide (a<((d.length:Nat):Int)))=true then(gi d a).bind λc=>(gi o c).bind λh=>(gi h (i64.wrap (((h.length:Nat):Int)-1))).bind λi=>(a9 (e,f,g) c (i64.wrap (0-i))).bind λj=>(grd (F0 j)).bind λ_=>(N04 j i c).bind λ(k,l,m)=>(grd ((b.length+([(k,l,m)]).length)*24<=140737488355328)).bind λ_=>(o8 d o e f g fuel (i64.wrap (a+1)) (b ++ [(k,l,m)]))else some (b))
def C03(e:z0):Option (S0):=match e with|(a,b,c)=>(d9 (a,b,c) 0).bind λ(d,f)=>(y07 d 1 (d.length:Int)).bind λh=>(o8 h f a b c P0 0 ([]:S0)).bind (λi=>(b02 i).bind λg=>some g)
def E6(a:S0)(g:S0):Nat->Int->(List O0)->Option ((List O0))
 |0,_,_=>none
 |fuel+1,b,c=>(if(decide (b<((a.length:Nat):Int)))=true then(gi a b).bind λ(d,e,f)=>(i4 g (d,e,f)).bind λh=>(if(!h)=true then(grd ((c.length+([(d,e,f)]).length)*24<=140737488355328)).bind λ_=>(E6 a g fuel (i64.wrap (b+1)) (c ++ [(d,e,f)]))else(E6 a g fuel (i64.wrap (b+1)) c))else some (c))
def b03(d:z0):Option (S0):=match d with|(b,c,a)=>(A8 (b,c,a)).bind λe=>(if(!e)=true then some ([]:S0)else(C03 (b,c,a)).bind λf=>(E6 a f P0 0 ([]:S0)).bind (λg=>some g))
def W9(c:S0)(d:O1):Nat->Int->(List H0)->Option ((List H0))
 |0,_,_=>none
 |fuel+1,a,b=>(if(decide (a<((c.length:Nat):Int)))=true then(gi c a).bind λ(f,g,h)=>(gi d f).bind λi=>(some [g]).bind λj=>(gi d h).bind λk=>(g00 k).bind λl=>(some [i,j,l]).bind λm=>(i01 m).bind λo=>(some [o]).bind λe=>(grd ((b.length+e.length)*24<=140737488355328)).bind λ_=>(W9 c d fuel (i64.wrap (a+1)) (b++e))else some (b))
def Q04(d:z0):Option (O1):=match d with|(a,b,c)=>(G7 (a,b,c)).bind λe=>(if(!e)=true then some ([]:O1)else(d9 (a,b,c) 0).bind λ(i,g)=>(b03 (a,b,c)).bind λf=>(W9 f g P0 0 ([]:O1)).bind (λh=>some h))
def l7(a:O1)(c:Int)(d:Int)(e:S0):Nat->Int->Option ((Bool) ⊕ (Unit))
 |0,_=>none
 |fuel+1,b=>(if(decide (b<((a.length:Nat):Int)))=true then(gi a b).bind λg=>(V9 g).bind λh=>(R00 (c,d,e) h).bind λf=>(if(!f)=true then some (.inl false)else(l7 a c d e fuel (i64.wrap (b+1))))else some (.inr ()))
def S00(e:z0)(f:O1):Option (Bool):=match e with|(a,b,c)=>(G7 (a,b,c)).bind λg=>(if(!g)=true then some false else(l7 f a b c P0 0).bind λd=>z9 d (λ_=>some true))
def t01(f:z0):Option (Bool):=match f with|(a,b,c)=>(U2 (a,b,c)).bind λd=>(chk d (u00 (a,b,c)) []).bind λe=>(grd (e.length<=9223372036854775807)).bind λg=>some (bif d then(decide (((e.length:Nat):Int)=0))else false)
def P5(c:Int)(d:Int):Nat->Int->(List Int)->Option ((List Int))
 |0,_,_=>none
 |fuel+1,a,b=>(if(decide (a<c))=true then(if(!decide (a=d))=true then(grd ((b.length + [a].length)*8<=140737488355328)).bind λ_=>(P5 c d fuel (i64.wrap (a+1)) (b ++ [a]))else(P5 c d fuel (i64.wrap (a+1)) b))else some (b))
def D9(f:z0)(d:Int):Option (z0×Bool):=match f with|(b,a,c)=>(N4 (b,a,c)).bind λe=>(chk (!(!e)) (O3 d 0 (i64.wrap (a-1))) false).bind λg=>(if(bif(!e)then true else(!g))=true then(V3 (b,a,c)).bind λ(p,q,s)=>some ((p,q,s),false)else(P5 a d P0 0 [d]).bind (λt=>(g8 (b,a,c) t).bind λ(h,u)=>match h with|(i,j,k)=>(H7 (i,j,k)).bind λ(l,m,o)=>some ((l,m,o),true)))
end Go.Proofs.YtcpjomkcdlggaaaGreat
