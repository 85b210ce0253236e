/- Texts of the claim, joined: What functions of the program compute, in plain words: batch and others. -/
import Derived.Test.YtmgikbbmpnbbjaaGreatPart19
import Derived.Test.YtmgikbbmpnbbjaaGreatH36
import Derived.Test.YtmgikbbmpnbbjaaGreatH35
namespace Go.Proofs.YtmgikbbmpnbbjaaGreat
open Go.H
set_option linter.unusedVariables false
set_option linter.unusedSimpArgs false
set_option maxRecDepth 10000
def E2(a:Int)(b:Int)(c:Int):Option (Bool):=some (bif(decide (a ≥ b))then(decide (a<=c))else false)
def Y8(b:D0)(d:Int):Nat->Int->Option ((Bool) ⊕ (Unit))
 |0,_=>none
 |fuel+1,a=>(if(decide (a<((b.length:Nat):Int)))=true then(gi b a).bind λc=>(chk (!(decide (c=0))) (gi b a) 0).bind λg=>(chk (!(decide (c=0))) (E2 g (IntKind.i64.wrap (0-d)) d) false).bind λe=>(chk ((decide (a>0))&&(!(bif(decide (c=0))then true else(!e)))) (gi b a) 0).bind λh=>(chk ((decide (a>0))&&(!(bif(decide (c=0))then true else(!e)))) (gi b (IntKind.i64.wrap (a-1))) 0).bind λf=>(if(bif(bif(decide (c=0))then true else(!e))then true else(bif(decide (a>0))then(decide (h=(IntKind.i64.wrap (0-f))))else false))=true then some (.inl false)else(Y8 b d fuel (IntKind.i64.wrap (a+1))))else some (.inr ()))
def q01(a:Int)(b:D0):Option (Bool):=(Y8 b a P0 0).bind λc=>d9 c (λ_=>(E2 a 1 3).bind λd=>some (bif d then(decide (((b.length:Nat):Int)<=24))else false))
def I5(a:N1):Nat->Int->Int->Option (Int)
 |0,_,_=>none
 |fuel+1,c,b=>(if(decide (b<((a.length:Nat):Int)))=true then(gi a b).bind λd=>(I5 a fuel (IntKind.i64.wrap (c+((d.length:Nat):Int))) (IntKind.i64.wrap (b+1)))else some (c))
def F00(a:N1):Option (Int):=(I5 a P0 0 0).bind (λb=>some b)
def r7(a:N1)(c:Int):Nat->Int->Option ((Bool) ⊕ (Unit))
 |0,_=>none
 |fuel+1,b=>(if(decide (b<((a.length:Nat):Int)))=true then(gi a b).bind λd=>(q01 c d).bind λe=>(if(!e)=true then some (.inl false)else(r7 a c fuel (IntKind.i64.wrap (b+1))))else some (.inr ()))
def i02(b:Int)(a:N1):Option (Bool):=(r7 a b P0 0).bind λe=>d9 e (λ_=>(E2 b 1 3).bind λc=>(chk (bif c then(decide (((a.length:Nat):Int)<=6))else false) (F00 a) 0).bind λd=>(grd (I0 d)).bind λ_=>some (bif(bif c then(decide (((a.length:Nat):Int)<=6))else false)then(decide (d<40))else false))
def B5(a:Int)(b:Int)(c:Int):Option (Bool):=some (bif(decide (a ≥ b))then(decide (a<=c))else false)
def b01(a:Int)(b:Int):Option (Bool):=some (bif(bif(!decide (a=0))then(!decide (a=(-9223372036854775808)))else false)then(decide (b=(IntKind.i64.wrap (0-a))))else false)
def Q7(a:Int)(b:Int):Option (Int):=(if(decide (a<b))=true then some (-1)else(if(decide (a>b))=true then some 1 else some 0))
def H4(c:D0):Nat->Int->(List Int)->Option ((List Int))
 |0,_,_=>none
 |fuel+1,a,b=>(if(decide (a ≥ 0))=true then(gi c a).bind λd=>(grd ((b.length+([(IntKind.i64.wrap (0-d))]).length)*8<=140737488355328)).bind λ_=>(H4 c fuel (IntKind.i64.wrap (a-1)) (b ++ [(IntKind.i64.wrap (0-d))]))else some (b))
def a00(a:D0):Option (D0):=(H4 a P0 (IntKind.i64.wrap (((a.length:Nat):Int)-1)) ([]:D0)).bind (λb=>some b)
def M2(c:D0):Nat->Int->(List Int)->Option ((List Int))
 |0,_,_=>none
 |fuel+1,d,b=>(if(decide (d<((c.length:Nat):Int)))=true then(some b.length).bind λa=>(grd (a<=9223372036854775807)).bind λ_=>(chk (decide (((a:Nat):Int)>0)) (gi c d) 0).bind λe=>(chk (bif(decide (((a:Nat):Int)>0))then(!decide (e=0))else false) (gi b (IntKind.i64.wrap (((a:Nat):Int)-1))) 0).bind λf=>(chk (bif(decide (((a:Nat):Int)>0))then(!decide (e=0))else false) (gi c d) 0).bind λg=>(chk (bif(bif(decide (((a:Nat):Int)>0))then(!decide (e=0))else false)then(decide (f=(IntKind.i64.wrap (0-g))))else false) (gi b (IntKind.i64.wrap (((a:Nat):Int)-1))) 0).bind λi=>(chk (bif(bif(decide (((a:Nat):Int)>0))then(!decide (e=0))else false)then(decide (f=(IntKind.i64.wrap (0-g))))else false) (gi c d) 0).bind λj=>(if(bif(bif(bif(decide (((a:Nat):Int)>0))then(!decide (e=0))else false)then(decide (f=(IntKind.i64.wrap (0-g))))else false)then(!decide (i=j))else false)=true then(grd (0<=(IntKind.i64.wrap (((a:Nat):Int)-1))/\(IntKind.i64.wrap (((a:Nat):Int)-1))<=(b.length:Int))).bind λ_=>(M2 c fuel (IntKind.i64.wrap (d+1)) (b.take (IntKind.i64.wrap (((a:Nat):Int)-1)).toNat))else(gi c d).bind λh=>(grd ((b.length + [h].length)*8<=140737488355328)).bind λ_=>(M2 c fuel (IntKind.i64.wrap (d+1)) (b ++ [h])))else some (b))
def L4(b:D0):Option (D0):=(M2 b P0 0 ([]:D0)).bind (λa=>(grd ((([]:D0).length+a.length)*8<=140737488355328)).bind λ_=>some (([]:D0)++a))
def W7(a:D0)(b:D0):Option (D0):=(grd ((([]:D0).length+a.length)*8<=140737488355328)).bind λ_=>(grd (((([]:D0)++a).length+b.length)*8<=140737488355328)).bind λ_=>(L4 ((([]:D0)++a)++b)).bind λc=>some c
def n7(c:D0):Nat->Int->(List Int)->Option ((List Int))
 |0,_,_=>none
 |fuel+1,a,b=>(if(decide (a ≥ 0))=true then(gi c a).bind λd=>(grd ((b.length+([(IntKind.i64.wrap (0-d))]).length)*8<=140737488355328)).bind λ_=>(n7 c fuel (IntKind.i64.wrap (a-1)) (b ++ [(IntKind.i64.wrap (0-d))]))else some (b))
def c01(a:D0):Option (D0):=(grd ((0:Int)<=0/\0<=((a.length:Nat):Int)/\((a.length:Nat):Int)*8<=140737488355328/\((a.length:Nat):Int)<=9223372036854775807)).bind λ_=>(n7 a P0 (IntKind.i64.wrap (((a.length:Nat):Int)-1)) (List.replicate (0:Int).toNat (0:Int))).bind (λb=>some b)
def P6(e:D0):Nat->Int->(List Int)->Option ((List Int))
 |0,_,_=>none
 |fuel+1,d,a=>(if(decide (d<((e.length:Nat):Int)))=true then(gi e d).bind λf=>(some a.length).bind λb=>(grd (b<=9223372036854775807)).bind λ_=>(some a.length).bind λg=>(grd (g<=9223372036854775807)).bind λ_=>(chk (decide (((b:Nat):Int)>0)) (gi a (IntKind.i64.wrap (((g:Nat):Int)-1))) 0).bind λh=>(chk (decide (((b:Nat):Int)>0)) (b01 h f) false).bind λi=>(if(bif(decide (((b:Nat):Int)>0))then i else false)=true then(some a.length).bind λc=>(grd (c<=9223372036854775807)).bind λ_=>(grd (0<=(IntKind.i64.wrap (((c:Nat):Int)-1))/\(IntKind.i64.wrap (((c:Nat):Int)-1))<=(a.length:Int))).bind λ_=>(P6 e fuel (IntKind.i64.wrap (d+1)) (a.take (IntKind.i64.wrap (((c:Nat):Int)-1)).toNat))else(grd ((a.length + [f].length)*8<=140737488355328)).bind λ_=>(P6 e fuel (IntKind.i64.wrap (d+1)) (a ++ [f])))else some (a))
def Y7(a:N1):Nat->Int->(List Int)->Option ((List Int))
 |0,_,_=>none
 |fuel+1,b,c=>(if(decide (b<((a.length:Nat):Int)))=true then(gi a b).bind λd=>(P6 d P0 0 c).bind (λe=>(Y7 a fuel (IntKind.i64.wrap (b+1)) e))else some (c))
def I02(a:N1):Option (D0):=(Y7 a P0 0 ([]:D0)).bind (λb=>some b)
def i0m(a b:Int):Int:=IntKind.i64.wrap ((BitVec.ofInt 64 a &&& BitVec.ofInt 64 b).toNat:Int)
def x0t(a b:Int):Int:=IntKind.i64.wrap ((BitVec.ofInt 64 a ^^^ BitVec.ofInt 64 b).toNat:Int)
def O9(b:List Int):Nat->Int->Int->Option Int
 |0,_,_=>none
 |fuel+1,c,a=>if(bif decide (a<((b.length:Nat):Int))then decide (a<4000)else false)=true then(gi b a).bind λx=>O9 b fuel (i0m (IntKind.i64.wrap (IntKind.i64.wrap (IntKind.i64.wrap (c*131)+IntKind.i64.wrap x)+7)) 1073741823) (IntKind.i64.wrap (a+1))else some c
def d01(a:List Int):Option (Int×Int):=(O9 a P0 (IntKind.i64.wrap (10101+((a.length:Nat):Int))) 0).bind λy=>some (0,y)
def nxt(q:Int):Int:=IntKind.i64.wrap (IntKind.i64.wrap (q*6364136223846793005)+1442695040888963407)
def drw(q:Int):Int:=i0m (x0t (Int.fdiv q (2 ^ min (33:Int).toNat 64)) (Int.fdiv q (2 ^ min (45:Int).toNat 64))) 255
def H9(a:List Int)(q:Int×Int):Option (Int×(Int×Int)) :=
 if decide (q.1<((a.length:Nat):Int))=true then(gi a q.1).bind λc=>some (i0m (IntKind.i64.wrap (drw (nxt q.2)+IntKind.i64.wrap c)) 255,(IntKind.i64.wrap (q.1+1),nxt q.2))else some (drw (nxt q.2),(q.1,nxt q.2))
def Z1(b:List Int)(c:Int×Int)(a:Int):Option (Int×(Int×Int)):=(if(decide (a<=0))=true then some (0,c)else(if(decide (a<=256))=true then(H9 b c).bind λo=>match o with|(g,p)=>(grd (I0 g)).bind λ_=>(grd (a≠0)).bind λ_=>some ((Int.tmod g a),p)else(H9 b c).bind λq=>match q with|(h,s)=>(grd (I0 h)).bind λ_=>(H9 b s).bind λi=>match i with|(d,j)=>(grd (I0 d)).bind λ_=>(H9 b j).bind λk=>match k with|(e,l)=>(grd (I0 e)).bind λ_=>(H9 b l).bind λm=>match m with|(f,n)=>(grd (I0 f)).bind λ_=>(grd (a≠0)).bind λ_=>some ((Int.tmod (IntKind.i64.wrap ((IntKind.i64.wrap ((IntKind.i64.wrap ((IntKind.i64.wrap (h*16777216))+(IntKind.i64.wrap (d*65536))))+(IntKind.i64.wrap (e*256))))+f)) a),n)))
def r01(b:List Int)(c:Int×Int)(d:Int):Option (Bool×(Int×Int)):=(Z1 b c d).bind λe=>match e with|(a,f)=>(grd (I0 a)).bind λ_=>some ((decide (a=0)),f)
def Z7(c:List Int)(d:Int×Int)(a:D0):Option (Int×(Int×Int)):=(Z1 c d ((a.length:Nat):Int)).bind λe=>match e with|(b,f)=>(grd (I0 b)).bind λ_=>(gi a b).bind λg=>some (g,f)
def B8(c:(List Int))(d:Int):Nat->Int->(List Int)->(Int×Int)->Option ((List Int)×(Int×Int))
 |0,_,_,_=>none
 |fuel+1,e,a,u8=>(if(decide (e>0))=true then(Z1 c u8 d).bind λg=>match g with|(b,h)=>(grd (I0 b)).bind λ_=>(r01 c h 2).bind λi=>match i with|(j,f)=>(if j=true then(grd ((a.length+([(IntKind.i64.wrap (0-(IntKind.i64.wrap (1+b))))]).length)*8<=140737488355328)).bind λ_=>(B8 c d fuel (IntKind.i64.wrap (e-1)) (a ++ [(IntKind.i64.wrap (0-(IntKind.i64.wrap (1+b))))]) f)else(grd ((a.length+([(IntKind.i64.wrap (1+b))]).length)*8<=140737488355328)).bind λ_=>(B8 c d fuel (IntKind.i64.wrap (e-1)) (a ++ [(IntKind.i64.wrap (1+b))]) f))else some (a,u8))
def K03(a:List Int)(d:Int×Int)(e:Int)(f:Int):Option (D0×(Int×Int)):=(Z1 a d (IntKind.i64.wrap (f+1))).bind λg=>match g with|(b,h)=>(grd (I0 b)).bind λ_=>(B8 a e P0 b ([]:D0) h).bind (λc=>match c with|(y36,y37)=>(L4 y36).bind λi=>some (i,y37))
def a8(b:(List Int))(c:Int):Nat->Int->(List D0)->(Int×Int)->Option ((List D0)×(Int×Int))
 |0,_,_,_=>none
 |fuel+1,d,a,u8=>(if(decide (d>0))=true then(K03 b u8 c 5).bind λf=>match f with|(e,g)=>(grd ((a.length + [e].length)*24<=140737488355328)).bind λ_=>(a8 b c fuel (IntKind.i64.wrap (d-1)) (a ++ [e]) g)else some (a,u8))
def J02(a:List Int)(d:Int×Int)(e:Int):Option (N1×(Int×Int)):=(Z1 a d 4).bind λf=>match f with|(b,g)=>(grd (I0 b)).bind λ_=>(a8 a e P0 b ([]:N1) g).bind (λc=>match c with|(y26,y27)=>some (y26,y27))
def v02(d:l0)(f:Q0):Option (Bool):=match d with|(e,b,k)=>match f with|(g,h,i)=>(E2 g 0 (IntKind.i64.wrap (b-1))).bind λa=>(chk a (E2 i 0 (IntKind.i64.wrap (b-1))) false).bind λc=>(chk (bif a then c else false) (E2 h 1 e) false).bind λj=>some (bif(bif a then c else false)then j else false)
def H7(b:Int)(c:Int)(d:Int)(e:Int)(f:Int)(g:Int):Nat->Int->Option ((Int) ⊕ (Unit))
 |0,_=>none
 |fuel+1,a=>(if(decide (a<3))=true then(gi [b,c,d] a).bind λi=>(gi [e,f,g] a).bind λj=>(if(decide (i<j))=true then some (.inl (-1))else(gi [b,c,d] a).bind λk=>(gi [e,f,g] a).bind λh=>(if(decide (k>h))=true then some (.inl 1)else(H7 b c d e f g fuel (IntKind.i64.wrap (a+1)))))else some (.inr ()))
def T8(b:Q0)(f:Q0):Option (Int):=match b with|(c,d,e)=>match f with|(g,h,i)=>(H7 c d e g h i P0 0).bind λa=>d9 a (λ_=>some 0)
def c8(b:Y0)(d:Int)(e:Int):Nat->Int->Option ((Bool) ⊕ (Unit))
 |0,_=>none
 |fuel+1,a=>(if(decide (a<((b.length:Nat):Int)))=true then(gi b a).bind λg=>match g with|(h,i,j)=>(v02 (d,e,b) (h,i,j)).bind λc=>(chk ((decide (a>0))&&(!(!c))) (gi b (IntKind.i64.wrap (a-1))) (0,0,0)).bind λk=>match k with|(l,m,n)=>(chk ((decide (a>0))&&(!(!c))) (gi b a) (0,0,0)).bind λo=>match o with|(p,q,s)=>(chk ((decide (a>0))&&(!(!c))) (T8 (l,m,n) (p,q,s)) 0).bind λf=>(grd (I0 f)).bind λ_=>(if(bif(!c)then true else(bif(decide (a>0))then(decide (f ≥ 0))else false))=true then some (.inl false)else(c8 b d e fuel (IntKind.i64.wrap (a+1))))else some (.inr ()))
def B4(f:l0):Option (Bool):=match f with|(a,b,c)=>(c8 c a b P0 0).bind λe=>d9 e (λ_=>(E2 a 1 3).bind λd=>(chk d (E2 b 1 40) false).bind λg=>some (bif(bif d then g else false)then(decide (((c.length:Nat):Int)<=120))else false))
def I4(a:l0)(c:Int):Option (Bool):=match a with|(e,b,f)=>(B5 c 0 (IntKind.i64.wrap (b-1))).bind λd=>some d
def P9(f:l0)(g:Q0):Option (Bool):=match f with|(a,c,d)=>match g with|(h,i,j)=>(I4 (a,c,d) h).bind λb=>(chk b (I4 (a,c,d) j) false).bind λe=>(chk (bif b then e else false) (B5 i 1 a) false).bind λk=>some (bif(bif b then e else false)then k else false)
def n00(d:Q0)(h:Q0):Option (Int):=match d with|(e,f,g)=>match h with|(i,j,k)=>(Q7 e i).bind λa=>(grd (I0 a)).bind λ_=>(if(!decide (a=0))=true then some a else(Q7 f j).bind λb=>(grd (I0 b)).bind λ_=>(if(!decide (b=0))=true then some b else(Q7 g k).bind λc=>(grd (I0 c)).bind λ_=>some c))
def d8(b:Y0)(d:Int)(e:Int):Nat->Int->Option ((Bool) ⊕ (Unit))
 |0,_=>none
 |fuel+1,a=>(if(decide (a<((b.length:Nat):Int)))=true then(gi b a).bind λn=>match n with|(g,h,i)=>(P9 (d,e,b) (g,h,i)).bind λc=>(chk ((decide (a>0))&&(!(!c))) (gi b (IntKind.i64.wrap (a-1))) (0,0,0)).bind λj=>match j with|(k,l,m)=>(chk ((decide (a>0))&&(!(!c))) (n00 (k,l,m) (g,h,i)) 0).bind λf=>(grd (I0 f)).bind λ_=>(if(bif(!c)then true else(bif(decide (a>0))then(decide (f ≥ 0))else false))=true then some (.inl false)else(d8 b d e fuel (IntKind.i64.wrap (a+1))))else some (.inr ()))
def Q9(f:l0):Option (Bool):=match f with|(a,b,c)=>(B5 a 1 3).bind λd=>(chk (!(!d)) (B5 b 1 40) false).bind λg=>(if(bif(bif(!d)then true else(!g))then true else(decide (((c.length:Nat):Int)>120)))=true then some false else(d8 c a b P0 0).bind λe=>d9 e (λ_=>some true))
def M4(b:D0)(a:Int):Nat->Bool->Int->(List Int)->Option (Bool×(List Int))
 |0,_,_,_=>none
 |fuel+1,e,c,d=>(if(decide (c<((b.length:Nat):Int)))=true then(gi b c).bind λl=>(if(decide (l=a))=true then(gi b c).bind λj=>(if(bif(decide (j>a))then(!true)else false)=true then(grd ((d.length + [a].length)*8<=140737488355328)).bind λ_=>(gi b c).bind λf=>(grd (((d ++ [a]).length + [f].length)*8<=140737488355328)).bind λ_=>(M4 b a fuel true (IntKind.i64.wrap (c+1)) ((d ++ [a]) ++ [f]))else(gi b c).bind λg=>(grd ((d.length + [g].length)*8<=140737488355328)).bind λ_=>(M4 b a fuel true (IntKind.i64.wrap (c+1)) (d ++ [g])))else(gi b c).bind λk=>(if(bif(decide (k>a))then(!e)else false)=true then(grd ((d.length + [a].length)*8<=140737488355328)).bind λ_=>(gi b c).bind λh=>(grd (((d ++ [a]).length + [h].length)*8<=140737488355328)).bind λ_=>(M4 b a fuel true (IntKind.i64.wrap (c+1)) ((d ++ [a]) ++ [h]))else(gi b c).bind λi=>(grd ((d.length + [i].length)*8<=140737488355328)).bind λ_=>(M4 b a fuel e (IntKind.i64.wrap (c+1)) (d ++ [i]))))else some (e,d))
def I9(c:D0)(a:Int):Option (D0):=(M4 c a P0 false 0 ([]:D0)).bind (λb=>match b with|(y35,y36)=>(if(!y35)=true then(grd ((y36.length + [a].length)*8<=140737488355328)).bind λ_=>some (y36 ++ [a])else some y36))
def R9(a:D0)(c:Int):Nat->Int->Option ((Bool) ⊕ (Unit))
 |0,_=>none
 |fuel+1,b=>(if(decide (b<((a.length:Nat):Int)))=true then(gi a b).bind λd=>(if(decide (d=c))=true then some (.inl true)else(R9 a c fuel (IntKind.i64.wrap (b+1))))else some (.inr ()))
def J9(b:D0)(c:Int):Option (Bool):=(R9 b c P0 0).bind λa=>d9 a (λ_=>some false)
def C4(c:Y0)(a:Int)(b:Int):Nat->D0->Int->Option (D0)
 |0,_,_=>none
 |fuel+1,e,d=>(if(decide (d<((c.length:Nat):Int)))=true then(gi c d).bind λj=>match j with|(f,g,h)=>(if(bif(bif(decide (a>0))then(decide (g=a))else false)then(decide (f=b))else false)=true then(I9 e h).bind λi=>(if(bif(bif(decide (a<0))then(decide (g=(IntKind.i64.wrap (0-a))))else false)then(decide (h=b))else false)=true then(I9 i f).bind λk=>(C4 c a b fuel k (IntKind.i64.wrap (d+1)))else(C4 c a b fuel i (IntKind.i64.wrap (d+1))))else(if(bif(bif(decide (a<0))then(decide (g=(IntKind.i64.wrap (0-a))))else false)then(decide (h=b))else false)=true then(I9 e f).bind λl=>(C4 c a b fuel l (IntKind.i64.wrap (d+1)))else(C4 c a b fuel e (IntKind.i64.wrap (d+1)))))else some (e))
def E01(a:l0)(c:Int)(d:Int):Option (D0):=match a with|(f,g,b)=>(C4 b d c P0 ([]:D0) 0).bind (λe=>some e)
def C5(b:l0)(f:Int)(g:Int):Option (Int):=match b with|(c,d,e)=>(E01 (c,d,e) f g).bind λa=>(if(decide (((a.length:Nat):Int)=0))=true then some (-1)else(gi a 0).bind λh=>some h)
def t7(b:Int)(a:Y0):Nat->Int->Option ((Bool) ⊕ (Unit))
 |0,_=>none
 |fuel+1,u8=>(if(decide (u8<b))=true then(gi a b).bind λc=>match c with|(d,e,f)=>(gi a u8).bind λg=>match g with|(h,i,j)=>(if(bif(decide (e=i))then(bif(decide (d=h))then true else(decide (f=j)))else false)=true then some (.inl false)else(t7 b a fuel (IntKind.i64.wrap (u8+1))))else some (.inr ()))
def D5(a:Y0)(c:Int)(d:Int):Nat->Int->Option ((Bool) ⊕ (Unit))
 |0,_=>none
 |fuel+1,b=>(chk (decide (b<((a.length:Nat):Int))) (B4 (c,d,a)) false).bind λf=>(if(bif(decide (b<((a.length:Nat):Int)))then f else false)=true then(t7 b a P0 0).bind λe=>c0m e (λ_=>(D5 a c d fuel (IntKind.i64.wrap (b+1))))else some (.inr ()))
def Y5(e:l0):Option (Bool):=match e with|(a,b,c)=>(D5 c a b P0 0).bind λd=>d9 d (λ_=>(B4 (a,b,c)).bind λf=>some f)
def w7(a:D0)(d:Int)(e:Int)(f:Y0):Nat->Int->Int->Option ((Int×Bool) ⊕ (Int))
 |0,_,_=>none
 |fuel+1,g,b=>(if(decide (b<((a.length:Nat):Int)))=true then(gi a b).bind λh=>(C5 (d,e,f) g h).bind λc=>(grd (I0 c)).bind λ_=>(if(decide (c<0))=true then some (.inl ((-1),false))else(w7 a d e f fuel c (IntKind.i64.wrap (b+1))))else some (.inr (g)))
def j02(g:l0)(d:Int)(h:D0):Option (Int×Bool):=match g with|(b,a,c)=>(Y5 (b,a,c)).bind λe=>(chk (!(!e)) (E2 d 0 (IntKind.i64.wrap (a-1))) false).bind λi=>(if(bif(!e)then true else(!i))=true then some ((-1),false)else(w7 h b a c P0 d 0).bind λf=>d9 f (λj=>some (j,true)))
def S4(c:Y0)(a:Int)(d:Int):Nat->Int->(List Int)->Option ((List Int))
 |0,_,_=>none
 |fuel+1,e,b=>(if(decide (e<((c.length:Nat):Int)))=true then(gi c e).bind λi=>match i with|(f,h,g)=>(if(bif(bif(decide (a>0))then(decide (h=a))else false)then(decide (f=d))else false)=true then(grd ((b.length + [g].length)*8<=140737488355328)).bind λ_=>(S4 c a d fuel (IntKind.i64.wrap (e+1)) (b ++ [g]))else(if(bif(bif(bif(decide (a<0))then(!decide (a=(-9223372036854775808)))else false)then(decide (h=(IntKind.i64.wrap (0-a))))else false)then(decide (g=d))else false)=true then(grd ((b.length + [f].length)*8<=140737488355328)).bind λ_=>(S4 c a d fuel (IntKind.i64.wrap (e+1)) (b ++ [f]))else(S4 c a d fuel (IntKind.i64.wrap (e+1)) b)))else some (b))
def F01(b:l0)(d:Int)(e:Int):Option (D0):=match b with|(f,g,c)=>(S4 c e d P0 0 ([]:D0)).bind (λa=>(grd (a.length<4611686018427387904)).bind λ_=>some (k04 eqI (h07 Z9 a)))
def A7(b:l0)(f:Int)(g:Int):Option (Int):=match b with|(c,d,e)=>(F01 (c,d,e) f g).bind λa=>(if(decide (((a.length:Nat):Int)=0))=true then some (-1)else(gi a 0).bind λh=>some h)
def B7(b:Y0)(d:Int)(c:Int)(e:Int):Nat->Int->Option ((Bool) ⊕ (Unit))
 |0,_=>none
 |fuel+1,a=>(if(decide (a<((b.length:Nat):Int)))=true then(gi b a).bind λf=>match f with|(g,h,i)=>(if(bif(decide (d=h))then(bif(decide (c=g))then true else(decide (e=i)))else false)=true then some (.inl false)else(B7 b d c e fuel (IntKind.i64.wrap (a+1))))else some (.inr ()))
def C7(a:Y0):Nat->Int->Option ((Bool) ⊕ (Unit))
 |0,_=>none
 |fuel+1,b=>(if(decide (b<((a.length:Nat):Int)))=true then(gi a b).bind λd=>match d with|(e,f,g)=>(W05 a (IntKind.i64.wrap (b+1)) (a.length:Int)).bind λh=>(B7 h f e g P0 0).bind λc=>c0m c (λ_=>(C7 a fuel (IntKind.i64.wrap (b+1))))else some (.inr ()))
def O6(c:l0):Option (Bool):=match c with|(d,e,a)=>(Q9 (d,e,a)).bind λf=>(if(!f)=true then some false else(C7 a P0 0).bind λb=>d9 b (λ_=>some true))
def W3(b:l0):Option (l0):=match b with|(c,d,a)=>(grd ((([]:Y0).length+a.length)*24<=140737488355328)).bind λ_=>some (c,d,(([]:Y0)++a))
def N4(e:Y0)(a:Int)(b:Int)(c:Int):Nat->Bool->Int->(List Q0)->Option (Bool×(List Q0))
 |0,_,_,_=>none
 |fuel+1,h,f,d=>(if(decide (f<((e.length:Nat):Int)))=true then(gi e f).bind λz=>match z with|(A,B,C)=>(T8 (a,b,c) (A,B,C)).bind λg=>(grd (I0 g)).bind λ_=>(if(decide (g=0))=true then(if(bif(decide (g<0))then(!true)else false)=true then(grd ((d.length+([(a,b,c)]).length)*24<=140737488355328)).bind λ_=>(gi e f).bind λv=>match v with|(i,j,k)=>(grd (((d ++ [(a,b,c)]).length+([(i,j,k)]).length)*24<=140737488355328)).bind λ_=>(N4 e a b c fuel true (IntKind.i64.wrap (f+1)) ((d ++ [(a,b,c)]) ++ [(i,j,k)]))else(gi e f).bind λw=>match w with|(l,m,n)=>(grd ((d.length+([(l,m,n)]).length)*24<=140737488355328)).bind λ_=>(N4 e a b c fuel true (IntKind.i64.wrap (f+1)) (d ++ [(l,m,n)])))else(if(bif(decide (g<0))then(!h)else false)=true then(grd ((d.length+([(a,b,c)]).length)*24<=140737488355328)).bind λ_=>(gi e f).bind λx=>match x with|(o,p,q)=>(grd (((d ++ [(a,b,c)]).length+([(o,p,q)]).length)*24<=140737488355328)).bind λ_=>(N4 e a b c fuel true (IntKind.i64.wrap (f+1)) ((d ++ [(a,b,c)]) ++ [(o,p,q)]))else(gi e f).bind λy=>match y with|(s,t,u)=>(grd ((d.length+([(s,t,u)]).length)*24<=140737488355328)).bind λ_=>(N4 e a b c fuel h (IntKind.i64.wrap (f+1)) (d ++ [(s,t,u)]))))else some (h,d))
def Q6(e:Y0)(f:Q0):Option (Y0):=match f with|(a,b,c)=>(N4 e a b c P0 false 0 ([]:Y0)).bind (λd=>match d with|(y35,y36)=>(if(!y35)=true then(grd ((y36.length+([(a,b,c)]).length)*24<=140737488355328)).bind λ_=>some (y36 ++ [(a,b,c)])else some y36))
def T3(a:Y0)(c:Int):Nat->Int->Int->Option (Int)
 |0,_,_=>none
 |fuel+1,d,b=>(if(decide (b<((a.length:Nat):Int)))=true then(gi a b).bind λg=>match g with|(h,m,n)=>(if(decide (h=c))=true then(gi a b).bind λi=>match i with|(o,p,j)=>(if(decide (j=c))=true then(T3 a c fuel (IntKind.i64.wrap ((IntKind.i64.wrap (d+1))+1)) (IntKind.i64.wrap (b+1)))else(T3 a c fuel (IntKind.i64.wrap (d+1)) (IntKind.i64.wrap (b+1))))else(gi a b).bind λe=>match e with|(k,l,f)=>(if(decide (f=c))=true then(T3 a c fuel (IntKind.i64.wrap (d+1)) (IntKind.i64.wrap (b+1)))else(T3 a c fuel d (IntKind.i64.wrap (b+1)))))else some (d))
def i00(a:l0)(c:Int):Option (Int):=match a with|(e,f,b)=>(T3 b c P0 0 0).bind (λd=>some d)
def t6(b:Y0)(c:Y0):Nat->Int->Option ((Bool) ⊕ (Unit))
 |0,_=>none
 |fuel+1,a=>(if(decide (a<((b.length:Nat):Int)))=true then(gi b a).bind λd=>match d with|(e,f,g)=>(gi c a).bind λh=>match h with|(i,j,k)=>(if(!eqE (e,f,g) (i,j,k))=true then some (.inl false)else(t6 b c fuel (IntKind.i64.wrap (a+1))))else some (.inr ()))
def T4(d:l0)(g:l0):Option (Bool):=match d with|(e,f,a)=>match g with|(h,i,b)=>(if(bif(bif(!decide (e=h))then true else(!decide (f=i)))then true else(!decide (((a.length:Nat):Int)=((b.length:Nat):Int))))=true then some false else(t6 a b P0 0).bind λc=>d9 c (λ_=>some true))
def S3(a:Y0):Nat->D0->Int->Option (D0)
 |0,_,_=>none
 |fuel+1,b,c=>(if(decide (c<((a.length:Nat):Int)))=true then(gi a c).bind λg=>match g with|(d,m,e)=>(J9 b d).bind λh=>(if h=true then(I9 b e).bind λf=>(J9 f e).bind λi=>(if i=true then(I9 f d).bind λj=>(S3 a fuel j (IntKind.i64.wrap (c+1)))else(S3 a fuel f (IntKind.i64.wrap (c+1))))else(J9 b e).bind λk=>(if k=true then(I9 b d).bind λl=>(S3 a fuel l (IntKind.i64.wrap (c+1)))else(S3 a fuel b (IntKind.i64.wrap (c+1)))))else some (b))
def J5(a:Y0):Nat->D0->Int->Option (D0)
 |0,_,_=>none
 |fuel+1,b,c=>(if(decide (c<(IntKind.i64.wrap (((a.length:Nat):Int)+1))))=true then(S3 a P0 b 0).bind (λd=>(J5 a fuel d (IntKind.i64.wrap (c+1))))else some (b))
def H00(e:l0)(c:Int):Option (D0):=match e with|(f,a,b)=>(B4 (f,a,b)).bind λd=>(chk (!(!d)) (E2 c 0 (IntKind.i64.wrap (a-1))) false).bind λg=>(if(bif(!d)then true else(!g))=true then some ([]:D0)else(J5 b P0 [c] 0).bind (λh=>some h))
def Z8(b:Int)(d:Int)(e:Y0)(f:D0):Nat->Int->Option ((Int) ⊕ (Unit))
 |0,_=>none
 |fuel+1,a=>(if(decide (a<b))=true then(i00 (d,b,e) a).bind λc=>(grd (I0 c)).bind λ_=>(chk (!(decide (c<2))) (J9 f a) false).bind λg=>(if(bif(decide (c<2))then true else(!g))=true then some (.inl a)else(Z8 b d e f fuel (IntKind.i64.wrap (a+1))))else some (.inr ()))
def w02(e:l0):Option (Int):=match e with|(a,b,c)=>(H00 (a,b,c) 0).bind λf=>(Z8 b a c f P0 1).bind λd=>d9 d (λ_=>some (-1))
def j4(b:Y0)(a:(List Int)):Nat->Int->Int->Int->Y0->Option (Int×Int×Y0)
 |0,_,_,_,_=>none
 |fuel+1,c,d,e,f=>(if(decide (c<((b.length:Nat):Int)))=true then(gi b c).bind λj=>match j with|(g,k,h)=>(gi a g).bind λi=>(chk (decide (i>0)) (gi a h) 0).bind λl=>(if(bif(decide (i>0))then(decide (l>0))else false)=true then(gi a g).bind λm=>(gi a h).bind λn=>(Q6 f ((IntKind.i64.wrap (m-1)),k,(IntKind.i64.wrap (n-1)))).bind λo=>(j4 b a fuel (IntKind.i64.wrap (c+1)) d e o)else(j4 b a fuel (IntKind.i64.wrap (c+1)) d e f))else some (d,e,f))
def O4(a:D0)(c:Int)(e:Int)(f:Y0):Nat->Int->(List Int)->Option ((l0×Bool) ⊕ ((List Int)))
 |0,_,_=>none
 |fuel+1,u8,b=>(if(decide (u8<((a.length:Nat):Int)))=true then(gi a u8).bind λh=>(E2 h 0 (IntKind.i64.wrap (c-1))).bind λd=>(chk (!(!d)) (gi a u8) 0).bind λi=>(chk (!(!d)) (gi b i) 0).bind λj=>(if(bif(!d)then true else(!decide (j=0)))=true then(W3 (e,c,f)).bind λk=>match k with|(l,m,n)=>some (.inl ((l,m,n),false))else(gi a u8).bind λg=>(gi b g).bind λo=>(O4 a c e f fuel (IntKind.i64.wrap (u8+1)) (b.set g.toNat (IntKind.i64.wrap (u8+1)))))else some (.inr (b)))
def w6(g:l0)(d:D0):Option (l0×Bool):=match g with|(b,a,c)=>(B4 (b,a,c)).bind λh=>(if(bif(bif(!h)then true else(decide (((d.length:Nat):Int)=0)))then true else(decide (((d.length:Nat):Int)>a)))=true then(W3 (b,a,c)).bind λi=>match i with|(j,k,l)=>some ((j,k,l),false)else(grd ((0:Int)<=a/\a<=a/\a*8<=140737488355328/\a<=9223372036854775807)).bind λ_=>(O4 d a b c P0 0 (List.replicate a.toNat (0:Int))).bind λf=>d9 f (λm=>(j4 c m P0 0 b ((d.length:Nat):Int) ([]:Y0)).bind (λe=>match e with|(y86,y87,y88)=>some ((y86,y87,y88),true))))
def A6(c:Int):Nat->Int->(List Int)->Option ((List Int))
 |0,_,_=>none
 |fuel+1,a,b=>(if(decide (a<=c))=true then(grd ((b.length + [a].length)*8<=140737488355328)).bind λ_=>(grd (((b ++ [a]).length+([(IntKind.i64.wrap (0-a))]).length)*8<=140737488355328)).bind λ_=>(A6 c fuel (IntKind.i64.wrap (a+1)) ((b ++ [a]) ++ [(IntKind.i64.wrap (0-a))]))else some (b))
def R6(a:Int):Option (D0):=(A6 a P0 1 ([]:D0)).bind (λb=>some b)
def U3(d:D0)(h:Int)(e:Int)(f:Int)(g:Y0):Nat->Int->(List Int)->Option ((List Int))
 |0,_,_=>none
 |fuel+1,c,a=>(if(decide (c<((d.length:Nat):Int)))=true then(gi a h).bind λi=>(gi d c).bind λj=>(C5 (e,f,g) i j).bind λb=>(grd (I0 b)).bind λ_=>(chk (decide (b ≥ 0)) (J9 a b) false).bind λk=>(if(bif(decide (b ≥ 0))then(!k)else false)=true then(grd ((a.length + [b].length)*8<=140737488355328)).bind λ_=>(U3 d h e f g fuel (IntKind.i64.wrap (c+1)) (a ++ [b]))else(U3 d h e f g fuel (IntKind.i64.wrap (c+1)) a))else some (a))
def l5(g:D0)(d:Int)(e:Int)(f:Y0):Nat->Int->(List Int)->Option ((List Int))
 |0,_,_=>none
 |fuel+1,a,b=>(some b.length).bind λc=>(grd (c<=9223372036854775807)).bind λ_=>(if(decide (a<((c:Nat):Int)))=true then(U3 g a d e f P0 0 b).bind (λh=>(l5 g d e f fuel (IntKind.i64.wrap (a+1)) h))else some (b))
def g9(d:l0):Option (D0):=match d with|(a,b,c)=>(Y5 (a,b,c)).bind λe=>(if(!e)=true then some ([]:D0)else(R6 a).bind λf=>(l5 f a b c P0 0 [0]).bind (λg=>some g))
def I7(e:l0):Option (l0):=match e with|(a,b,c)=>(g9 (a,b,c)).bind λd=>(if(decide (((d.length:Nat):Int)=0))=true then(W3 (a,b,c)).bind λf=>match f with|(g,h,i)=>some (g,h,i)else(w6 (a,b,c) d).bind λj=>match j with|(k,o)=>match k with|(l,m,n)=>some (l,m,n))
def t01(f:l0):Option (Bool):=match f with|(a,b,c)=>(Y5 (a,b,c)).bind λd=>(chk d (w02 (a,b,c)) 0).bind λe=>(grd (I0 e)).bind λl=>(chk (bif d then(decide (e<0))else false) (I7 (a,b,c)) (0,0,[])).bind λg=>match g with|(h,i,j)=>(chk (bif d then(decide (e<0))else false) (T4 (h,i,j) (a,b,c)) false).bind λk=>some (bif(bif d then(decide (e<0))else false)then k else false)
def L3(a:l0):Option (Bool):=match a with|(b,c,d)=>(t01 (b,c,d)).bind λe=>some e
def n5(b:l0):Option (l0):=match b with|(c,d,a)=>(grd ((([]:Y0).length+a.length)*24<=140737488355328)).bind λ_=>some (c,d,(([]:Y0)++a))
def E5(b:Y0)(a:Int):Nat->Int->Int->Option (Int)
 |0,_,_=>none
 |fuel+1,d,c=>(if(decide (c<((b.length:Nat):Int)))=true then(gi b c).bind λf=>match f with|(g,h,e)=>(if(decide (g=a))=true then(if(decide (e=a))=true then(E5 b a fuel (IntKind.i64.wrap ((IntKind.i64.wrap (d+1))+1)) (IntKind.i64.wrap (c+1)))else(E5 b a fuel (IntKind.i64.wrap (d+1)) (IntKind.i64.wrap (c+1))))else(if(decide (e=a))=true then(E5 b a fuel (IntKind.i64.wrap (d+1)) (IntKind.i64.wrap (c+1)))else(E5 b a fuel d (IntKind.i64.wrap (c+1)))))else some (d))
def T00(a:l0)(c:Int):Option (Int):=match a with|(e,f,b)=>(E5 b c P0 0 0).bind (λd=>some d)
def J1(b:Y0)(c:Y0):Nat->Int->Option ((Bool) ⊕ (Unit))
 |0,_=>none
 |fuel+1,a=>(if(decide (a<((b.length:Nat):Int)))=true then(gi b a).bind λd=>match d with|(e,f,g)=>(gi c a).bind λh=>match h with|(i,j,k)=>(if(!eqE (e,f,g) (i,j,k))=true then some (.inl false)else(J1 b c fuel (IntKind.i64.wrap (a+1))))else some (.inr ()))
def Z2(a:Y0)(b:Y0):Option (Bool):=(if(!decide (((a.length:Nat):Int)=((b.length:Nat):Int)))=true then some false else(J1 a b P0 0).bind λc=>d9 c (λ_=>some true))
def B6(e:l0)(g:l0):Option (Bool):=match e with|(a,b,f)=>match g with|(c,d,h)=>(chk (bif(decide (a=c))then(decide (b=d))else false) (Z2 f h) false).bind λi=>some (bif(bif(decide (a=c))then(decide (b=d))else false)then i else false)
def E4(b:Y0):Nat->Bool->Int->(List Bool)->Option (Bool×(List Bool))
 |0,_,_,_=>none
 |fuel+1,f,c,a=>(if(decide (c<((b.length:Nat):Int)))=true then(gi b c).bind λg=>match g with|(d,j,e)=>(gi a d).bind λh=>(gi a e).bind λi=>(if(!(h == i))=true then(gi a d).bind λk=>(gi (a.set d.toNat true) e).bind λl=>(E4 b fuel true (IntKind.i64.wrap (c+1)) ((a.set d.toNat true).set e.toNat true))else(E4 b fuel f (IntKind.i64.wrap (c+1)) a))else some (f,a))
def W4(a:Y0):Nat->Bool->(List Bool)->Option ((List Bool))
 |0,_,_=>none
 |fuel+1,d,b=>(if d=true then(E4 a P0 false 0 b).bind (λc=>match c with|(y23,y24)=>(W4 a fuel y23 y24))else some (b))
def o00(c:l0)(b:Int):Option ((List Bool)):=match c with|(f,a,d)=>(grd ((0:Int)<=a/\a<=a/\a*1<=140737488355328/\a<=9223372036854775807)).bind λ_=>(gi (List.replicate a.toNat (false:Bool)) b).bind λg=>(W4 d P0 true ((List.replicate a.toNat (false:Bool)).set b.toNat true)).bind (λe=>some e)
def g8(c:Int):Nat->Int->(List Int)->Option ((List Int))
 |0,_,_=>none
 |fuel+1,a,b=>(if(decide (a<=c))=true then(grd ((b.length+([a,(IntKind.i64.wrap (0-a))]).length)*8<=140737488355328)).bind λ_=>(g8 c fuel (IntKind.i64.wrap (a+1)) (b ++ [a,(IntKind.i64.wrap (0-a))]))else some (b))
def N7(a:Int):Option (D0):=(g8 a P0 1 ([]:D0)).bind (λb=>some b)
def u01(a:Y0):Option (Y0):=(grd ((([]:Y0).length+a.length)*24<=140737488355328)).bind λ_=>(grd ((([]:Y0)++a).length<4611686018427387904)).bind λ_=>some (k04 eqE (h07 U0 (([]:Y0)++a)))
def K9(b:Y0)(a:(List Int)):Nat->Int->Int->Int->(List Q0)->Option (Int×Int×(List Q0))
 |0,_,_,_,_=>none
 |fuel+1,c,e,f,d=>(if(decide (c<((b.length:Nat):Int)))=true then(gi b c).bind λm=>match m with|(g,h,i)=>(gi a g).bind λj=>(chk (decide (j ≥ 0)) (gi a i) 0).bind λn=>(if(bif(decide (j ≥ 0))then(decide (n ≥ 0))else false)=true then(gi a g).bind λk=>(gi a i).bind λl=>(grd ((d.length+([(k,h,l)]).length)*24<=140737488355328)).bind λ_=>(K9 b a fuel (IntKind.i64.wrap (c+1)) e f (d ++ [(k,h,l)]))else(K9 b a fuel (IntKind.i64.wrap (c+1)) e f d))else some (e,f,d))
def u00(b:D0):Nat->Int->(List Int)->Option ((List Int))
 |0,_,_=>none
 |fuel+1,a,c=>(if(decide (a<((b.length:Nat):Int)))=true then(gi b a).bind λd=>(gi c d).bind λe=>(u00 b fuel (IntKind.i64.wrap (a+1)) (c.set d.toNat a))else some (c))
def v00(c:Nat):Nat->Int->(List Int)->Option ((List Int))
 |0,_,_=>none
 |fuel+1,a,b=>(if(decide (a<((c:Nat):Int)))=true then(gi b a).bind λd=>(v00 c fuel (IntKind.i64.wrap (a+1)) (b.set a.toNat (-1)))else some (b))
def K02(e:l0)(c:D0):Option (l0):=match e with|(f,a,g)=>(grd ((0:Int)<=a/\a<=a/\a*8<=140737488355328/\a<=9223372036854775807)).bind λ_=>(some (List.replicate a.toNat (0:Int)).length).bind λb=>(grd (b<=9223372036854775807)).bind λ_=>(v00 b P0 0 (List.replicate a.toNat (0:Int))).bind (λi=>(u00 c P0 0 i).bind (λj=>(K9 g j P0 0 f ((c.length:Nat):Int) ([]:Y0)).bind (λd=>match d with|(y203,y204,y205)=>(u01 y205).bind λh=>some (y203,y204,h))))
def a9(a:D0):Option (D0):=(grd ((([]:D0).length+a.length)*8<=140737488355328)).bind λ_=>some (([]:D0)++a)
def Q2(f:D0)(g:Int)(h:Int)(i:Y0)(e:Int):Nat->Int->(List (Option D0))->(List Int)->Option ((List (Option D0))×(List Int))
 |0,_,_,_=>none
 |fuel+1,c,b,d=>(if(decide (c<((f.length:Nat):Int)))=true then(gi f c).bind λj=>(A7 (g,h,i) e j).bind λa=>(grd (I0 a)).bind λ_=>(chk (decide (a ≥ 0)) (gi b a) (none:Option D0)).bind λl=>(if(bif(decide (a ≥ 0))then l.isNone else false)=true then(gi b e).bind λm=>(a9 (m.getD [])).bind λk=>(grd ((k.length + [j].length)*8<=140737488355328)).bind λ_=>(gi b a).bind λn=>(grd ((d.length + [a].length)*8<=140737488355328)).bind λ_=>(Q2 f g h i e fuel (IntKind.i64.wrap (c+1)) (b.set a.toNat (some (k ++ [j]))) (d ++ [a]))else(Q2 f g h i e fuel (IntKind.i64.wrap (c+1)) b d))else some (b,d))
def f4(b:Int)(d:Int)(e:Y0):Nat->Int->(List (Option D0))->(List Int)->Option ((List (Option D0))×(List Int))
 |0,_,_,_=>none
 |fuel+1,u8,f,a=>(some a.length).bind λc=>(grd (c<=9223372036854775807)).bind λ_=>(if(decide (u8<((c:Nat):Int)))=true then(gi a u8).bind λh=>(N7 b).bind λi=>(Q2 i b d e h P0 0 f a).bind (λg=>match g with|(y41,y42)=>(f4 b d e fuel (IntKind.i64.wrap (u8+1)) y41 y42))else some (f,a))
def x02(d:l0)(b:Int):Option (D0×N1):=match d with|(e,a,f)=>(grd ((0:Int)<=a/\a<=a/\a*24<=140737488355328/\a<=9223372036854775807)).bind λ_=>(gi (List.replicate a.toNat (none:Option D0)) b).bind λg=>(f4 e a f P0 0 ((List.replicate a.toNat (none:Option D0)).set b.toNat (some ([]:D0))) [b]).bind (λc=>match c with|(y54,y55)=>some (y55,(List.map (λo:Option D0=>o.getD ([]:D0)) y54)))
def i9(d:l0):Option (D0):=match d with|(a,b,c)=>(O6 (a,b,c)).bind λe=>(if(!e)=true then some ([]:D0)else(x02 (a,b,c) 0).bind λf=>match f with|(g,h)=>some g)
def J7(d:l0):Option (l0):=match d with|(a,b,c)=>(O6 (a,b,c)).bind λe=>(if(!e)=true then(n5 (a,b,c)).bind λj=>match j with|(k,l,m)=>some (k,l,m)else(i9 (a,b,c)).bind λn=>(K02 (a,b,c) n).bind λf=>match f with|(g,h,i)=>some (g,h,i))
def N5(c:Int)(d:Int):Nat->Int->(List Int)->Option ((List Int))
 |0,_,_=>none
 |fuel+1,a,b=>(if(decide (a<c))=true then(if(!decide (a=d))=true then(grd ((b.length + [a].length)*8<=140737488355328)).bind λ_=>(N5 c d fuel (IntKind.i64.wrap (a+1)) (b ++ [a]))else(N5 c d fuel (IntKind.i64.wrap (a+1)) b))else some (b))
def D4(b:Int)(c:Int)(d:Y0)(f:(List Bool)):Nat->Int->Int->Option (Int)
 |0,_,_=>none
 |fuel+1,e,a=>(if(bif(decide (a<b))then(decide (e=0))else false)=true then(T00 (c,b,d) a).bind λg=>(grd (I0 g)).bind λ_=>(chk (!(decide (g<2))) (gi f a) false).bind λh=>(if(bif(decide (g<2))then true else(!h))=true then(D4 b c d f fuel a (IntKind.i64.wrap (a+1)))else(D4 b c d f fuel e (IntKind.i64.wrap (a+1))))else some (e))
def O5:Nat->D0->Int->Int->Y0->Option ((l0×D0) ⊕ (Int×Int×Y0))
 |0,_,_,_,_=>none
 |fuel+1,b,c,a,d=>(o00 (c,a,d) 0).bind λl=>(D4 a c d l P0 0 1).bind (λe=>(if(decide (e=0))=true then some (.inl ((c,a,d),b))else(N5 a e P0 0 ([]:D0)).bind (λm=>(K02 (c,a,d) m).bind λh=>match h with|(i,j,k)=>(W05 b 0 e).bind λf=>(W05 b (IntKind.i64.wrap (e+1)) (b.length:Int)).bind λg=>(grd ((f.length+g.length)*8<=140737488355328)).bind λ_=>(O5 fuel (f++g) i j k))))
def C6(c:Int):Nat->Int->(List Int)->Option ((List Int))
 |0,_,_=>none
 |fuel+1,a,b=>(if(decide (a<c))=true then(grd ((b.length + [a].length)*8<=140737488355328)).bind λ_=>(C6 c fuel (IntKind.i64.wrap (a+1)) (b ++ [a]))else some (b))
def i8(h:l0):Option (l0×D0):=match h with|(b,a,c)=>(n5 (b,a,c)).bind λi=>match i with|(d,e,f)=>(Q9 (b,a,c)).bind λj=>(if(!j)=true then some ((d,e,f),([]:D0))else(C6 a P0 0 ([]:D0)).bind (λk=>(O5 P0 k d e f).bind λg=>d9 g (λ_=>none)))
def C8(e:l0):Option (Bool):=match e with|(b,a,c)=>(O6 (b,a,c)).bind λf=>(if(!f)=true then some false else(i8 (b,a,c)).bind λh=>match h with|(i,p)=>match i with|(n,d,o)=>(chk (decide (d=a)) (J7 (b,a,c)) (0,0,[])).bind λj=>match j with|(k,l,m)=>(chk (decide (d=a)) (B6 (k,l,m) (b,a,c)) false).bind λg=>some (bif(decide (d=a))then g else false))
def l02(a:Int):Option (l0×Bool):=(E2 a 1 3).bind λb=>(if(!b)=true then some ((0,0,[]),false)else some ((a,1,[]),true))
def o5(a:D0)(d:Int):Nat->Int->Int->Int->Int->Y0->Option (Int×Int×Y0)
 |0,_,_,_,_,_=>none
 |fuel+1,g,b,e,c,f=>(if(decide (b<((a.length:Nat):Int)))=true then(if(decide ((IntKind.i64.wrap (b+1))<((a.length:Nat):Int)))=true then(gi a b).bind λh=>(if(decide (h>0))=true then(gi a b).bind λi=>(Q6 f (g,i,c)).bind λj=>(o5 a d fuel c (IntKind.i64.wrap (b+1)) e (IntKind.i64.wrap (c+1)) j)else(gi a b).bind λk=>(Q6 f (c,(IntKind.i64.wrap (0-k)),g)).bind λl=>(o5 a d fuel c (IntKind.i64.wrap (b+1)) e (IntKind.i64.wrap (c+1)) l))else(gi a b).bind λm=>(if(decide (m>0))=true then(gi a b).bind λn=>(Q6 f (g,n,d)).bind λo=>(o5 a d fuel d (IntKind.i64.wrap (b+1)) e c o)else(gi a b).bind λp=>(Q6 f (d,(IntKind.i64.wrap (0-p)),g)).bind λq=>(o5 a d fuel d (IntKind.i64.wrap (b+1)) e c q)))else some (e,c,f))
def J01(n:l0)(g:Int)(b:D0)(h:Int):Option (l0×Bool):=match n with|(d,a,e)=>(W3 (d,a,e)).bind λo=>match o with|(i,j,k)=>(B4 (d,a,e)).bind λc=>(chk (!(!c)) (E2 g 0 (IntKind.i64.wrap (a-1))) false).bind λf=>(chk (!(bif(!c)then true else(!f))) (E2 h 0 (IntKind.i64.wrap (a-1))) false).bind λl=>(chk (!(bif(bif(!c)then true else(!f))then true else(!l))) (q01 d b) false).bind λp=>(if(bif(bif(bif(bif(bif(bif(!c)then true else(!f))then true else(!l))then true else(!p))then true else(decide (((b.length:Nat):Int)=0)))then true else(decide ((IntKind.i64.wrap ((IntKind.i64.wrap (a+((b.length:Nat):Int)))-1))>40)))then true else(decide ((IntKind.i64.wrap (((e.length:Nat):Int)+((b.length:Nat):Int)))>120)))=true then some ((i,j,k),false)else(o5 b h P0 g 0 i j k).bind (λm=>match m with|(y68,y69,y70)=>some ((y68,y69,y70),true)))
def m02(a:l0)(e:D0):Option (l0×Bool):=match a with|(b,c,d)=>(J01 (b,c,d) 0 e 0).bind λf=>match f with|(g,k)=>match g with|(h,i,j)=>some ((h,i,j),k)
def D7(a:N1):Nat->Int->Int->Int->Y0->Option (Int×Int×Y0)
 |0,_,_,_,_=>none
 |fuel+1,b,u8,d,c=>(if(decide (b<((a.length:Nat):Int)))=true then(gi a b).bind λe=>(m02 (u8,d,c) e).bind λf=>match f with|(g,k)=>match g with|(h,i,j)=>(D7 a fuel (IntKind.i64.wrap (b+1)) h i j)else some (u8,d,c))
def n02(a:Int)(b:N1):Option (l0×Bool):=(i02 a b).bind λd=>(if(!d)=true then some ((0,0,[]),false)else(l02 a).bind λe=>match e with|(f,j)=>match f with|(g,h,i)=>(D7 b P0 0 g h i).bind (λc=>match c with|(y35,y36,y37)=>some ((y35,y36,y37),true)))
def J4(f:Y0)(g:Int):Nat->Int->(List d6)->Option ((List d6))
 |0,_,_=>none
 |fuel+1,u8,e=>(if(decide (u8<((f.length:Nat):Int)))=true then(gi f g).bind λj=>match j with|(c,h,a)=>(gi f u8).bind λk=>match k with|(d,i,b)=>(if(bif(decide (h=i))then(decide (c=d))else false)=true then(grd ((e.length+([((if b<a then b else a),(if b>a then b else a))]).length)*16<=140737488355328)).bind λ_=>(if(bif(decide (h=i))then(decide (a=b))else false)=true then(grd (((e ++ [((if b<a then b else a),(if b>a then b else a))]).length+([((if d<c then d else c),(if d>c then d else c))]).length)*16<=140737488355328)).bind λ_=>(J4 f g fuel (IntKind.i64.wrap (u8+1)) ((e ++ [((if b<a then b else a),(if b>a then b else a))]) ++ [((if d<c then d else c),(if d>c then d else c))]))else(J4 f g fuel (IntKind.i64.wrap (u8+1)) (e ++ [((if b<a then b else a),(if b>a then b else a))])))else(if(bif(decide (h=i))then(decide (a=b))else false)=true then(grd ((e.length+([((if d<c then d else c),(if d>c then d else c))]).length)*16<=140737488355328)).bind λ_=>(J4 f g fuel (IntKind.i64.wrap (u8+1)) (e ++ [((if d<c then d else c),(if d>c then d else c))]))else(J4 f g fuel (IntKind.i64.wrap (u8+1)) e)))else some (e))
def j8(b:Y0):Nat->Int->(List d6)->Option ((List d6))
 |0,_,_=>none
 |fuel+1,a,c=>(if(decide (a<((b.length:Nat):Int)))=true then(J4 b a P0 (IntKind.i64.wrap (a+1)) c).bind (λd=>(j8 b fuel (IntKind.i64.wrap (a+1)) d))else some (c))
def L02(a:l0):Option (N9):=match a with|(d,e,b)=>(j8 b P0 0 ([]:N9)).bind (λc=>some c)
def z00(e:l0):Option (d6×Bool):=match e with|(a,b,c)=>(B4 (a,b,c)).bind λf=>(if(!f)=true then some ((0,0),false)else(L02 (a,b,c)).bind λd=>(if(decide (((d.length:Nat):Int)=0))=true then some ((0,0),false)else(gi d 0).bind λg=>match g with|(h,i)=>some ((h,i),true)))
def e03(a:Int)(d:d6):Option (Int):=match d with|(b,c)=>(if(decide (a=c))=true then(if(decide (b>c))=true then some (IntKind.i64.wrap (b-1))else some b)else(if(decide (a>c))=true then some (IntKind.i64.wrap (a-1))else some a))
def P4(a:Y0)(b:Int)(c:Int):Nat->Int->Int->Int->Y0->Option (Int×Int×Y0)
 |0,_,_,_,_=>none
 |fuel+1,d,u8,f,e=>(if(decide (d<((a.length:Nat):Int)))=true then(gi a d).bind λi=>match i with|(j,k,l)=>(e03 j (b,c)).bind λg=>(grd (I0 g)).bind λn=>(e03 l (b,c)).bind λh=>(grd (I0 h)).bind λo=>(Q6 e (g,k,h)).bind λm=>(P4 a b c fuel (IntKind.i64.wrap (d+1)) u8 f m)else some (u8,f,e))
def l8(g:l0)(h:d6):Option (l0×Bool):=match g with|(b,a,c)=>match h with|(d,e)=>(B4 (b,a,c)).bind λi=>(if(bif(bif(bif(!i)then true else(decide (d<0)))then true else(decide (d ≥ e)))then true else(decide (e ≥ a)))=true then(W3 (b,a,c)).bind λj=>match j with|(k,l,m)=>some ((k,l,m),false)else(P4 c d e P0 0 b (IntKind.i64.wrap (a-1)) ([]:Y0)).bind (λf=>match f with|(y29,y30,y31)=>some ((y29,y30,y31),true)))
def o02(f:l0):Option (l0×d6×Bool):=match f with|(a,b,c)=>(z00 (a,b,c)).bind λg=>match g with|(h,i)=>match h with|(d,e)=>(if(!i)=true then(W3 (a,b,c)).bind λj=>match j with|(k,l,m)=>some ((k,l,m),(0,0),false)else(l8 (a,b,c) (d,e)).bind λn=>match n with|(o,t)=>match o with|(p,q,s)=>some ((p,q,s),(d,e),true))
def S6:Nat->Int->Int->Int->Y0->(List d6)->Option ((l0×N9) ⊕ (Int×Int×Y0×(List d6)))
 |0,_,_,_,_,_=>none
 |fuel+1,d,b,c,u8,a=>(if(decide (d<40))=true then(o02 (b,c,u8)).bind λg=>match g with|(h,l,m)=>match h with|(i,j,k)=>match l with|(e,f)=>(if(!m)=true then some (.inl ((b,c,u8),a))else(grd ((a.length+([(e,f)]).length)*16<=140737488355328)).bind λ_=>(S6 fuel (IntKind.i64.wrap (d+1)) i j k (a ++ [(e,f)])))else some (.inr (b,c,u8,a)))
def M02(c:l0):Option (l0×N9):=match c with|(d,e,f)=>(W3 (d,e,f)).bind λg=>match g with|(h,i,j)=>(S6 P0 0 h i j ([]:N9)).bind λb=>d9 b (λa=>match a with|(y27,y28,y29,y30)=>some ((y27,y28,y29),y30))
def K01(f:l0):Option (l0×Bool):=match f with|(b,a,c)=>(W3 (b,a,c)).bind λg=>match g with|(d,h,e)=>(B4 (b,a,c)).bind λi=>(if(bif(!i)then true else(decide (a ≥ 40)))=true then some ((d,h,e),false)else some ((d,(IntKind.i64.wrap (a+1)),e),true))
def N02(k:l0)(l:Q0):Option (l0×Bool):=match k with|(b,c,a)=>match l with|(d,e,f)=>(W3 (b,c,a)).bind λm=>match m with|(g,h,n)=>(B4 (b,c,a)).bind λi=>(chk (!(!i)) (v02 (b,c,a) (d,e,f)) false).bind λo=>(if(bif(bif(!i)then true else(!o))then true else(decide (((a.length:Nat):Int) ≥ 120)))=true then some ((g,h,n),false)else(Q6 a (d,e,f)).bind λj=>some ((g,h,j),(decide (((j.length:Nat):Int)>((a.length:Nat):Int)))))
def Y3(c:D0)(e:Int)(f:Int)(g:Y0)(b:Int):Nat->Int->(List Q0)->Option ((List Q0))
 |0,_,_=>none
 |fuel+1,a,d=>(if(decide (a<((c.length:Nat):Int)))=true then(gi c a).bind λj=>(C5 (e,f,g) b j).bind λh=>(grd (I0 h)).bind λ_=>(if(decide (h<0))=true then(gi c a).bind λi=>(grd ((d.length+([(b,i,(-1))]).length)*24<=140737488355328)).bind λ_=>(Y3 c e f g b fuel (IntKind.i64.wrap (a+1)) (d ++ [(b,i,(-1))]))else(Y3 c e f g b fuel (IntKind.i64.wrap (a+1)) d))else some (d))
def Y4(a:Int)(b:Int)(d:Y0):Nat->Int->(List Q0)->Option ((List Q0))
 |0,_,_=>none
 |fuel+1,c,e=>(chk (decide (c<a)) (Y5 (b,a,d)) false).bind λf=>(if(bif(decide (c<a))then f else false)=true then(R6 b).bind λg=>(Y3 g b a d c P0 0 e).bind (λh=>(Y4 a b d fuel (IntKind.i64.wrap (c+1)) h))else some (e))
def U8(a:l0):Option (Y0):=match a with|(b,c,d)=>(Y4 c b d P0 0 ([]:Y0)).bind (λe=>some e)
def T6(a:Int)(c:d6):Option (Int):=match c with|(d,b)=>(if(decide (a=b))=true then some d else(if(decide (a>b))=true then some (IntKind.i64.wrap (a-1))else some a))
def p5(g:Y0)(h:Int)(b:Int)(a:Int):Nat->Int->(List d6)->Option ((List d6))
 |0,_,_=>none
 |fuel+1,f,e=>(if(decide (f<((g.length:Nat):Int)))=true then(gi g f).bind λi=>match i with|(d,j,c)=>(if(!decide (h=j))=true then(p5 g h b a fuel (IntKind.i64.wrap (f+1)) e)else(if(decide (b=d))=true then(grd ((e.length+([((if c<a then c else a),(if c>a then c else a))]).length)*16<=140737488355328)).bind λ_=>(if(decide (a=c))=true then(grd (((e ++ [((if c<a then c else a),(if c>a then c else a))]).length+([((if d<b then d else b),(if d>b then d else b))]).length)*16<=140737488355328)).bind λ_=>(p5 g h b a fuel (IntKind.i64.wrap (f+1)) ((e ++ [((if c<a then c else a),(if c>a then c else a))]) ++ [((if d<b then d else b),(if d>b then d else b))]))else(p5 g h b a fuel (IntKind.i64.wrap (f+1)) (e ++ [((if c<a then c else a),(if c>a then c else a))])))else(if(decide (a=c))=true then(grd ((e.length+([((if d<b then d else b),(if d>b then d else b))]).length)*16<=140737488355328)).bind λ_=>(p5 g h b a fuel (IntKind.i64.wrap (f+1)) (e ++ [((if d<b then d else b),(if d>b then d else b))]))else(p5 g h b a fuel (IntKind.i64.wrap (f+1)) e))))else some (e))
def S9(a:Y0):Nat->Int->(List d6)->Option ((List d6))
 |0,_,_=>none
 |fuel+1,b,c=>(if(decide (b<((a.length:Nat):Int)))=true then(gi a b).bind λd=>match d with|(e,f,g)=>(W05 a (IntKind.i64.wrap (b+1)) (a.length:Int)).bind λh=>(p5 h f e g P0 0 c).bind (λi=>(S9 a fuel (IntKind.i64.wrap (b+1)) i))else some (c))
def Z03(a:l0):Option (N9):=match a with|(d,e,b)=>(S9 b P0 0 ([]:N9)).bind (λc=>some c)
def A00(e:l0):Option (d6×Bool):=match e with|(a,b,c)=>(Q9 (a,b,c)).bind λf=>(if(!f)=true then some ((0,0),false)else(Z03 (a,b,c)).bind λd=>(if(decide (((d.length:Nat):Int)=0))=true then some ((0,0),false)else(gi d 0).bind λg=>match g with|(h,i)=>some ((h,i),true)))
def Q4(f:Y0)(c:Int)(d:Int):Nat->Int->Y0->Option (Y0)
 |0,_,_=>none
 |fuel+1,a,b=>(if(decide (a<((f.length:Nat):Int)))=true then(gi b a).bind λh=>match h with|(i,j,k)=>(T6 i (c,d)).bind λe=>(grd (I0 e)).bind λm=>(T6 k (c,d)).bind λg=>(grd (I0 g)).bind λn=>(gi b a).bind λl=>match l with|(o,p,q)=>(Q4 f c d fuel (IntKind.i64.wrap (a+1)) (b.set a.toNat (e,j,g)))else some (b))
def n8(i:l0)(j:d6):Option (l0×Bool):=match i with|(e,a,f)=>match j with|(b,c)=>(n5 (e,a,f)).bind λk=>match k with|(g,h,d)=>(Q9 (e,a,f)).bind λm=>(if(bif(bif(bif(!m)then true else(decide (b<0)))then true else(decide (b ≥ c)))then true else(decide (c ≥ a)))=true then some ((g,h,d),false)else(Q4 d b c P0 0 d).bind (λn=>(u01 n).bind λl=>some ((g,(IntKind.i64.wrap (h-1)),l),true)))
def p02(f:l0):Option (l0×d6×Bool):=match f with|(a,b,c)=>(A00 (a,b,c)).bind λg=>match g with|(h,i)=>match h with|(d,e)=>(if(!i)=true then(n5 (a,b,c)).bind λj=>match j with|(k,l,m)=>some ((k,l,m),(0,0),false)else(n8 (a,b,c) (d,e)).bind λn=>match n with|(o,t)=>match o with|(p,q,s)=>some ((p,q,s),(d,e),true))
def o8:Nat->Int->Int->Y0->(List d6)->Option ((l0×N9) ⊕ (Int×Int×Y0×(List d6)))
 |0,_,_,_,_=>none
 |fuel+1,b,c,u8,a=>(p02 (b,c,u8)).bind λf=>match f with|(g,k,l)=>match g with|(h,i,j)=>match k with|(d,e)=>(if(!l)=true then some (.inl ((b,c,u8),a))else(grd ((a.length+([(d,e)]).length)*16<=140737488355328)).bind λ_=>(o8 fuel h i j (a ++ [(d,e)])))
def O02(b:l0):Option (l0×N9):=match b with|(c,d,e)=>(n5 (c,d,e)).bind λf=>match f with|(g,h,i)=>(o8 P0 g h i ([]:N9)).bind λa=>d9 a (λ_=>none)
def Z3(c:D0)(d:Int)(e:Int)(f:Y0)(u8:Int):Nat->Int->(List Q0)->Option ((List Q0))
 |0,_,_=>none
 |fuel+1,a,b=>(if(decide (a<((c.length:Nat):Int)))=true then(gi c a).bind λg=>(A7 (d,e,f) u8 g).bind λh=>(grd (I0 h)).bind λ_=>(if(decide (h<0))=true then(grd ((b.length+([(u8,g,(-1))]).length)*24<=140737488355328)).bind λ_=>(Z3 c d e f u8 fuel (IntKind.i64.wrap (a+1)) (b ++ [(u8,g,(-1))]))else(Z3 c d e f u8 fuel (IntKind.i64.wrap (a+1)) b))else some (b))
def Z4(b:Int)(a:Int)(c:Y0):Nat->Int->(List Q0)->Option ((List Q0))
 |0,_,_=>none
 |fuel+1,u8,d=>(if(decide (u8<b))=true then(N7 a).bind λe=>(Z3 e a b c u8 P0 0 d).bind (λf=>(Z4 b a c fuel (IntKind.i64.wrap (u8+1)) f))else some (d))
def V8(d:l0):Option (Y0):=match d with|(a,b,c)=>(O6 (a,b,c)).bind λe=>(if(!e)=true then some ([]:Y0)else(Z4 b a c P0 0 ([]:Y0)).bind (λf=>some f))
def P5(e:Int)(f:Int)(d:D0):Nat->Int->(List Int)->(List Int)->Option ((List Int)×(List Int))
 |0,_,_,_=>none
 |fuel+1,a,b,c=>(if(decide (a<e))=true then(if(!decide (a=f))=true then(grd ((b.length + [a].length)*8<=140737488355328)).bind λ_=>(gi d a).bind λg=>(grd ((c.length + [g].length)*8<=140737488355328)).bind λ_=>(P5 e f d fuel (IntKind.i64.wrap (a+1)) (b ++ [a]) (c ++ [g]))else(P5 e f d fuel (IntKind.i64.wrap (a+1)) b c))else some (b,c))
def D6(g:Int)(h:Int)(i:Y0):Nat->D0->Int->Int->Int->Y0->Option ((l0×D0) ⊕ (D0×Int×Int×Y0))
 |0,_,_,_,_,_=>none
 |fuel+1,d,e,b,a,c=>(chk (decide (e<40)) (B4 (g,h,i)) false).bind λk=>(if(bif(decide (e<40))then k else false)=true then(w02 (b,a,c)).bind λf=>(grd (I0 f)).bind λ_=>(if(decide (f<0))=true then some (.inl ((b,a,c),d))else(P5 a f d P0 0 ([]:D0) ([]:D0)).bind (λj=>match j with|(y52,y53)=>(w6 (b,a,c) y52).bind λl=>match l with|(m,q)=>match m with|(n,o,p)=>(D6 g h i fuel y53 (IntKind.i64.wrap (e+1)) n o p)))else some (.inr (d,b,a,c)))
def E6(b:Int)(d:Int)(e:Y0):Nat->Int->(List Int)->Option ((List Int))
 |0,_,_=>none
 |fuel+1,a,c=>(chk (decide (a<b)) (B4 (d,b,e)) false).bind λf=>(if(bif(decide (a<b))then f else false)=true then(grd ((c.length + [a].length)*8<=140737488355328)).bind λ_=>(E6 b d e fuel (IntKind.i64.wrap (a+1)) (c ++ [a]))else some (c))
def M01(f:l0):Option (l0×D0):=match f with|(a,b,c)=>(W3 (a,b,c)).bind λg=>match g with|(h,i,j)=>(E6 b a c P0 0 ([]:D0)).bind (λk=>(D6 a b c P0 k 0 h i j).bind λe=>d9 e (λd=>match d with|(y132,y133,y134,y135)=>some ((y133,y134,y135),y132)))
def c6(a:l0):Option (l0):=match a with|(b,c,d)=>(M02 (b,c,d)).bind λe=>match e with|(f,t)=>match f with|(g,h,i)=>(M01 (g,h,i)).bind λj=>match j with|(k,u)=>match k with|(l,m,n)=>(I7 (l,m,n)).bind λo=>match o with|(p,q,s)=>some (p,q,s)
def B00(a:l0):Option (l0):=match a with|(b,c,d)=>(O02 (b,c,d)).bind λe=>match e with|(f,t)=>match f with|(g,h,i)=>(i8 (g,h,i)).bind λj=>match j with|(k,u)=>match k with|(l,m,n)=>(J7 (l,m,n)).bind λo=>match o with|(p,q,s)=>some (p,q,s)
def F6(f:l0):Option (Bool):=match f with|(a,b,c)=>(L3 (a,b,c)).bind λd=>(chk d (U8 (a,b,c)) []).bind λe=>(grd (e.length<=9223372036854775807)).bind λg=>some (bif d then(decide (((e.length:Nat):Int)=0))else false)
def R4(b:Int)(c:Int):Nat->Int->(List Int)->Option ((List Int))
 |0,_,_=>none
 |fuel+1,u8,a=>(if(decide (u8<b))=true then(if(!decide (u8=c))=true then(grd ((a.length + [u8].length)*8<=140737488355328)).bind λ_=>(R4 b c fuel (IntKind.i64.wrap (u8+1)) (a ++ [u8]))else(R4 b c fuel (IntKind.i64.wrap (u8+1)) a))else some (a))
def K4(f:l0)(d:Int):Option (l0×Bool):=match f with|(b,a,c)=>(Y5 (b,a,c)).bind λe=>(chk (!(!e)) (E2 d 0 (IntKind.i64.wrap (a-1))) false).bind λg=>(if(bif(!e)then true else(!g))=true then(W3 (b,a,c)).bind λq=>match q with|(s,t,u)=>some ((s,t,u),false)else(R4 a d P0 0 [d]).bind (λv=>(w6 (b,a,c) v).bind λh=>match h with|(i,w)=>match i with|(j,k,l)=>(c6 (j,k,l)).bind λm=>match m with|(n,o,p)=>some ((n,o,p),true)))
def H6(f:l0):Option (Bool):=match f with|(a,b,c)=>(C8 (a,b,c)).bind λd=>(chk d (V8 (a,b,c)) []).bind λe=>(grd (e.length<=9223372036854775807)).bind λg=>some (bif d then(decide (((e.length:Nat):Int)=0))else false)
def E7(c:Int)(d:Int):Nat->Int->(List Int)->Option ((List Int))
 |0,_,_=>none
 |fuel+1,a,b=>(if(decide (a<c))=true then(if(!decide (a=d))=true then(grd ((b.length + [a].length)*8<=140737488355328)).bind λ_=>(E7 c d fuel (IntKind.i64.wrap (a+1)) (b ++ [a]))else(E7 c d fuel (IntKind.i64.wrap (a+1)) b))else some (b))
def j00(f:l0)(d:Int):Option (l0×Bool):=match f with|(b,a,c)=>(O6 (b,a,c)).bind λe=>(chk (!(!e)) (I4 (b,a,c) d) false).bind λg=>(if(bif(!e)then true else(!g))=true then(n5 (b,a,c)).bind λp=>match p with|(q,s,t)=>some ((q,s,t),false)else(E7 a d P0 0 [d]).bind (λu=>(K02 (b,a,c) u).bind λh=>match h with|(i,j,k)=>(B00 (i,j,k)).bind λl=>match l with|(m,n,o)=>some ((m,n,o),true)))
def l6(f:D0)(g:Int)(h:Int)(i:Int)(j:Y0):Nat->Int->(List Bool)->(List D0)->(List Int)->Option ((List Bool)×(List D0)×(List Int))
 |0,_,_,_,_=>none
 |fuel+1,c,d,e,b=>(if(decide (c<((f.length:Nat):Int)))=true then(gi b g).bind λm=>(gi f c).bind λn=>(C5 (h,i,j) m n).bind λa=>(grd (I0 a)).bind λ_=>(chk (decide (a ≥ 0)) (gi d a) false).bind λo=>(if(bif(decide (a ≥ 0))then(!o)else false)=true then(gi d a).bind λt=>(gi b g).bind λp=>(gi e p).bind λk=>(grd (k.length*8<=140737488355328)).bind λs=>(gi f c).bind λq=>(some [q]).bind λl=>(grd ((k.length+l.length)*8<=140737488355328)).bind λ_=>(gi e a).bind λu=>(grd ((b.length + [a].length)*8<=140737488355328)).bind λ_=>(l6 f g h i j fuel (IntKind.i64.wrap (c+1)) (d.set a.toNat true) (e.set a.toNat (k++l)) (b ++ [a]))else(l6 f g h i j fuel (IntKind.i64.wrap (c+1)) d e b))else some (d,e,b))
def I8(i:D0)(d:Int)(e:Int)(f:Y0):Nat->Int->(List Bool)->(List D0)->(List Int)->Option ((List Bool)×(List D0)×(List Int))
 |0,_,_,_,_=>none
 |fuel+1,a,g,h,b=>(some b.length).bind λc=>(grd (c<=9223372036854775807)).bind λ_=>(if(decide (a<((c:Nat):Int)))=true then(l6 i a d e f P0 0 g h b).bind (λj=>match j with|(y73,y74,y75)=>(I8 i d e f fuel (IntKind.i64.wrap (a+1)) y73 y74 y75))else some (g,h,b))
def q02(e:l0)(b:Int):Option ((List Bool)×N1):=match e with|(c,a,f)=>(grd ((0:Int)<=a/\a<=a/\a*1<=140737488355328/\a<=9223372036854775807)).bind λ_=>(grd ((0:Int)<=a/\a<=a/\a*24<=140737488355328/\a<=9223372036854775807)).bind λ_=>(gi (List.replicate a.toNat (false:Bool)) b).bind λh=>(gi (List.replicate a.toNat ([]:D0)) b).bind λi=>(R6 c).bind λg=>(I8 g c a f P0 0 ((List.replicate a.toNat (false:Bool)).set b.toNat true) ((List.replicate a.toNat ([]:D0)).set b.toNat ([]:D0)) [b]).bind (λd=>match d with|(y87,y88,y89)=>some (y87,y88))
def b9(i:l0)(f:Int)(b:Int):Option (D0×Bool):=match i with|(d,a,e)=>(Y5 (d,a,e)).bind λc=>(chk (!(!c)) (E2 f 0 (IntKind.i64.wrap (a-1))) false).bind λh=>(chk (!(bif(!c)then true else(!h))) (E2 b 0 (IntKind.i64.wrap (a-1))) false).bind λk=>(if(bif(bif(!c)then true else(!h))then true else(!k))=true then some (([]:D0),false)else(q02 (d,a,e) f).bind λl=>match l with|(m,n)=>(gi m b).bind λj=>(if(!j)=true then some (([]:D0),false)else(gi n b).bind λg=>(grd ((([]:D0).length+g.length)*8<=140737488355328)).bind λ_=>some ((([]:D0)++g),true)))
def U00(a:l0)(e:Int):Option (D0):=match a with|(b,c,d)=>(b9 (b,c,d) 0 e).bind λf=>match f with|(g,h)=>some g
def N01(b:l0):Option (Bool):=match b with|(c,d,a)=>(L3 (c,d,a)).bind λe=>some (bif e then(decide (((a.length:Nat):Int)=0))else false)
def l3(a:Int)(b:Int)(c:Y0):Nat->Int->(List D0)->Option ((List D0))
 |0,_,_=>none
 |fuel+1,d,e=>(chk (decide (d<a)) (F6 (b,a,c)) false).bind λh=>(if(bif(decide (d<a))then h else false)=true then(K4 (b,a,c) d).bind λi=>match i with|(j,n)=>match j with|(k,l,m)=>(T4 (k,l,m) (b,a,c)).bind λg=>(if g=true then(U00 (b,a,c) d).bind λf=>(grd ((e.length + [f].length)*24<=140737488355328)).bind λ_=>(l3 a b c fuel (IntKind.i64.wrap (d+1)) (e ++ [f]))else(l3 a b c fuel (IntKind.i64.wrap (d+1)) e))else some (e))
def U6(a:l0):Option (N1):=match a with|(b,c,d)=>(l3 c b d P0 0 ([]:N1)).bind (λe=>some e)
def r02(g:l0):Option (Bool):=match g with|(b,a,c)=>(N01 (b,a,c)).bind λd=>(chk (!d) (F6 (b,a,c)) false).bind λe=>(chk (e&&(!d)) (U6 (b,a,c)) []).bind λf=>(grd (f.length<=9223372036854775807)).bind λh=>some (bif d then true else(bif e then(decide (((f.length:Nat):Int)=a))else false))
def d5(b:Q1):Nat->Int->(List Int)->Option ((List Int))
 |0,_,_=>none
 |fuel+1,a,c=>(if(decide (a<((b.length:Nat):Int)))=true then(gi b a).bind λd=>match d with|(e,f,g)=>(r02 (e,f,g)).bind λh=>(if h=true then(grd ((c.length + [a].length)*8<=140737488355328)).bind λ_=>(d5 b fuel (IntKind.i64.wrap (a+1)) (c ++ [a]))else(d5 b fuel (IntKind.i64.wrap (a+1)) c))else some (c))
def e01(a:Q1):Option (D0):=(d5 a P0 0 ([]:D0)).bind (λb=>some b)
def O01(c:l0):Option (Bool):=match c with|(d,a,b)=>(C8 (d,a,b)).bind λe=>some (bif(bif e then(decide (a=1))else false)then(decide (((b.length:Nat):Int)=0))else false)
def T9(f:D0)(g:Int)(h:Int)(i:Y0)(e:Int):Nat->Int->(List (Option D0))->(List Int)->Option ((List (Option D0))×(List Int))
 |0,_,_,_=>none
 |fuel+1,c,b,d=>(if(decide (c<((f.length:Nat):Int)))=true then(gi f c).bind λj=>(A7 (g,h,i) e j).bind λa=>(grd (I0 a)).bind λ_=>(chk (decide (a ≥ 0)) (gi b a) (none:Option D0)).bind λl=>(if(bif(decide (a ≥ 0))then l.isNone else false)=true then(gi b e).bind λm=>(a9 (m.getD [])).bind λk=>(grd ((k.length + [j].length)*8<=140737488355328)).bind λ_=>(gi b a).bind λn=>(grd ((d.length + [a].length)*8<=140737488355328)).bind λ_=>(T9 f g h i e fuel (IntKind.i64.wrap (c+1)) (b.set a.toNat (some (k ++ [j]))) (d ++ [a]))else(T9 f g h i e fuel (IntKind.i64.wrap (c+1)) b d))else some (b,d))
def J00(b:Int)(d:Int)(e:Y0):Nat->Int->(List (Option D0))->(List Int)->Option ((List (Option D0))×(List Int))
 |0,_,_,_=>none
 |fuel+1,u8,f,a=>(some a.length).bind λc=>(grd (c<=9223372036854775807)).bind λ_=>(if(decide (u8<((c:Nat):Int)))=true then(gi a u8).bind λh=>(N7 b).bind λi=>(T9 i b d e h P0 0 f a).bind (λg=>match g with|(y41,y42)=>(J00 b d e fuel (IntKind.i64.wrap (u8+1)) y41 y42))else some (f,a))
def b04(d:l0)(b:Int):Option (D0×(List (Option D0))):=match d with|(e,a,f)=>(grd ((0:Int)<=a/\a<=a/\a*24<=140737488355328/\a<=9223372036854775807)).bind λ_=>(gi (List.replicate a.toNat (none:Option D0)) b).bind λg=>(J00 e a f P0 0 ((List.replicate a.toNat (none:Option D0)).set b.toNat (some ([]:D0))) [b]).bind (λc=>match c with|(y54,y55)=>some (y55,y54))
def c9(i:l0)(f:Int)(d:Int):Option (D0×Bool):=match i with|(a,b,c)=>(O6 (a,b,c)).bind λe=>(chk (!(!e)) (I4 (a,b,c) f) false).bind λg=>(chk (!(bif(!e)then true else(!g))) (I4 (a,b,c) d) false).bind λl=>(if(bif(bif(!e)then true else(!g))then true else(!l))=true then some (([]:D0),false)else(b04 (a,b,c) f).bind λm=>match m with|(n,h)=>(gi h d).bind λj=>(if j.isNone=true then some (([]:D0),false)else(gi h d).bind λk=>some ((k.getD []),true)))
def V00(a:l0)(e:Int):Option (D0):=match a with|(b,c,d)=>(c9 (b,c,d) 0 e).bind λf=>match f with|(g,h)=>some g
def Q3(a:Int)(b:Int)(c:Y0):Nat->Int->(List D0)->Option ((List D0))
 |0,_,_=>none
 |fuel+1,u8,d=>(if(decide (u8<a))=true then(j00 (b,a,c) u8).bind λf=>match f with|(g,l)=>match g with|(h,i,j)=>(B6 (h,i,j) (b,a,c)).bind λk=>(if k=true then(V00 (b,a,c) u8).bind λe=>(grd ((d.length + [e].length)*24<=140737488355328)).bind λ_=>(Q3 a b c fuel (IntKind.i64.wrap (u8+1)) (d ++ [e]))else(Q3 a b c fuel (IntKind.i64.wrap (u8+1)) d))else some (d))
def V6(d:l0):Option (N1):=match d with|(a,b,c)=>(H6 (a,b,c)).bind λe=>(if(!e)=true then some ([]:N1)else(Q3 b a c P0 0 ([]:N1)).bind (λf=>some f))
def s02(g:l0):Option (Bool):=match g with|(b,a,c)=>(O01 (b,a,c)).bind λd=>(chk (!d) (H6 (b,a,c)) false).bind λe=>(chk (e&&(!d)) (V6 (b,a,c)) []).bind λf=>(grd (f.length<=9223372036854775807)).bind λh=>some (bif d then true else(bif e then(decide (((f.length:Nat):Int)=a))else false))
def i5(b:Q1):Nat->Int->(List Int)->Option ((List Int))
 |0,_,_=>none
 |fuel+1,a,c=>(if(decide (a<((b.length:Nat):Int)))=true then(gi b a).bind λd=>match d with|(e,f,g)=>(s02 (e,f,g)).bind λh=>(if h=true then(grd ((c.length + [a].length)*8<=140737488355328)).bind λ_=>(i5 b fuel (IntKind.i64.wrap (a+1)) (c ++ [a]))else(i5 b fuel (IntKind.i64.wrap (a+1)) c))else some (c))
def f01(a:Q1):Option (D0):=(i5 a P0 0 ([]:D0)).bind (λb=>some b)
def g6(b:D0)(d:Int)(e:Int)(f:Y0):Nat->Int->Int->Option ((Int) ⊕ (Unit))
 |0,_,_=>none
 |fuel+1,g,a=>(if(decide (a<((b.length:Nat):Int)))=true then(gi b a).bind λh=>(C5 (d,e,f) g h).bind λc=>(grd (I0 c)).bind λ_=>(if(decide (c<0))=true then some (.inl a)else(g6 b d e f fuel c (IntKind.i64.wrap (a+1))))else some (.inr ()))
def g01(h:l0)(d:Int)(e:D0):Option (Int):=match h with|(b,a,c)=>(Y5 (b,a,c)).bind λf=>(chk (!(!f)) (E2 d 0 (IntKind.i64.wrap (a-1))) false).bind λi=>(if(bif(!f)then true else(!i))=true then some 0 else(g6 e b a c P0 d 0).bind λg=>d9 g (λ_=>some ((e.length:Nat):Int)))
def U4(h:l0)(c:D0):Option (l0×Bool):=match h with|(b,a,d)=>(L3 (b,a,d)).bind λg=>(chk (!(!g)) (q01 b c) false).bind λi=>(if(bif(!g)then true else(!i))=true then some ((0,0,[]),false)else(g01 (b,a,d) 0 c).bind λe=>(grd (I0 e)).bind λ_=>(W05 c 0 e).bind λN=>(j02 (b,a,d) 0 N).bind λO=>match O with|(f,Q)=>(grd (I0 f)).bind λP=>(W3 (b,a,d)).bind λj=>match j with|(k,l,m)=>(if(decide (e<((c.length:Nat):Int)))=true then(K01 (b,a,d)).bind λn=>match n with|(o,t)=>match o with|(p,q,s)=>(if(!t)=true then some ((0,0,[]),false)else(W05 c e (c.length:Int)).bind λu=>(J01 (p,q,s) f u a).bind λv=>match v with|(w,A)=>match w with|(x,y,z)=>(if(!A)=true then some ((0,0,[]),false)else(K4 (x,y,z) a).bind λB=>match B with|(C,G)=>match C with|(D,E,F)=>some ((D,E,F),G)))else(K4 (k,l,m) f).bind λH=>match H with|(I,M)=>match I with|(J,K,L)=>some ((J,K,L),M)))
def h01(a:Int)(b:N1):Option (l0×Bool):=(n02 a b).bind λc=>match c with|(d,h)=>match d with|(e,f,g)=>(if(!h)=true then some ((0,0,[]),false)else(c6 (e,f,g)).bind λi=>match i with|(j,k,l)=>some ((j,k,l),true))
def h06(b:l0):Option (Int):=match b with|(c,a,d)=>(H6 (c,a,d)).bind λe=>(if(!e)=true then some (-1)else some a)
def W6(a:(List Int)):Nat->Int->Int->Int->Y0->(Int×Int)->Option (Int×Int×Y0×(Int×Int))
 |0,_,_,_,_,_=>none
 |fuel+1,d,c,b,e,f=>(if(decide (d>0))=true then(Z1 a f b).bind λj=>match j with|(g,k)=>(grd (I0 g)).bind λ_=>(Z1 a k c).bind λl=>match l with|(h,m)=>(grd (I0 h)).bind λ_=>(Z1 a m b).bind λn=>match n with|(i,o)=>(grd (I0 i)).bind λ_=>(N02 (c,b,e) (g,(IntKind.i64.wrap (1+h)),i)).bind λp=>match p with|(q,v)=>match q with|(s,t,u)=>(W6 a fuel (IntKind.i64.wrap (d-1)) s t u o)else some (c,b,e,f))
def Q02(a:List Int)(f:Int×Int):Option (l0×(Int×Int)):=(Z7 a f ([1,2,2,2,3])).bind λk=>match k with|(d,l)=>(grd (I0 d)).bind λ_=>(Z1 a l 5).bind λg=>match g with|(b,h)=>(grd (I0 b)).bind λ_=>(Z1 a h 9).bind λi=>match i with|(c,j)=>(grd (I0 c)).bind λ_=>(W6 a P0 c d (IntKind.i64.wrap (1+b)) ([]:Y0) j).bind (λe=>match e with|(y49,y50,y51,y52)=>some ((y49,y50,y51),y52))
def c04(a:List Int)(j:Int×Int):Option (l0×(Int×Int)):=(Q02 a j).bind λk=>match k with|(l,m)=>match l with|(e,f,b)=>(Z1 a m 14).bind λn=>match n with|(c,d)=>(grd (I0 c)).bind λ_=>(if(decide (c=0))=true then(Z7 a d ([(-1),0,1,41])).bind λo=>match o with|(h,p)=>(grd (I0 h)).bind λ_=>some ((e,h,b),p)else(if(decide (c=1))=true then(Z7 a d ([0,1,4])).bind λq=>match q with|(i,s)=>(grd (I0 i)).bind λ_=>some ((i,f,b),s)else(if(decide (c=2))=true then(Z1 a d 4).bind λt=>match t with|(g,u)=>(grd (I0 g)).bind λ_=>(grd ((b.length+([(g,1,0)]).length)*24<=140737488355328)).bind λ_=>some ((e,f,(b ++ [(g,1,0)])),u)else some ((e,f,b),d))))
def d04(b:List Int)(c:Int×Int):Option (l0×(Int×Int)):=(Z7 b c ([1,2,2,2,2,3])).bind λl=>match l with|(a,m)=>(grd (I0 a)).bind λ_=>(J02 b m a).bind λd=>match d with|(e,f)=>(h01 a e).bind λg=>match g with|(h,n)=>match h with|(i,j,k)=>some ((i,j,k),f)
def e04(a:List Int)(c:Int×Int):Option (l0×(Int×Int)):=(r01 a c 8).bind λd=>match d with|(e,b)=>(if e=true then(c04 a b).bind λf=>match f with|(g,k)=>match g with|(h,i,j)=>some ((h,i,j),k)else(d04 a b).bind λl=>match l with|(m,q)=>match m with|(n,o,p)=>some ((n,o,p),q))
def Q5(k:Int)(e:(List Int))(f:Int):Nat->D0->Int->Int->Int->Y0->(Int×Int)->Option (Int×Int×Y0×(Int×Int))
 |0,_,_,_,_,_,_=>none
 |fuel+1,a,c,g,h,i,j=>(if(decide (c<(IntKind.i64.wrap (1+k))))=true then(Z1 e j ((a.length:Nat):Int)).bind λm=>match m with|(b,n)=>(grd (I0 b)).bind λ_=>(gi a b).bind λo=>(Q6 i (c,f,o)).bind λp=>(W05 a 0 b).bind λd=>(grd ((([]:D0).length+d.length)*8<=140737488355328)).bind λ_=>(W05 a (IntKind.i64.wrap (b+1)) (a.length:Int)).bind λl=>(grd (((([]:D0)++d).length+l.length)*8<=140737488355328)).bind λ_=>(Q5 k e f fuel ((([]:D0)++d)++l) (IntKind.i64.wrap (c+1)) g h p n)else some (g,h,i,j))
def R5(d:Int):Nat->Int->(List Int)->(Int×Int)->Option ((List Int)×(Int×Int))
 |0,_,_,_=>none
 |fuel+1,a,b,c=>(if(decide (a<(IntKind.i64.wrap (1+d))))=true then(grd ((b.length + [a].length)*8<=140737488355328)).bind λ_=>(R5 d fuel (IntKind.i64.wrap (a+1)) (b ++ [a]) c)else some (b,c))
def S5(h:Int)(b:Int)(c:(List Int)):Nat->Int->Int->Int->Y0->(Int×Int)->Option (Int×Int×Y0×(Int×Int))
 |0,_,_,_,_,_=>none
 |fuel+1,a,d,e,f,g=>(if(decide (a<=h))=true then(R5 b P0 0 ([]:D0) g).bind (λj=>match j with|(y90,y91)=>(Q5 b c a P0 y90 0 d e f y91).bind (λi=>match i with|(y141,y142,y143,y144)=>(S5 h b c fuel (IntKind.i64.wrap (a+1)) y141 y142 y143 y144)))else some (d,e,f,g))
def P01(a:List Int)(e:Int×Int):Option (l0×(Int×Int)):=(Z7 a e ([1,2,2,2,3])).bind λl=>match l with|(c,m)=>(grd (I0 c)).bind λ_=>(Z1 a m 5).bind λf=>match f with|(b,g)=>(grd (I0 b)).bind λ_=>(S5 c b a P0 1 c (IntKind.i64.wrap (1+b)) ([]:Y0) g).bind (λd=>match d with|(y155,y156,y157,y158)=>(c6 (y155,y156,y157)).bind λh=>match h with|(i,j,k)=>some ((i,j,k),y158))
def s03(a:List Int)(c:Int×Int):Option (l0×(Int×Int)):=(r01 a c 2).bind λd=>match d with|(e,b)=>(if e=true then(P01 a b).bind λf=>match f with|(g,k)=>match g with|(h,i,j)=>some ((h,i,j),k)else(e04 a b).bind λl=>match l with|(m,q)=>match m with|(n,o,p)=>some ((n,o,p),q))
def s5(a:(List Int)):Nat->Int->(List l0)->(Int×Int)->Option ((List l0)×(Int×Int))
 |0,_,_,_=>none
 |fuel+1,f,b,g=>(if(decide (f>0))=true then(s03 a g).bind λm=>match m with|(n,o)=>match n with|(c,d,e)=>(grd ((b.length+([(c,d,e)]).length)*40<=140737488355328)).bind λ_=>(r01 a o 3).bind λp=>match p with|(q,h)=>(if q=true then(K03 a h 1 2).bind λs=>match s with|(t,i)=>(U4 (c,d,e) t).bind λu=>match u with|(v,w)=>match v with|(j,k,l)=>(if w=true then(grd (((b ++ [(c,d,e)]).length+([(j,k,l)]).length)*40<=140737488355328)).bind λ_=>(s5 a fuel (IntKind.i64.wrap (f-1)) ((b ++ [(c,d,e)]) ++ [(j,k,l)]) i)else(s5 a fuel (IntKind.i64.wrap (f-1)) (b ++ [(c,d,e)]) i))else(s5 a fuel (IntKind.i64.wrap (f-1)) (b ++ [(c,d,e)]) h))else some (b,g))
def Q01(a:(List Int)):Option (Q1):=(d01 a).bind λd=>(Z1 a d 6).bind λe=>match e with|(b,f)=>(grd (I0 b)).bind λ_=>(s5 a P0 b ([]:Q1) f).bind (λc=>match c with|(y43,y44)=>some y43)
def o6(a:(List Int)):Option (Q1):=(Q01 a).bind λb=>some b
def j9(a:(List Int)):Option (Q1):=(Q01 a).bind λb=>some b
def U9(a:(List Int)):Option (Int×Int):=(d01 a).bind λd=>(Z1 a d 6).bind λe=>match e with|(b,f)=>(grd (I0 b)).bind λ_=>(Z1 a f 10).bind λg=>match g with|(c,h)=>(grd (I0 c)).bind λ_=>some ((IntKind.i64.wrap (b-1)),(IntKind.i64.wrap (c-1)))
def J8(a:(List Int)):Option (Int):=(d01 a).bind λc=>(Z1 a c 15).bind λd=>match d with|(b,e)=>(grd (I0 b)).bind λ_=>some (IntKind.i64.wrap (b-1))
def p6(a:(List Int)):Option (Int×Int):=(d01 a).bind λd=>(Z1 a d 5).bind λe=>match e with|(b,f)=>(grd (I0 b)).bind λ_=>(Z1 a f 5).bind λg=>match g with|(c,h)=>(grd (I0 c)).bind λ_=>some (b,c)
def I6(f:D0):Nat->Int->Int->Int->Y0->(List Int)->Option (Int×Int×Y0×(List Int))
 |0,_,_,_,_,_=>none
 |fuel+1,a,b,c,d,e=>(if(decide (a<((f.length:Nat):Int)))=true then(gi f a).bind λi=>(C5 (b,c,d) 0 i).bind λg=>(grd (I0 g)).bind λ_=>(if(decide (g ≥ 0))=true then(gi f a).bind λh=>(grd ((e.length + [h].length)*8<=140737488355328)).bind λ_=>(K4 (b,c,d) g).bind λj=>match j with|(k,o)=>match k with|(l,m,n)=>some (l,m,n,(e ++ [h]))else(I6 f fuel (IntKind.i64.wrap (a+1)) b c d e))else some (b,c,d,e))
def J6:Nat->Int->Int->Int->Y0->(List Int)->Option (Int×Int×Y0×(List Int))
 |0,_,_,_,_,_=>none
 |fuel+1,c,b,a,d,e=>(chk (bif(decide (c<40))then(decide (a>1))else false) (i00 (b,a,d) 0) 0).bind λf=>(grd (I0 f)).bind λ_=>(if(bif(bif(decide (c<40))then(decide (a>1))else false)then(decide (f=1))else false)=true then(R6 b).bind λh=>(I6 h P0 0 b a d e).bind (λg=>match g with|(y46,y47,y48,y49)=>(J6 fuel (IntKind.i64.wrap (c+1)) y46 y47 y48 y49))else some (b,a,d,e))
def r9(e:l0):Option (l0×D0):=match e with|(a,b,c)=>(L3 (a,b,c)).bind λf=>(if(!f)=true then(W3 (a,b,c)).bind λk=>match k with|(l,m,n)=>some ((l,m,n),([]:D0))else(W3 (a,b,c)).bind λg=>match g with|(h,i,j)=>(J6 P0 0 h i j ([]:D0)).bind (λd=>match d with|(y57,y58,y59,y60)=>some ((y57,y58,y59),y60)))
def U2(b:Int)(c:Int)(d:Y0)(e:Int)(f:Int)(g:Y0)(i:D0)(h:D0):Nat->Int->Option ((D0×Bool) ⊕ (Unit))
 |0,_=>none
 |fuel+1,a=>(if(decide (a<b))=true then(K4 (c,b,d) a).bind λj=>match j with|(k,u)=>match k with|(l,m,n)=>(T4 (l,m,n) (e,f,g)).bind λo=>(if o=true then(U00 (c,b,d) a).bind λp=>(W7 i p).bind λq=>(a00 h).bind λs=>(W7 q s).bind λt=>some (.inl (t,true))else(U2 b c d e f g i h fuel (IntKind.i64.wrap (a+1))))else some (.inr ()))
def j2(m:l0)(n:l0):Option (D0×Bool):=match m with|(a,c,d)=>match n with|(b,e,f)=>(L3 (a,c,d)).bind λg=>(chk (!(!g)) (L3 (b,e,f)) false).bind λt=>(if(bif(bif(!g)then true else(!t))then true else(!decide (a=b)))=true then some (([]:D0),false)else(r9 (a,c,d)).bind λu=>match u with|(v,x)=>match v with|(w,j,k)=>(r9 (b,e,f)).bind λo=>match o with|(p,s)=>match p with|(q,h,i)=>(if(bif(!decide (j=h))then true else(!decide (((k.length:Nat):Int)=((i.length:Nat):Int))))=true then some (([]:D0),false)else(U2 j w k q h i x s P0 0).bind λl=>d9 l (λ_=>some (([]:D0),false))))
def T2(d:Q1)(c:Int):Nat->Bool->Int->(List D0)->Option (Bool×(List D0))
 |0,_,_,_=>none
 |fuel+1,u8,b,a=>(some a.length).bind λf=>(grd (f<=9223372036854775807)).bind λ_=>(if(bif(decide (b<((f:Nat):Int)))then(!u8)else false)=true then(gi a b).bind λg=>(gi g 0).bind λh=>(gi d h).bind λi=>match i with|(j,k,l)=>(gi d c).bind λm=>match m with|(n,o,p)=>(j2 (j,k,l) (n,o,p)).bind λq=>match q with|(t,s)=>(if s=true then(gi a b).bind λe=>(grd (0<e.length)).bind λ_=>(grd ((e.length + [c].length)*8<=140737488355328)).bind λ_=>(gi a b).bind λu=>(T2 d c fuel true (IntKind.i64.wrap (b+1)) (a.set b.toNat (e ++ [c])))else(T2 d c fuel u8 (IntKind.i64.wrap (b+1)) a))else some (u8,a))
def J3(b:Q1):Nat->Int->(List D0)->Option ((List D0))
 |0,_,_=>none
 |fuel+1,a,c=>(if(decide (a<((b.length:Nat):Int)))=true then(T2 b a P0 false 0 c).bind (λd=>match d with|(y71,y72)=>(if(!y71)=true then(grd ((y72.length + [[a]].length)*24<=140737488355328)).bind λ_=>(J3 b fuel (IntKind.i64.wrap (a+1)) (y72 ++ [[a]]))else(J3 b fuel (IntKind.i64.wrap (a+1)) y72)))else some (c))
def p8(a:Q1):Option (N1):=(J3 a P0 0 ([]:N1)).bind (λb=>some b)
def K6(f:D0):Nat->Int->Int->Int->Y0->(List Int)->Option (Int×Int×Y0×(List Int))
 |0,_,_,_,_,_=>none
 |fuel+1,e,a,b,c,d=>(if(decide (e<((f.length:Nat):Int)))=true then(gi f e).bind λg=>(A7 (a,b,c) 0 g).bind λh=>(grd (I0 h)).bind λ_=>(if(decide (h ≥ 0))=true then(j00 (a,b,c) h).bind λi=>match i with|(j,n)=>match j with|(k,l,m)=>(grd ((d.length + [g].length)*8<=140737488355328)).bind λ_=>some (k,l,m,(d ++ [g]))else(K6 f fuel (IntKind.i64.wrap (e+1)) a b c d))else some (a,b,c,d))
def L6:Nat->Int->Int->Y0->(List Int)->Option (Int×Int×Y0×(List Int))
 |0,_,_,_,_=>none
 |fuel+1,b,a,c,d=>(chk (decide (a>1)) (T00 (b,a,c) 0) 0).bind λe=>(grd (I0 e)).bind λ_=>(if(bif(decide (a>1))then(decide (e=1))else false)=true then(N7 b).bind λg=>(K6 g P0 0 b a c d).bind (λf=>match f with|(y41,y42,y43,y44)=>(L6 fuel y41 y42 y43 y44))else some (b,a,c,d))
def t9(h:l0):Option (l0×D0):=match h with|(a,b,c)=>(n5 (a,b,c)).bind λi=>match i with|(d,e,f)=>(C8 (a,b,c)).bind λj=>(if(!j)=true then some ((d,e,f),([]:D0))else(L6 P0 d e f ([]:D0)).bind (λg=>match g with|(y52,y53,y54,y55)=>some ((y52,y53,y54),y55)))
def V2(b:Int)(c:Int)(d:Y0)(e:Int)(f:Int)(g:Y0)(h:D0)(i:D0):Nat->Int->Option ((D0×Bool) ⊕ (Unit))
 |0,_=>none
 |fuel+1,a=>(if(decide (a<b))=true then(j00 (c,b,d) a).bind λj=>match j with|(k,t)=>match k with|(l,m,n)=>(B6 (l,m,n) (e,f,g)).bind λo=>(if o=true then(V00 (c,b,d) a).bind λp=>(c01 h).bind λq=>(I02 ([i,p,q])).bind λs=>some (.inl (s,true))else(V2 b c d e f g h i fuel (IntKind.i64.wrap (a+1))))else some (.inr ()))
def N2(i:l0)(j:l0):Option (D0×Bool):=match i with|(a,c,d)=>match j with|(b,e,f)=>(C8 (a,c,d)).bind λg=>(chk (!(!g)) (C8 (b,e,f)) false).bind λq=>(if(bif(bif(!g)then true else(!q))then true else(!decide (a=b)))=true then some (([]:D0),false)else(t9 (a,c,d)).bind λs=>match s with|(t,x)=>match t with|(u,v,w)=>(t9 (b,e,f)).bind λk=>match k with|(l,p)=>match l with|(m,n,o)=>(V2 v u w m n o p x P0 0).bind λh=>d9 h (λ_=>some (([]:D0),false)))
def d4(e:Nat)(f:Q1)(h:Int)(i:Int)(j:Y0)(d:Int):Nat->Bool->Int->(List D0)->Option (Bool×(List D0))
 |0,_,_,_=>none
 |fuel+1,g,a,b=>(if(decide (a<((e:Nat):Int)))=true then(gi b a).bind λc=>(gi c 0).bind λk=>(gi f k).bind λl=>match l with|(m,n,o)=>(N2 (h,i,j) (m,n,o)).bind λp=>match p with|(s,q)=>(if q=true then(grd (0<c.length)).bind λ_=>(grd ((c.length + [d].length)*8<=140737488355328)).bind λ_=>(gi b a).bind λt=>some (true,(b.set a.toNat (c ++ [d])))else(d4 e f h i j d fuel g (IntKind.i64.wrap (a+1)) b))else some (g,b))
def K3(b:Q1):Nat->Int->(List D0)->Option ((List D0))
 |0,_,_=>none
 |fuel+1,a,c=>(if(decide (a<((b.length:Nat):Int)))=true then(gi b a).bind λf=>match f with|(g,h,i)=>(some c.length).bind λd=>(grd (d<=9223372036854775807)).bind λ_=>(d4 d b g h i a P0 false 0 c).bind (λe=>match e with|(y69,y70)=>(if(!y69)=true then(grd ((y70.length + [[a]].length)*24<=140737488355328)).bind λ_=>(K3 b fuel (IntKind.i64.wrap (a+1)) (y70 ++ [[a]]))else(K3 b fuel (IntKind.i64.wrap (a+1)) y70)))else some (c))
def F4(a:Q1):Option (N1):=(K3 a P0 0 ([]:N1)).bind (λb=>some b)
def K8(c:Int)(a:D0):Nat->Int->Option ((Bool) ⊕ (Unit))
 |0,_=>none
 |fuel+1,b=>(if(decide (b<c))=true then(gi a b).bind λd=>(gi a c).bind λe=>(if(decide (d=e))=true then some (.inl false)else(K8 c a fuel (IntKind.i64.wrap (b+1))))else some (.inr ()))
def L8(a:D0):Nat->Int->Option ((Bool) ⊕ (Unit))
 |0,_=>none
 |fuel+1,b=>(if(decide (b<((a.length:Nat):Int)))=true then(gi a b).bind λd=>(E2 d 0 (IntKind.i64.wrap (((a.length:Nat):Int)-1))).bind λe=>(if(!e)=true then some (.inl false)else(K8 b a P0 0).bind λc=>c0m c (λ_=>(L8 a fuel (IntKind.i64.wrap (b+1)))))else some (.inr ()))
def R02(a:D0):Option (Bool):=(L8 a P0 0).bind λb=>d9 b (λ_=>some (decide (((a.length:Nat):Int)<=40)))
def i01(a:Q1)(c:Int)(d:Int)(e:Y0):Nat->Int->Option ((Bool) ⊕ (Unit))
 |0,_=>none
 |fuel+1,b=>(if(decide (b<((a.length:Nat):Int)))=true then(gi a b).bind λf=>match f with|(g,h,i)=>(T4 (g,h,i) (c,d,e)).bind λj=>(if j=true then some (.inl true)else(i01 a c d e fuel (IntKind.i64.wrap (b+1))))else some (.inr ()))
def W04(b:Q1)(c:l0):Option (Bool):=match c with|(d,e,f)=>(i01 b d e f P0 0).bind λa=>d9 a (λ_=>some false)
def l9(c:(List l0))(e:Int)(f:Int)(g:Y0):Nat->Bool->Int->Option (Bool)
 |0,_,_=>none
 |fuel+1,a,b=>(some c.length).bind λd=>(grd (d<=9223372036854775807)).bind λ_=>(if(decide (b<((d:Nat):Int)))=true then(chk (!a) (gi c b) (0,0,[])).bind λh=>match h with|(i,j,k)=>(chk (!a) (T4 (i,j,k) (e,f,g)) false).bind λl=>(l9 c e f g fuel (bif a then true else l) (IntKind.i64.wrap (b+1)))else some (a))
def L7(a:Int)(d:Int)(e:Y0):Nat->Int->(List l0)->Option ((List l0))
 |0,_,_=>none
 |fuel+1,b,c=>(chk (decide (b<a)) (F6 (d,a,e)) false).bind λi=>(if(bif(decide (b<a))then i else false)=true then(K4 (d,a,e) b).bind λj=>match j with|(k,m)=>match k with|(f,g,h)=>(l9 c f g h P0 false 0).bind (λl=>(if(!l)=true then(grd ((c.length+([(f,g,h)]).length)*40<=140737488355328)).bind λ_=>(L7 a d e fuel (IntKind.i64.wrap (b+1)) (c ++ [(f,g,h)]))else(L7 a d e fuel (IntKind.i64.wrap (b+1)) c)))else some (c))
def m03(a:l0):Option (Q1):=match a with|(b,c,d)=>(L7 c b d P0 0 ([]:Q1)).bind (λe=>some e)
def d00(f:Int)(b:N1)(c:Int):Nat->Int->(List D0)->Option ((List D0))
 |0,_,_=>none
 |fuel+1,a,d=>(if(decide (a<f))=true then(gi b c).bind λg=>(J9 g a).bind λh=>(if(!h)=true then(gi b c).bind λe=>(grd ((([]:D0).length+e.length)*8<=140737488355328)).bind λ_=>(grd (((([]:D0)++e).length + [a].length)*8<=140737488355328)).bind λ_=>(grd ((d.length+([((([]:D0)++e) ++ [a])]).length)*24<=140737488355328)).bind λ_=>(d00 f b c fuel (IntKind.i64.wrap (a+1)) (d ++ [((([]:D0)++e) ++ [a])]))else(d00 f b c fuel (IntKind.i64.wrap (a+1)) d))else some (d))
def j01(a:N1)(c:Int):Nat->Int->(List D0)->Option ((List D0))
 |0,_,_=>none
 |fuel+1,b,d=>(if(decide (b<((a.length:Nat):Int)))=true then(d00 c a b P0 0 d).bind (λe=>(j01 a c fuel (IntKind.i64.wrap (b+1)) e))else some (d))
def k01(a:Int):Nat->N1->Int->Option (N1)
 |0,_,_=>none
 |fuel+1,b,c=>(if(decide (c<a))=true then(j01 b a P0 0 ([]:N1)).bind (λd=>(k01 a fuel d (IntKind.i64.wrap (c+1))))else some (b))
def X04(a:Int):Option (N1):=(k01 a P0 ([([]:D0)]) 0).bind (λb=>some b)
def l01(b:Int)(a:Int):Nat->Int->Int->Option (Int)
 |0,_,_=>none
 |fuel+1,c,d=>(if(decide (d<b))=true then(l01 b a fuel (IntKind.i64.wrap (c*a)) (IntKind.i64.wrap (d+1)))else some (c))
def t02(a:Int)(b:Int):Option (Int):=(l01 b a P0 1 0).bind (λc=>some c)
def M8(d:N1)(c:Int):Nat->Int->Int->Int->Y0->Option (Int×Int×Y0)
 |0,_,_,_,_=>none
 |fuel+1,a,e,b,f=>(if(decide (a<b))=true then(gi d c).bind λg=>(gi g a).bind λh=>(Q6 f (a,(IntKind.i64.wrap (c+1)),h)).bind λi=>(M8 d c fuel (IntKind.i64.wrap (a+1)) e b i)else some (e,b,f))
def N8(c:Int)(b:N1):Nat->Int->Int->Int->Y0->Option ((l0×Bool) ⊕ (Int×Int×Y0))
 |0,_,_,_,_=>none
 |fuel+1,a,d,u8,e=>(if(decide (a<c))=true then(gi b a).bind λh=>(R02 h).bind λf=>(chk (!(!f)) (gi b a) []).bind λi=>(if(bif(!f)then true else(!decide (((i.length:Nat):Int)=u8)))=true then some (.inl ((0,0,[]),false))else(M8 b a P0 0 d u8 e).bind (λg=>match g with|(y41,y42,y43)=>(N8 c b fuel (IntKind.i64.wrap (a+1)) y41 y42 y43)))else some (.inr (d,u8,e)))
def S02(a:Int)(b:N1):Option (l0×Bool):=(E2 a 1 3).bind λc=>(chk (!(bif(!c)then true else(!decide (((b.length:Nat):Int)=a)))) (gi b 0) []).bind λf=>(if(bif(bif(!c)then true else(!decide (((b.length:Nat):Int)=a)))then true else(decide (((f.length:Nat):Int)=0)))=true then some ((0,0,[]),false)else(gi b 0).bind λg=>(N8 a b P0 0 a ((g.length:Nat):Int) ([]:Y0)).bind λe=>d9 e (λd=>match d with|(y51,y52,y53)=>(if(decide (((y53.length:Nat):Int)>120))=true then some ((0,0,[]),false)else(c6 (y51,y52,y53)).bind λh=>match h with|(i,j,k)=>some ((i,j,k),true))))
def d7(c:Int)(a:N1):Nat->Int->Int->(List D0)->Option ((List D0))
 |0,_,_,_=>none
 |fuel+1,d,e,b=>(if(decide (e<c))=true then(grd (((a.length:Nat):Int)≠0)).bind λ_=>(gi a (Int.tmod d ((a.length:Nat):Int))).bind λf=>(grd ((b.length + [f].length)*24<=140737488355328)).bind λ_=>(grd (((a.length:Nat):Int)≠0)).bind λ_=>(d7 c a fuel (IntKind.i64.wrap (Int.tdiv d ((a.length:Nat):Int))) (IntKind.i64.wrap (e+1)) (b ++ [f]))else some (b))
def L5(f:Int)(c:Int)(i:N1)(d:Int):Nat->Int->(List l0)->Option ((List l0))
 |0,_,_=>none
 |fuel+1,e,a=>(if(decide (e<f))=true then(d7 c i P0 e 0 ([]:N1)).bind (λm=>(S02 c m).bind λj=>match j with|(k,n)=>match k with|(g,b,h)=>(chk (decide (b=d)) (W04 a (g,b,h)) false).bind λl=>(if(bif(decide (b=d))then(!l)else false)=true then(grd ((a.length+([(g,b,h)]).length)*40<=140737488355328)).bind λ_=>(L5 f c i d fuel (IntKind.i64.wrap (e+1)) (a ++ [(g,b,h)]))else(L5 f c i d fuel (IntKind.i64.wrap (e+1)) a)))else some (a))
def V3(a:Int)(b:Int):Option (Q1×Bool):=(E2 a 1 3).bind λc=>(chk (!(!c)) (E2 b 1 3) false).bind λf=>(if(bif(bif(!c)then true else(!f))then true else(bif(decide (a=3))then(decide (b=3))else false))=true then some (([]:Q1),false)else(X04 b).bind λe=>(t02 ((e.length:Nat):Int) a).bind λd=>(grd (I0 d)).bind λ_=>(L5 d a e b P0 0 ([]:Q1)).bind (λg=>some (g,true)))
def O8(a:D0):Nat->Int->(List Bool)->Option ((Bool) ⊕ ((List Bool)))
 |0,_,_=>none
 |fuel+1,d,b=>(if(decide (d<((a.length:Nat):Int)))=true then(gi a d).bind λc=>(B5 c 0 (IntKind.i64.wrap (((a.length:Nat):Int)-1))).bind λe=>(chk (!(!e)) (gi b c) false).bind λf=>(if(bif(!e)then true else f)=true then some (.inl false)else(gi b c).bind λg=>(O8 a fuel (IntKind.i64.wrap (d+1)) (b.set c.toNat true)))else some (.inr (b)))
def T02(a:D0):Option (Bool):=(if(decide (((a.length:Nat):Int)>40))=true then some false else(grd ((0:Int)<=((a.length:Nat):Int)/\((a.length:Nat):Int)<=((a.length:Nat):Int)/\((a.length:Nat):Int)*1<=140737488355328/\((a.length:Nat):Int)<=9223372036854775807)).bind λ_=>(O8 a P0 0 (List.replicate ((a.length:Nat):Int).toNat (false:Bool))).bind λb=>d9 b (λc=>some true))
def m01(a:Q1)(c:Int)(d:Int)(e:Y0):Nat->Int->Option ((Bool) ⊕ (Unit))
 |0,_=>none
 |fuel+1,b=>(if(decide (b<((a.length:Nat):Int)))=true then(gi a b).bind λf=>match f with|(g,h,i)=>(B6 (g,h,i) (c,d,e)).bind λj=>(if j=true then some (.inl true)else(m01 a c d e fuel (IntKind.i64.wrap (b+1))))else some (.inr ()))
def Y04(b:Q1)(c:l0):Option (Bool):=match c with|(d,e,f)=>(m01 b d e f P0 0).bind λa=>d9 a (λ_=>some false)
def S00(n:Nat):Nat->D0->N1
 |0,l=>[l]
 |k+1,l=>(List.range n).flatMap λx:Nat=>bif l.contains (x:Int)then []else S00 n k (l ++ [(x:Int)])
def n03(n:Int):Option N1:=if 1<=n/\n<=3 then some (S00 n.toNat n.toNat [])else none
def P8(d:D0)(c:Int):Nat->Int->Int->Int->(List Q0)->Option (Int×Int×(List Q0))
 |0,_,_,_,_=>none
 |fuel+1,a,e,f,b=>(if(decide (a<((d.length:Nat):Int)))=true then(gi d a).bind λg=>(grd ((b.length+([(a,(IntKind.i64.wrap (c+1)),g)]).length)*24<=140737488355328)).bind λ_=>(P8 d c fuel (IntKind.i64.wrap (a+1)) e f (b ++ [(a,(IntKind.i64.wrap (c+1)),g)]))else some (e,f,b))
def Q8(b:N1):Nat->Int->Int->Int->(List Q0)->Option ((l0×Bool) ⊕ (Int×Int×(List Q0)))
 |0,_,_,_,_=>none
 |fuel+1,a,u8,c,e=>(if(decide (a<((b.length:Nat):Int)))=true then(gi b a).bind λd=>(T02 d).bind λg=>(if(bif(!g)then true else(!decide (((d.length:Nat):Int)=c)))=true then some (.inl ((0,0,[]),false))else(P8 d a P0 0 u8 c e).bind (λf=>match f with|(y28,y29,y30)=>(Q8 b fuel (IntKind.i64.wrap (a+1)) y28 y29 y30)))else some (.inr (u8,c,e)))
def U02(b:Int)(a:N1):Option (l0×Bool):=(B5 b 1 3).bind λc=>(chk (!(bif(!c)then true else(!decide (((a.length:Nat):Int)=b)))) (gi a 0) []).bind λd=>(chk (!(bif(bif(!c)then true else(!decide (((a.length:Nat):Int)=b)))then true else(decide (((d.length:Nat):Int)=0)))) (gi a 0) []).bind λg=>(if(bif(bif(bif(!c)then true else(!decide (((a.length:Nat):Int)=b)))then true else(decide (((d.length:Nat):Int)=0)))then true else(decide ((IntKind.i64.wrap (((g.length:Nat):Int)*b))>120)))=true then some ((0,0,[]),false)else(gi a 0).bind λh=>(Q8 a P0 0 b ((h.length:Nat):Int) ([]:Y0)).bind λf=>d9 f (λe=>match e with|(y45,y46,y47)=>(u01 y47).bind λi=>(B00 (y45,y46,i)).bind λj=>match j with|(k,l,m)=>some ((k,l,m),true)))
def g7(c:Int)(a:N1):Nat->Int->Int->(List D0)->Option ((List D0))
 |0,_,_,_=>none
 |fuel+1,d,e,b=>(if(decide (d<c))=true then(grd (((a.length:Nat):Int)≠0)).bind λ_=>(gi a (Int.tmod e ((a.length:Nat):Int))).bind λf=>(grd ((b.length + [f].length)*24<=140737488355328)).bind λ_=>(grd (((a.length:Nat):Int)≠0)).bind λ_=>(g7 c a fuel (IntKind.i64.wrap (d+1)) (IntKind.i64.wrap (Int.tdiv e ((a.length:Nat):Int))) (b ++ [f]))else some (b))
def M5(f:Int)(c:Int)(i:N1)(d:Int):Nat->Int->(List l0)->Option ((List l0))
 |0,_,_=>none
 |fuel+1,e,a=>(if(decide (e<f))=true then(g7 c i P0 0 e ([]:N1)).bind (λn=>(U02 c n).bind λk=>match k with|(l,j)=>match l with|(g,b,h)=>(chk (bif j then(decide (b=d))else false) (Y04 a (g,b,h)) false).bind λm=>(if(bif(bif j then(decide (b=d))else false)then(!m)else false)=true then(grd ((a.length+([(g,b,h)]).length)*40<=140737488355328)).bind λ_=>(M5 f c i d fuel (IntKind.i64.wrap (e+1)) (a ++ [(g,b,h)]))else(M5 f c i d fuel (IntKind.i64.wrap (e+1)) a)))else some (a))
def i7(a:Int)(d:N1):Nat->Int->Int->Option (Int)
 |0,_,_=>none
 |fuel+1,b,c=>(if(decide (c<a))=true then(i7 a d fuel (IntKind.i64.wrap (b*((d.length:Nat):Int))) (IntKind.i64.wrap (c+1)))else some (b))
def w5(a:Int)(b:Int):Option (Q1×Bool):=(B5 a 1 3).bind λc=>(chk (!(!c)) (B5 b 1 3) false).bind λe=>(if(bif(bif(!c)then true else(!e))then true else(bif(decide (a=3))then(decide (b=3))else false))=true then some (([]:Q1),false)else(n03 b).bind λd=>(i7 a d P0 1 0).bind (λg=>(M5 g a d b P0 0 ([]:Q1)).bind (λf=>some (f,true))))
def V9(b:Int):Nat->Int->Int->Option (Int)
 |0,_,_=>none
 |fuel+1,c,a=>(if(decide (a<=b))=true then(V9 b fuel (IntKind.i64.wrap (c*a)) (IntKind.i64.wrap (a+1)))else some (c))
def S7(a:Int):Option (Int):=(E2 a 0 12).bind λb=>(if(!b)=true then some 0 else(V9 a P0 1 2).bind (λc=>some c))
def W9(b:Int):Nat->Int->Int->Option (Int)
 |0,_,_=>none
 |fuel+1,c,a=>(if(decide (a<=b))=true then(W9 b fuel (IntKind.i64.wrap (c*a)) (IntKind.i64.wrap (a+1)))else some (c))
def w9(a:Int):Option (Int):=(B5 a 0 12).bind λb=>(if(!b)=true then some 0 else(W9 a P0 1 2).bind (λc=>some c))
def L00(b:Int)(c:Int)(e:(List Int)):Nat->Int->Int->Option (Int)
 |0,_,_=>none
 |fuel+1,d,a=>(if(decide (a<b))=true then(S7 (IntKind.i64.wrap (b-a))).bind λf=>(grd (I0 f)).bind λ_=>(t02 f (IntKind.i64.wrap (c-1))).bind λg=>(grd (I0 g)).bind λ_=>(gi e a).bind λh=>(L00 b c e fuel (IntKind.i64.wrap (d-(IntKind.i64.wrap (g*h)))) (IntKind.i64.wrap (a+1)))else some (d))
def M00(d:Int)(c:Int):Nat->Int->(List Int)->Option ((List Int))
 |0,_,_=>none
 |fuel+1,a,b=>(if(decide (a<=d))=true then(S7 a).bind λe=>(grd (I0 e)).bind λ_=>(t02 e (IntKind.i64.wrap (c-1))).bind λf=>(grd (I0 f)).bind λ_=>(L00 a c b P0 (IntKind.i64.wrap (a*f)) 1).bind (λg=>(grd ((b.length + [g].length)*8<=140737488355328)).bind λ_=>(M00 d c fuel (IntKind.i64.wrap (a+1)) (b ++ [g])))else some (b))
def S01(b:Int)(a:Int):Option (Int):=(E2 b 1 3).bind λc=>(chk (!(!c)) (E2 a 1 7) false).bind λd=>(if(bif(!c)then true else(!d))=true then some (-1)else(M00 a b P0 1 [0]).bind (λf=>(gi f a).bind λe=>some e))
def Y9(b:Int)(a:Int):Nat->Int->Int->Option (Int)
 |0,_,_=>none
 |fuel+1,c,d=>(if(decide (d<b))=true then(w9 a).bind λe=>(grd (I0 e)).bind λ_=>(Y9 b a fuel (IntKind.i64.wrap (c*e)) (IntKind.i64.wrap (d+1)))else some (c))
def f02(a:Int)(b:Int):Option (Int):=(Y9 b a P0 1 1).bind (λc=>some c)
def N00(b:Int)(c:Int)(e:(List Int)):Nat->Int->Int->Option (Int)
 |0,_,_=>none
 |fuel+1,d,a=>(if(decide (a<b))=true then(f02 (IntKind.i64.wrap (b-a)) c).bind λf=>(grd (I0 f)).bind λ_=>(gi e a).bind λg=>(N00 b c e fuel (IntKind.i64.wrap (d-(IntKind.i64.wrap (f*g)))) (IntKind.i64.wrap (a+1)))else some (d))
def O00(d:Int)(c:Int):Nat->Int->(List Int)->Option ((List Int))
 |0,_,_=>none
 |fuel+1,a,b=>(if(decide (a<=d))=true then(f02 a c).bind λe=>(grd (I0 e)).bind λ_=>(N00 a c b P0 (IntKind.i64.wrap (a*e)) 1).bind (λf=>(grd ((b.length + [f].length)*8<=140737488355328)).bind λ_=>(O00 d c fuel (IntKind.i64.wrap (a+1)) (b ++ [f])))else some (b))
def z9(b:Int)(a:Int):Option (Int):=(B5 b 1 3).bind λc=>(chk (!(!c)) (B5 a 1 7) false).bind λd=>(if(bif(!c)then true else(!d))=true then some (-1)else(O00 a b P0 2 ([0,1])).bind (λf=>(gi f a).bind λe=>some e))
def z04(a:(List Int)):Option (Bool):=some (decide (((a.length:Nat):Int)>1048576))
def F7(b:D0)(c:D0):Nat->Int->Option ((Bool) ⊕ (Unit))
 |0,_=>none
 |fuel+1,a=>(if(decide (a<((b.length:Nat):Int)))=true then(gi b a).bind λd=>(gi c a).bind λe=>(if(!decide (d=e))=true then some (.inl false)else(F7 b c fuel (IntKind.i64.wrap (a+1))))else some (.inr ()))
def k00(a:D0)(b:D0):Option (Bool):=(if(!decide (((a.length:Nat):Int)=((b.length:Nat):Int)))=true then some false else(F7 a b P0 0).bind λc=>d9 c (λ_=>some true))
def M6(b:N1)(c:N1):Nat->Int->Option ((Bool) ⊕ (Unit))
 |0,_=>none
 |fuel+1,a=>(if(decide (a<((b.length:Nat):Int)))=true then(gi b a).bind λd=>(gi c a).bind λe=>(k00 d e).bind λf=>(if(!f)=true then some (.inl false)else(M6 b c fuel (IntKind.i64.wrap (a+1))))else some (.inr ()))
def C00(a:N1)(b:N1):Option (Bool):=(if(!decide (((a.length:Nat):Int)=((b.length:Nat):Int)))=true then some false else(M6 a b P0 0).bind λc=>d9 c (λ_=>some true))
def p00(b:Q1)(c:Q1):Nat->Int->Option ((Bool) ⊕ (Unit))
 |0,_=>none
 |fuel+1,a=>(if(decide (a<((b.length:Nat):Int)))=true then(gi b a).bind λd=>match d with|(e,f,g)=>(gi c a).bind λh=>match h with|(i,j,k)=>(T4 (e,f,g) (i,j,k)).bind λl=>(if(!l)=true then some (.inl false)else(p00 b c fuel (IntKind.i64.wrap (a+1))))else some (.inr ()))
def B02(a:Q1)(b:Q1):Option (Bool):=(if(!decide (((a.length:Nat):Int)=((b.length:Nat):Int)))=true then some false else(p00 a b P0 0).bind λc=>d9 c (λ_=>some true))
def W00(b:Q1)(c:Int):Nat->Int->Option ((Bool) ⊕ (Unit))
 |0,_=>none
 |fuel+1,a=>(if(decide (a<((b.length:Nat):Int)))=true then(gi b a).bind λe=>match e with|(f,g,h)=>(h06 (f,g,h)).bind λd=>(grd (I0 d)).bind λ_=>(if(!decide (d=c))=true then some (.inl false)else(W00 b c fuel (IntKind.i64.wrap (a+1))))else some (.inr ()))
def X00(b:N1)(f:Q1):Nat->Int->Int->Option ((Bool) ⊕ (Int))
 |0,_,_=>none
 |fuel+1,d,a=>(if(decide (a<((b.length:Nat):Int)))=true then(gi b a).bind λg=>(gi b a).bind λc=>(chk (!(decide (((c.length:Nat):Int)=0))) (gi b a) []).bind λh=>(chk (!(decide (((c.length:Nat):Int)=0))) (gi b a) []).bind λi=>(chk (!(decide (((c.length:Nat):Int)=0))) (gi i 0) 0).bind λj=>(chk (!(decide (((c.length:Nat):Int)=0))) (gi f j) (0,0,[])).bind λk=>match k with|(l,m,n)=>(chk (!(decide (((c.length:Nat):Int)=0))) (m03 (l,m,n)) []).bind λe=>(grd (e.length<=9223372036854775807)).bind λo=>(if(bif(decide (((c.length:Nat):Int)=0))then true else(!decide (((h.length:Nat):Int)=((e.length:Nat):Int))))=true then some (.inl false)else(X00 b f fuel (IntKind.i64.wrap (d+((g.length:Nat):Int))) (IntKind.i64.wrap (a+1))))else some (.inr (d)))
def t03(b:(List Int)):Option (Bool):=(z04 b).bind λw=>(if w=true then some true else(p6 b).bind λD=>match D with|(i,e)=>(grd (I0 i)).bind λ_=>(grd (I0 e)).bind λ_=>(w5 i e).bind λE=>match E with|(F,f)=>(V3 i e).bind λG=>match G with|(c,m)=>(chk (!(!(f == m))) (B02 F c) false).bind λn=>(chk (f&&(!(bif(!(f == m))then true else(!n)))) (z9 i e) 0).bind λo=>(grd (I0 o)).bind λ_=>(if(bif(bif(!(f == m))then true else(!n))then true else(bif f then(!decide (((c.length:Nat):Int)=o))else false))=true then some false else(F4 c).bind λx=>(X00 x c P0 0 0).bind λv=>d9 v (λH=>(if(!decide (H=((c.length:Nat):Int)))=true then some false else(W00 c e P0 0).bind λu=>d9 u (λ_=>(o6 b).bind λp=>(F4 p).bind λy=>(p8 p).bind λz=>(j9 b).bind λq=>(U9 b).bind λA=>match A with|(j,k)=>(grd (I0 j)).bind λ_=>(grd (I0 k)).bind λ_=>(J8 b).bind λl=>(grd (I0 l)).bind λ_=>(C00 y z).bind λa=>(chk a (f01 q) []).bind λB=>(chk a (e01 q) []).bind λC=>(chk a (k00 B C) false).bind λd=>(chk (bif a then d else false) (z9 j k) 0).bind λg=>(grd (I0 g)).bind λI=>(chk (bif a then d else false) (S01 j k) 0).bind λh=>(grd (I0 h)).bind λJ=>(chk (bif(bif a then d else false)then(decide (g=h))else false) (w9 l) 0).bind λs=>(grd (I0 s)).bind λK=>(chk (bif(bif a then d else false)then(decide (g=h))else false) (S7 l) 0).bind λt=>(grd (I0 t)).bind λL=>some (bif(bif(bif a then d else false)then(decide (g=h))else false)then(decide (s=t))else false))))))
end Go.Proofs.YtmgikbbmpnbbjaaGreat
