/- Texts of the claim, joined: What functions of the program compute, in plain words: batch and others. -/
import Derived.Test.YthakcafglempaaaGreatPart23
import Derived.Test.YthakcafglempaaaGreatH36
namespace Go.Proofs.YthakcafglempaaaGreat
set_option linter.all false
open Go.H
open IntKind (i64)
set_option maxRecDepth 10000
def P4(a:Int)(b:Int)(p2:Int):Option (Bool):=some (bif(decide (a ≥ b))then(decide (a<=p2))else false)
def A00(b:I0)(d:Int):Nat->Int->Option ((Bool) ⊕ (Unit))
 |0,_=>none
 |fuel+1,a=>(if(decide (a<((b.length:Nat):Int)))=true then(gi b a).bind λc=>(chk (!(decide (c=0))) (gi b a) 0).bind λg=>(chk (!(decide (c=0))) (P4 g (i64.wrap (0-d)) d) false).bind λe=>(chk ((decide (a>0))&&(!(bif(decide (c=0))then true else(!e)))) (gi b a) 0).bind λh=>(chk ((decide (a>0))&&(!(bif(decide (c=0))then true else(!e)))) (gi b (i64.wrap (a-1))) 0).bind λf=>(if(bif(bif(decide (c=0))then true else(!e))then true else(bif(decide (a>0))then(decide (h=(i64.wrap (0-f))))else false))=true then some (.inl false)else(A00 b d fuel (i64.wrap (a+1))))else some (.inr ()))
def p9(a:Int)(b:I0):Option (Bool):=(A00 b a P0 0).bind λc=>w9 c (λ_=>(P4 a 1 3).bind λd=>some (bif d then(decide (((b.length:Nat):Int)<=24))else false))
def Q4(a:M1):Nat->Int->Int->Option (Int)
 |0,_,_=>none
 |fuel+1,c,b=>(if(decide (b<((a.length:Nat):Int)))=true then(gi a b).bind λd=>(Q4 a fuel (i64.wrap (c+((d.length:Nat):Int))) (i64.wrap (b+1)))else some (c))
def M00(a:M1):Option (Int):=(Q4 a P0 0 0).bind (λb=>some b)
def O8(a:M1)(c:Int):Nat->Int->Option ((Bool) ⊕ (Unit))
 |0,_=>none
 |fuel+1,b=>(if(decide (b<((a.length:Nat):Int)))=true then(gi a b).bind λd=>(p9 c d).bind λe=>(if(!e)=true then some (.inl false)else(O8 a c fuel (i64.wrap (b+1))))else some (.inr ()))
def p02(b:Int)(a:M1):Option (Bool):=(O8 a b P0 0).bind λe=>w9 e (λ_=>(P4 b 1 3).bind λc=>(chk (bif c then(decide (((a.length:Nat):Int)<=6))else false) (M00 a) 0).bind λd=>(grd (H0 d)).bind λ_=>some (bif(bif c then(decide (((a.length:Nat):Int)<=6))else false)then(decide (d<40))else false))
def U2(a:Int)(b:Int)(p2:Int):Option (Bool):=some (bif(decide (a ≥ b))then(decide (a<=p2))else false)
def I03(b:Int)(a:Int):Option (Bool):=(chk (!decide (a=0)) (U2 a (i64.wrap (0-b)) b) false).bind λc=>some (bif(!decide (a=0))then c else false)
def n00(a:Int)(b:Int):Option (Bool):=some (bif(bif(!decide (a=0))then(!decide (a=(-9223372036854775808)))else false)then(decide (b=(i64.wrap (0-a))))else false)
def B00(b:I0)(d:Int):Nat->Int->Option ((Bool) ⊕ (Unit))
 |0,_=>none
 |fuel+1,a=>(if(decide (a<((b.length:Nat):Int)))=true then(gi b a).bind λe=>(I03 d e).bind λc=>(chk ((decide (a>0))&&(!(!c))) (gi b (i64.wrap (a-1))) 0).bind λf=>(chk ((decide (a>0))&&(!(!c))) (n00 f e) false).bind λg=>(if(bif(!c)then true else(bif(decide (a>0))then g else false))=true then some (.inl false)else(B00 b d fuel (i64.wrap (a+1))))else some (.inr ()))
def L6(a:Int)(b:I0):Option (Bool):=(U2 a 1 3).bind λd=>(if(bif(!d)then true else(decide (((b.length:Nat):Int)>24)))=true then some false else(B00 b a P0 0).bind λc=>w9 c (λ_=>some true))
def Y7(a:M1):Nat->Int->Int->Option (Int)
 |0,_,_=>none
 |fuel+1,c,b=>(if(decide (b<((a.length:Nat):Int)))=true then(gi a b).bind λd=>(Y7 a fuel (i64.wrap (c+((d.length:Nat):Int))) (i64.wrap (b+1)))else some (c))
def b02(a:M1):Option (Int):=(Y7 a P0 0 0).bind (λb=>some b)
def P8(a:M1)(c:Int):Nat->Int->Option ((Bool) ⊕ (Unit))
 |0,_=>none
 |fuel+1,b=>(if(decide (b<((a.length:Nat):Int)))=true then(gi a b).bind λd=>(L6 c d).bind λe=>(if(!e)=true then some (.inl false)else(P8 a c fuel (i64.wrap (b+1))))else some (.inr ()))
def z9(b:Int)(a:M1):Option (Bool):=(U2 b 1 3).bind λe=>(if(bif(!e)then true else(decide (((a.length:Nat):Int)>6)))=true then some false else(P8 a b P0 0).bind λd=>w9 d (λ_=>(b02 a).bind λc=>(grd (H0 c)).bind λ_=>some (decide (c<40))))
def C9(a:Int)(b:Int):Option (Int):=(if(decide (a<b))=true then some (-1)else(if(decide (a>b))=true then some 1 else some 0))
def W5:Nat->Int->BA->Option (BA)
 |0,_,_=>none
 |fuel+1,a,b=>(if(!decide (a=0))=true then(grd (10≠0)).bind λ_=>(if(decide ((Int.tmod a 10)<0))=true then(grd ([(IntKind.u8.wrap (i64.wrap (48+(i64.wrap (0-(Int.tmod a 10))))))].length<=9223372036854775807)).bind λ_=>(grd ((strOfNums [(IntKind.u8.wrap (i64.wrap (48+(i64.wrap (0-(Int.tmod a 10))))))]).size+b.size<=9223372036854775807)).bind λ_=>(grd (10≠0)).bind λ_=>(W5 fuel (i64.wrap (Int.tdiv a 10)) ((strOfNums [(IntKind.u8.wrap (i64.wrap (48+(i64.wrap (0-(Int.tmod a 10))))))])++b))else(grd ([(IntKind.u8.wrap (i64.wrap (48+(Int.tmod a 10))))].length<=9223372036854775807)).bind λ_=>(grd ((strOfNums [(IntKind.u8.wrap (i64.wrap (48+(Int.tmod a 10))))]).size+b.size<=9223372036854775807)).bind λ_=>(grd (10≠0)).bind λ_=>(W5 fuel (i64.wrap (Int.tdiv a 10)) ((strOfNums [(IntKind.u8.wrap (i64.wrap (48+(Int.tmod a 10))))])++b)))else some (b))
def Z3(a:Int):Option (BA):=(if(decide (a=0))=true then some (⟨#[48]⟩:BA)else(W5 P0 a (⟨#[]⟩:BA)).bind (λb=>(if(decide (a<0))=true then(grd ((⟨#[45]⟩:BA).size+b.size<=9223372036854775807)).bind λ_=>some ((⟨#[45]⟩:BA)++b)else some b)))
def J03(a:Int):Option (Bool):=(chk (!decide (a=0)) (P4 a (-3) 3) false).bind λb=>some (bif(!decide (a=0))then b else false)
def e05(a:Int):Option (BA):=(if(decide (a<0))=true then(gi [(⟨#[65]⟩:BA),(⟨#[66]⟩:BA),(⟨#[67]⟩:BA)] (i64.wrap ((i64.wrap (0-a))-1))).bind λb=>some b else(gi [(⟨#[97]⟩:BA),(⟨#[98]⟩:BA),(⟨#[99]⟩:BA)] (i64.wrap (a-1))).bind λc=>some c)
def B7(a:I0):Nat->BA->Int->Option ((BA) ⊕ (BA))
 |0,_,_=>none
 |fuel+1,c,b=>(if(decide (b<((a.length:Nat):Int)))=true then(gi a b).bind λf=>(J03 f).bind λg=>(if(!g)=true then some (.inl (⟨#[]⟩:BA))else(gi a b).bind λe=>(e05 e).bind λd=>(grd (d.size<=9223372036854775807)).bind λ_=>(grd (c.size+d.size<=9223372036854775807)).bind λ_=>(B7 a fuel (c++d) (i64.wrap (b+1))))else some (.inr (c)))
def O7(c:I0):Option (BA):=(B7 c P0 (⟨#[]⟩:BA) 0).bind λb=>w9 b (λa=>(if(M7 a (⟨#[]⟩:BA))=true then some (⟨#[49]⟩:BA)else some a))
def D4(c:M1):Nat->BA->Int->Option ((BA) ⊕ (BA))
 |0,_,_=>none
 |fuel+1,a,b=>(if(decide (b<((c.length:Nat):Int)))=true then(if(decide (b>0))=true then(grd (a.size+(⟨#[44]⟩:BA).size<=9223372036854775807)).bind λ_=>(gi c b).bind λg=>(O7 g).bind λd=>(grd (d.size<=9223372036854775807)).bind λ_=>(if(M7 d (⟨#[]⟩:BA))=true then some (.inl (⟨#[]⟩:BA))else(grd ((a++(⟨#[44]⟩:BA)).size+d.size<=9223372036854775807)).bind λ_=>(D4 c fuel ((a++(⟨#[44]⟩:BA))++d) (i64.wrap (b+1))))else(gi c b).bind λf=>(O7 f).bind λe=>(grd (e.size<=9223372036854775807)).bind λ_=>(if(M7 e (⟨#[]⟩:BA))=true then some (.inl (⟨#[]⟩:BA))else(grd (a.size+e.size<=9223372036854775807)).bind λ_=>(D4 c fuel (a++e) (i64.wrap (b+1)))))else some (.inr (a)))
def Z7(c:M1):Option (BA):=(D4 c P0 (⟨#[]⟩:BA) 0).bind λb=>w9 b (λa=>(if(M7 a (⟨#[]⟩:BA))=true then some (⟨#[110,111,110,101]⟩:BA)else some a))
def M4:Nat->Int->Int->(List Int)->Option ((List Int))
 |0,_,_,_=>none
 |fuel+1,a,c,b=>(if(decide (a<c))=true then(gi b c).bind λd=>(gi b a).bind λe=>(gi b a).bind λf=>(gi (b.set a.toNat d) c).bind λg=>(M4 fuel (i64.wrap (a+1)) (i64.wrap (c-1)) ((b.set a.toNat d).set c.toNat e))else some (b))
def Y5:Nat->Int->(List Int)->Option ((List Int))
 |0,_,_=>none
 |fuel+1,a,b=>(if(!decide (a=0))=true then(grd (10≠0)).bind λ_=>(if(decide ((Int.tmod a 10)<0))=true then(grd ((b.length+([(IntKind.u8.wrap (i64.wrap (48+(i64.wrap (0-(Int.tmod a 10))))))]).length)*1<=140737488355328)).bind λ_=>(grd (10≠0)).bind λ_=>(Y5 fuel (i64.wrap (Int.tdiv a 10)) (b ++ [(IntKind.u8.wrap (i64.wrap (48+(i64.wrap (0-(Int.tmod a 10))))))]))else(grd ((b.length+([(IntKind.u8.wrap (i64.wrap (48+(Int.tmod a 10))))]).length)*1<=140737488355328)).bind λ_=>(grd (10≠0)).bind λ_=>(Y5 fuel (i64.wrap (Int.tdiv a 10)) (b ++ [(IntKind.u8.wrap (i64.wrap (48+(Int.tmod a 10))))])))else some (b))
def E2(b:Int):Option (BA):=(if(decide (b=0))=true then some (⟨#[48]⟩:BA)else(Y5 P0 b ([]:(List Int))).bind (λa=>(if(decide (b<0))=true then(grd ((a.length + [45].length)*1<=140737488355328)).bind λ_=>(some (a ++ [45]).length).bind λd=>(grd (d<=9223372036854775807)).bind λ_=>(M4 P0 0 (i64.wrap (((d:Nat):Int)-1)) (a ++ [45])).bind (λe=>(grd (e.length<=9223372036854775807)).bind λ_=>some (strOfNums e))else(some a.length).bind λc=>(grd (c<=9223372036854775807)).bind λ_=>(M4 P0 0 (i64.wrap (((c:Nat):Int)-1)) a).bind (λf=>(grd (f.length<=9223372036854775807)).bind λ_=>some (strOfNums f)))))
def o00(a:Int):Option (BA):=(U2 a 1 3).bind λb=>(if b=true then(grd ((0:Int)<=(i64.wrap (a-1))/\(i64.wrap (a-1))<=a/\a<=((⟨#[97,98,99]⟩:BA).size:Int))).bind λ_=>some ((⟨#[97,98,99]⟩:BA).extract ((i64.wrap (a-1)):Int).toNat (a:Int).toNat)else(U2 a (-3) (-1)).bind λc=>(if c=true then(grd ((0:Int)<=(i64.wrap ((i64.wrap (0-a))-1))/\(i64.wrap ((i64.wrap (0-a))-1))<=(i64.wrap (0-a))/\(i64.wrap (0-a))<=((⟨#[65,66,67]⟩:BA).size:Int))).bind λ_=>some ((⟨#[65,66,67]⟩:BA).extract ((i64.wrap ((i64.wrap (0-a))-1)):Int).toNat ((i64.wrap (0-a)):Int).toNat)else some (⟨#[]⟩:BA)))
def C7(b:I0):Nat->BA->Int->Option ((BA) ⊕ (BA))
 |0,_,_=>none
 |fuel+1,c,d=>(if(decide (d<((b.length:Nat):Int)))=true then(gi b d).bind λe=>(o00 e).bind λa=>(grd (a.size<=9223372036854775807)).bind λ_=>(if(M7 a (⟨#[]⟩:BA))=true then some (.inl (⟨#[]⟩:BA))else(grd (c.size+a.size<=9223372036854775807)).bind λ_=>(C7 b fuel (c++a) (i64.wrap (d+1))))else some (.inr (c)))
def M6(a:I0):Option (BA):=(if(decide (((a.length:Nat):Int)=0))=true then some (⟨#[49]⟩:BA)else(C7 a P0 (⟨#[]⟩:BA) 0).bind λb=>w9 b (λc=>some c))
def d01(d:(List BA))(a:BA):Nat->BA->Int->Option (BA)
 |0,_,_=>none
 |fuel+1,b,c=>(if(decide (c<((d.length:Nat):Int)))=true then(gi d c).bind λe=>(grd (b.size+a.size<=9223372036854775807)).bind λ_=>(grd ((b++a).size+e.size<=9223372036854775807)).bind λ_=>(d01 d a fuel ((b++a)++e) (i64.wrap (c+1)))else some (b))
def v02(a:(List BA))(b:BA)(p2:BA):Option (BA):=(if(decide (((a.length:Nat):Int)=0))=true then some p2 else(gi a 0).bind λc=>(b05 a 1 (a.length:Int)).bind λd=>(d01 d b P0 c 0).bind (λe=>some e))
def U6(b:M1):Nat->Int->(List BA)->Option ((BA) ⊕ ((List BA)))
 |0,_,_=>none
 |fuel+1,c,d=>(if(decide (c<((b.length:Nat):Int)))=true then(gi b c).bind λe=>(M6 e).bind λa=>(grd (a.size<=9223372036854775807)).bind λ_=>(if(M7 a (⟨#[]⟩:BA))=true then some (.inl (⟨#[]⟩:BA))else(grd ((d.length + [a].length)*16<=140737488355328)).bind λ_=>(U6 b fuel (i64.wrap (c+1)) (d ++ [a])))else some (.inr (d)))
def c02(c:M1):Option (BA):=(U6 c P0 0 ([]:(List BA))).bind λb=>w9 b (λd=>(v02 d (⟨#[44]⟩:BA) (⟨#[110,111,110,101]⟩:BA)).bind λa=>(grd (a.size<=9223372036854775807)).bind λ_=>some a)
def o5(c:I0):Nat->Int->(List Int)->Option ((List Int))
 |0,_,_=>none
 |fuel+1,a,b=>(if(decide (a ≥ 0))=true then(gi c a).bind λd=>(grd ((b.length+([(i64.wrap (0-d))]).length)*8<=140737488355328)).bind λ_=>(o5 c fuel (i64.wrap (a-1)) (b ++ [(i64.wrap (0-d))]))else some (b))
def q01(a:I0):Option (I0):=(o5 a P0 (i64.wrap (((a.length:Nat):Int)-1)) ([]:I0)).bind (λb=>some b)
def j3(c:I0):Nat->Int->(List Int)->Option ((List Int))
 |0,_,_=>none
 |fuel+1,d,b=>(if(decide (d<((c.length:Nat):Int)))=true then(some b.length).bind λa=>(grd (a<=9223372036854775807)).bind λ_=>(chk (decide (((a:Nat):Int)>0)) (gi c d) 0).bind λe=>(chk (bif(decide (((a:Nat):Int)>0))then(!decide (e=0))else false) (gi b (i64.wrap (((a:Nat):Int)-1))) 0).bind λf=>(chk (bif(decide (((a:Nat):Int)>0))then(!decide (e=0))else false) (gi c d) 0).bind λg=>(chk (bif(bif(decide (((a:Nat):Int)>0))then(!decide (e=0))else false)then(decide (f=(i64.wrap (0-g))))else false) (gi b (i64.wrap (((a:Nat):Int)-1))) 0).bind λi=>(chk (bif(bif(decide (((a:Nat):Int)>0))then(!decide (e=0))else false)then(decide (f=(i64.wrap (0-g))))else false) (gi c d) 0).bind λj=>(if(bif(bif(bif(decide (((a:Nat):Int)>0))then(!decide (e=0))else false)then(decide (f=(i64.wrap (0-g))))else false)then(!decide (i=j))else false)=true then(grd (0<=(i64.wrap (((a:Nat):Int)-1))/\(i64.wrap (((a:Nat):Int)-1))<=(b.length:Int))).bind λ_=>(j3 c fuel (i64.wrap (d+1)) (b.take (i64.wrap (((a:Nat):Int)-1)).toNat))else(gi c d).bind λh=>(grd ((b.length + [h].length)*8<=140737488355328)).bind λ_=>(j3 c fuel (i64.wrap (d+1)) (b ++ [h])))else some (b))
def G3(b:I0):Option (I0):=(j3 b P0 0 ([]:I0)).bind (λa=>(grd ((([]:I0).length+a.length)*8<=140737488355328)).bind λ_=>some (([]:I0)++a))
def f01(a:I0)(b:I0):Option (I0):=(grd ((([]:I0).length+a.length)*8<=140737488355328)).bind λ_=>(grd (((([]:I0)++a).length+b.length)*8<=140737488355328)).bind λ_=>(G3 ((([]:I0)++a)++b)).bind λc=>some c
def J8(c:I0):Nat->Int->(List Int)->Option ((List Int))
 |0,_,_=>none
 |fuel+1,a,b=>(if(decide (a ≥ 0))=true then(gi c a).bind λd=>(grd ((b.length+([(i64.wrap (0-d))]).length)*8<=140737488355328)).bind λ_=>(J8 c fuel (i64.wrap (a-1)) (b ++ [(i64.wrap (0-d))]))else some (b))
def r01(a:I0):Option (I0):=(grd ((0:Int)<=0/\0<=((a.length:Nat):Int)/\((a.length:Nat):Int)*8<=140737488355328/\((a.length:Nat):Int)<=9223372036854775807)).bind λ_=>(J8 a P0 (i64.wrap (((a.length:Nat):Int)-1)) (List.replicate (0:Int).toNat (0:Int))).bind (λb=>some b)
def A8(e:I0):Nat->Int->(List Int)->Option ((List Int))
 |0,_,_=>none
 |fuel+1,d,a=>(if(decide (d<((e.length:Nat):Int)))=true then(gi e d).bind λf=>(some a.length).bind λb=>(grd (b<=9223372036854775807)).bind λ_=>(some a.length).bind λg=>(grd (g<=9223372036854775807)).bind λ_=>(chk (decide (((b:Nat):Int)>0)) (gi a (i64.wrap (((g:Nat):Int)-1))) 0).bind λh=>(chk (decide (((b:Nat):Int)>0)) (n00 h f) false).bind λi=>(if(bif(decide (((b:Nat):Int)>0))then i else false)=true then(some a.length).bind λc=>(grd (c<=9223372036854775807)).bind λ_=>(grd (0<=(i64.wrap (((c:Nat):Int)-1))/\(i64.wrap (((c:Nat):Int)-1))<=(a.length:Int))).bind λ_=>(A8 e fuel (i64.wrap (d+1)) (a.take (i64.wrap (((c:Nat):Int)-1)).toNat))else(grd ((a.length + [f].length)*8<=140737488355328)).bind λ_=>(A8 e fuel (i64.wrap (d+1)) (a ++ [f])))else some (a))
def I9(a:M1):Nat->Int->(List Int)->Option ((List Int))
 |0,_,_=>none
 |fuel+1,b,c=>(if(decide (b<((a.length:Nat):Int)))=true then(gi a b).bind λd=>(A8 d P0 0 c).bind (λe=>(I9 a fuel (i64.wrap (b+1)) e))else some (c))
def p00(a:M1):Option (I0):=(I9 a P0 0 ([]:I0)).bind (λb=>some b)
def p05(a:Int):Option (Int):=(if(bif(decide (a ≥ 97))then(decide (a<=99))else false)=true then some (i64.wrap ((i64.wrap (IntKind.u8.wrap (a-97)))+1))else(if(bif(decide (a ≥ 65))then(decide (a<=67))else false)=true then some (i64.wrap ((i64.wrap (0-(i64.wrap (IntKind.u8.wrap (a-65)))))-1))else some 0))
def P7(a:BA):Nat->Int->Int->Option ((Int×Bool) ⊕ (Int))
 |0,_,_=>none
 |fuel+1,c,b=>(if(decide (b<((a.size:Nat):Int)))=true then(sgi a b).bind λd=>(chk (!(decide (((d.toNat:Nat):Int)<48))) (sgi a b) 0).bind λe=>(if(bif(decide (((d.toNat:Nat):Int)<48))then true else(decide (((e.toNat:Nat):Int)>57)))=true then some (.inl (0,false))else(sgi a b).bind λf=>(P7 a fuel (i64.wrap ((i64.wrap (10*c))+(i64.wrap (IntKind.u8.wrap (((f.toNat:Nat):Int)-48))))) (i64.wrap (b+1))))else some (.inr (c)))
def L03(a:BA):Option (Int×Bool):=(chk (decide (((a.size:Nat):Int)>0)) (sgi a 0) 0).bind λj=>(if(bif(decide (((a.size:Nat):Int)>0))then(decide (((j.toNat:Nat):Int)=45))else false)=true then(U2 (i64.wrap (((a.size:Nat):Int)-1)) 1 9).bind λk=>(if(!k)=true then some (0,false)else(P7 a P0 0 1).bind λh=>w9 h (λb=>(if(decide (1=1))=true then(E2 (i64.wrap (0-b))).bind λd=>(grd (d.size<=9223372036854775807)).bind λ_=>(if(!M7 d a)=true then some (0,false)else some ((i64.wrap (0-b)),true))else(E2 b).bind λe=>(grd (e.size<=9223372036854775807)).bind λ_=>(if(!M7 e a)=true then some (0,false)else some (b,true)))))else(U2 (i64.wrap (((a.size:Nat):Int)-0)) 1 9).bind λl=>(if(!l)=true then some (0,false)else(P7 a P0 0 0).bind λi=>w9 i (λc=>(if(decide (0=1))=true then(E2 (i64.wrap (0-c))).bind λf=>(grd (f.size<=9223372036854775807)).bind λ_=>(if(!M7 f a)=true then some (0,false)else some ((i64.wrap (0-c)),true))else(E2 c).bind λg=>(grd (g.size<=9223372036854775807)).bind λ_=>(if(!M7 g a)=true then some (0,false)else some (c,true))))))
def K01(b:BA)(e:Int):Nat->Int->Int->(List BA)->Option (Int×(List BA))
 |0,_,_,_=>none
 |fuel+1,c,a,d=>(if(decide (a<((b.size:Nat):Int)))=true then(sgi b a).bind λf=>(if(decide (((f.toNat:Nat):Int)=e))=true then(grd ((0:Int)<=c/\c<=a/\a<=(b.size:Int))).bind λ_=>(grd ((d.length+([(b.extract (c:Int).toNat (a:Int).toNat)]).length)*16<=140737488355328)).bind λ_=>(K01 b e fuel (i64.wrap (a+1)) (i64.wrap (a+1)) (d ++ [(b.extract (c:Int).toNat (a:Int).toNat)]))else(K01 b e fuel c (i64.wrap (a+1)) d))else some (c,d))
def B05(a:BA)(d:Int):Option ((List BA)):=(K01 a d P0 0 0 ([]:(List BA))).bind (λ(b,c)=>(grd ((0:Int)<=b/\b<=(a.size:Int)/\(a.size:Int)<=(a.size:Int))).bind λ_=>(grd ((c.length+([(a.extract (b:Int).toNat ((a.size:Int):Int).toNat)]).length)*16<=140737488355328)).bind λ_=>some (c ++ [(a.extract (b:Int).toNat ((a.size:Int):Int).toNat)]))
def a8(a:BA):Nat->Int->(List Int)->Option ((List Int))
 |0,_,_=>none
 |fuel+1,b,c=>(if(decide (b<((a.size:Nat):Int)))=true then(sgi a b).bind λe=>(p05 ((e.toNat:Nat):Int)).bind λd=>(grd (H0 d)).bind λ_=>(grd ((c.length + [d].length)*8<=140737488355328)).bind λ_=>(a8 a fuel (i64.wrap (b+1)) (c ++ [d]))else some (c))
def J9(c:Int)(a:BA):Option (I0×Bool):=(if(!M7 a (⟨#[49]⟩:BA))=true then(a8 a P0 0 ([]:I0)).bind (λb=>(L6 c b).bind λd=>(chk (!(!d)) (M6 b) ⟨#[]⟩).bind λe=>(grd (e.size<=9223372036854775807)).bind λ_=>(if(bif(!d)then true else(!M7 e a))=true then some (([]:I0),false)else some (b,true)))else(L6 c ([]:I0)).bind λf=>(chk (!(!f)) (M6 ([]:I0)) ⟨#[]⟩).bind λg=>(grd (g.size<=9223372036854775807)).bind λ_=>(if(bif(!f)then true else(!M7 g a))=true then some (([]:I0),false)else some (([]:I0),true)))
def D7(c:(List BA))(d:Int):Nat->Int->(List I0)->Option ((M1×Bool) ⊕ ((List I0)))
 |0,_,_=>none
 |fuel+1,a,b=>(if(decide (a<((c.length:Nat):Int)))=true then(gi c a).bind λf=>(J9 d f).bind λ(e,g)=>(if(!g)=true then some (.inl (([]:M1),false))else(grd ((b.length + [e].length)*24<=140737488355328)).bind λ_=>(D7 c d fuel (i64.wrap (a+1)) (b ++ [e])))else some (.inr (b)))
def t01(a:Int)(b:BA):Option (M1×Bool):=(if(!M7 b (⟨#[110,111,110,101]⟩:BA))=true then(B05 b 44).bind λe=>(D7 e a P0 0 ([]:M1)).bind λd=>w9 d (λc=>(z9 a c).bind λf=>(if(!f)=true then some (([]:M1),false)else some (c,true)))else(z9 a ([]:M1)).bind λg=>(if(!g)=true then some (([]:M1),false)else some (([]:M1),true)))
def i06(a:Bool):Option (BA):=(if a=true then some (⟨#[121,101,115]⟩:BA)else some (⟨#[110,111]⟩:BA))
def P05(a:Bool):Option (BA):=(if a=true then some (⟨#[111,107]⟩:BA)else some (⟨#[110,111]⟩:BA))
def h04(a:Int):Option (E3×Bool):=(U2 a 1 3).bind λb=>(if(!b)=true then some ((0,[]),false)else some ((a,[]),true))
def f05(d:j0)(f:O0):Option (Bool):=match d with|(e,b,k)=>match f with|(g,h,i)=>(P4 g 0 (i64.wrap (b-1))).bind λa=>(chk a (P4 i 0 (i64.wrap (b-1))) false).bind λc=>(chk (bif a then c else false) (P4 h 1 e) false).bind λj=>some (bif(bif a then c else false)then j else false)
def d9(b:Int)(c:Int)(d:Int)(e:Int)(f:Int)(g:Int):Nat->Int->Option ((Int) ⊕ (Unit))
 |0,_=>none
 |fuel+1,a=>(if(decide (a<3))=true then(gi [b,c,d] a).bind λi=>(gi [e,f,g] a).bind λj=>(if(decide (i<j))=true then some (.inl (-1))else(gi [b,c,d] a).bind λk=>(gi [e,f,g] a).bind λh=>(if(decide (k>h))=true then some (.inl 1)else(d9 b c d e f g fuel (i64.wrap (a+1)))))else some (.inr ()))
def v00(b:O0)(f:O0):Option (Int):=match b with|(c,d,e)=>match f with|(g,h,i)=>(d9 c d e g h i P0 0).bind λa=>w9 a (λ_=>some 0)
def K9(b:T0)(d:Int)(e:Int):Nat->Int->Option ((Bool) ⊕ (Unit))
 |0,_=>none
 |fuel+1,a=>(if(decide (a<((b.length:Nat):Int)))=true then(gi b a).bind λ(g,h,i)=>(f05 (d,e,b) (g,h,i)).bind λc=>(chk ((decide (a>0))&&(!(!c))) (gi b (i64.wrap (a-1))) (0,0,0)).bind λ(j,k,l)=>(chk ((decide (a>0))&&(!(!c))) (gi b a) (0,0,0)).bind λ(m,n,o)=>(chk ((decide (a>0))&&(!(!c))) (v00 (j,k,l) (m,n,o)) 0).bind λf=>(grd (H0 f)).bind λ_=>(if(bif(!c)then true else(bif(decide (a>0))then(decide (f ≥ 0))else false))=true then some (.inl false)else(K9 b d e fuel (i64.wrap (a+1))))else some (.inr ()))
def V4(f:j0):Option (Bool):=match f with|(a,b,c)=>(K9 c a b P0 0).bind λe=>w9 e (λ_=>(P4 a 1 3).bind λd=>(chk d (P4 b 1 40) false).bind λg=>some (bif(bif d then g else false)then(decide (((c.length:Nat):Int)<=120))else false))
def B8(a:j0)(c:Int):Option (Bool):=match a with|(e,b,f)=>(U2 c 0 (i64.wrap (b-1))).bind λd=>some d
def g01(f:j0)(g:O0):Option (Bool):=match f with|(a,c,d)=>match g with|(h,i,j)=>(B8 (a,c,d) h).bind λb=>(chk b (B8 (a,c,d) j) false).bind λe=>(chk (bif b then e else false) (U2 i 1 a) false).bind λk=>some (bif(bif b then e else false)then k else false)
def E01(d:O0)(h:O0):Option (Int):=match d with|(e,f,g)=>match h with|(i,j,k)=>(C9 e i).bind λa=>(grd (H0 a)).bind λ_=>(if(!decide (a=0))=true then some a else(C9 f j).bind λb=>(grd (H0 b)).bind λ_=>(if(!decide (b=0))=true then some b else(C9 g k).bind λc=>(grd (H0 c)).bind λ_=>some c))
def L9(b:T0)(d:Int)(e:Int):Nat->Int->Option ((Bool) ⊕ (Unit))
 |0,_=>none
 |fuel+1,a=>(if(decide (a<((b.length:Nat):Int)))=true then(gi b a).bind λ(g,h,i)=>(g01 (d,e,b) (g,h,i)).bind λc=>(chk ((decide (a>0))&&(!(!c))) (gi b (i64.wrap (a-1))) (0,0,0)).bind λ(j,k,l)=>(chk ((decide (a>0))&&(!(!c))) (E01 (j,k,l) (g,h,i)) 0).bind λf=>(grd (H0 f)).bind λ_=>(if(bif(!c)then true else(bif(decide (a>0))then(decide (f ≥ 0))else false))=true then some (.inl false)else(L9 b d e fuel (i64.wrap (a+1))))else some (.inr ()))
def t7(f:j0):Option (Bool):=match f with|(a,b,c)=>(U2 a 1 3).bind λd=>(chk (!(!d)) (U2 b 1 40) false).bind λg=>(if(bif(bif(!d)then true else(!g))then true else(decide (((c.length:Nat):Int)>120)))=true then some false else(L9 c a b P0 0).bind λe=>w9 e (λ_=>some true))
def G5(b:I0)(a:Int):Nat->Bool->Int->(List Int)->Option (Bool×(List Int))
 |0,_,_,_=>none
 |fuel+1,e,c,d=>(if(decide (c<((b.length:Nat):Int)))=true then(gi b c).bind λl=>(if(decide (l=a))=true then(gi b c).bind λj=>(if(bif(decide (j>a))then(!true)else false)=true then(grd ((d.length + [a].length)*8<=140737488355328)).bind λ_=>(gi b c).bind λf=>(grd (((d ++ [a]).length + [f].length)*8<=140737488355328)).bind λ_=>(G5 b a fuel true (i64.wrap (c+1)) ((d ++ [a]) ++ [f]))else(gi b c).bind λg=>(grd ((d.length + [g].length)*8<=140737488355328)).bind λ_=>(G5 b a fuel true (i64.wrap (c+1)) (d ++ [g])))else(gi b c).bind λk=>(if(bif(decide (k>a))then(!e)else false)=true then(grd ((d.length + [a].length)*8<=140737488355328)).bind λ_=>(gi b c).bind λh=>(grd (((d ++ [a]).length + [h].length)*8<=140737488355328)).bind λ_=>(G5 b a fuel true (i64.wrap (c+1)) ((d ++ [a]) ++ [h]))else(gi b c).bind λi=>(grd ((d.length + [i].length)*8<=140737488355328)).bind λ_=>(G5 b a fuel e (i64.wrap (c+1)) (d ++ [i]))))else some (e,d))
def V00(c:I0)(a:Int):Option (I0):=(G5 c a P0 false 0 ([]:I0)).bind (λ(d,b)=>(if(!d)=true then(grd ((b.length + [a].length)*8<=140737488355328)).bind λ_=>some (b ++ [a])else some b))
def h01(a:I0)(c:Int):Nat->Int->Option ((Bool) ⊕ (Unit))
 |0,_=>none
 |fuel+1,b=>(if(decide (b<((a.length:Nat):Int)))=true then(gi a b).bind λd=>(if(decide (d=c))=true then some (.inl true)else(h01 a c fuel (i64.wrap (b+1))))else some (.inr ()))
def W00(b:I0)(c:Int):Option (Bool):=(h01 b c P0 0).bind λa=>w9 a (λ_=>some false)
def W4(b:T0)(p2:Int)(a:Int):Nat->I0->Int->Option (I0)
 |0,_,_=>none
 |fuel+1,d,c=>(if(decide (c<((b.length:Nat):Int)))=true then(gi b c).bind λ(e,f,g)=>(if(bif(bif(decide (p2>0))then(decide (f=p2))else false)then(decide (e=a))else false)=true then(V00 d g).bind λh=>(if(bif(bif(decide (p2<0))then(decide (f=(i64.wrap (0-p2))))else false)then(decide (g=a))else false)=true then(V00 h e).bind λi=>(W4 b p2 a fuel i (i64.wrap (c+1)))else(W4 b p2 a fuel h (i64.wrap (c+1))))else(if(bif(bif(decide (p2<0))then(decide (f=(i64.wrap (0-p2))))else false)then(decide (g=a))else false)=true then(V00 d e).bind λj=>(W4 b p2 a fuel j (i64.wrap (c+1)))else(W4 b p2 a fuel d (i64.wrap (c+1)))))else some (d))
def W02(a:j0)(c:Int)(p2:Int):Option (I0):=match a with|(e,f,b)=>(W4 b p2 c P0 ([]:I0) 0).bind (λd=>some d)
def T4(b:j0)(f:Int)(p2:Int):Option (Int):=match b with|(c,d,e)=>(W02 (c,d,e) f p2).bind λa=>(if(decide (((a.length:Nat):Int)=0))=true then some (-1)else(gi a 0).bind λg=>some g)
def Q8(b:Int)(a:T0):Nat->Int->Option ((Bool) ⊕ (Unit))
 |0,_=>none
 |fuel+1,u8=>(if(decide (u8<b))=true then(gi a b).bind λ(c,d,e)=>(gi a u8).bind λ(f,g,h)=>(if(bif(decide (d=g))then(bif(decide (c=f))then true else(decide (e=h)))else false)=true then some (.inl false)else(Q8 b a fuel (i64.wrap (u8+1))))else some (.inr ()))
def N6(a:T0)(c:Int)(d:Int):Nat->Int->Option ((Bool) ⊕ (Unit))
 |0,_=>none
 |fuel+1,b=>(chk (decide (b<((a.length:Nat):Int))) (V4 (c,d,a)) false).bind λf=>(if(bif(decide (b<((a.length:Nat):Int)))then f else false)=true then(Q8 b a P0 0).bind λe=>X0t e (λ_=>(N6 a c d fuel (i64.wrap (b+1))))else some (.inr ()))
def w7(e:j0):Option (Bool):=match e with|(a,b,c)=>(N6 c a b P0 0).bind λd=>w9 d (λ_=>(V4 (a,b,c)).bind λf=>some f)
def R8(p2:I0)(c:Int)(d:Int)(e:T0):Nat->Int->Int->Option ((Int×Bool) ⊕ (Int))
 |0,_,_=>none
 |fuel+1,f,a=>(if(decide (a<((p2.length:Nat):Int)))=true then(gi p2 a).bind λg=>(T4 (c,d,e) f g).bind λb=>(grd (H0 b)).bind λ_=>(if(decide (b<0))=true then some (.inl ((-1),false))else(R8 p2 c d e fuel b (i64.wrap (a+1))))else some (.inr (f)))
def C00(g:j0)(d:Int)(p2:I0):Option (Int×Bool):=match g with|(b,a,c)=>(w7 (b,a,c)).bind λe=>(chk (!(!e)) (P4 d 0 (i64.wrap (a-1))) false).bind λh=>(if(bif(!e)then true else(!h))=true then some ((-1),false)else(R8 p2 b a c P0 d 0).bind λf=>w9 f (λi=>some (i,true)))
def Z5(b:T0)(p2:Int)(c:Int):Nat->Int->(List Int)->Option ((List Int))
 |0,_,_=>none
 |fuel+1,d,a=>(if(decide (d<((b.length:Nat):Int)))=true then(gi b d).bind λ(e,g,f)=>(if(bif(bif(decide (p2>0))then(decide (g=p2))else false)then(decide (e=c))else false)=true then(grd ((a.length + [f].length)*8<=140737488355328)).bind λ_=>(Z5 b p2 c fuel (i64.wrap (d+1)) (a ++ [f]))else(if(bif(bif(bif(decide (p2<0))then(!decide (p2=(-9223372036854775808)))else false)then(decide (g=(i64.wrap (0-p2))))else false)then(decide (f=c))else false)=true then(grd ((a.length + [e].length)*8<=140737488355328)).bind λ_=>(Z5 b p2 c fuel (i64.wrap (d+1)) (a ++ [e]))else(Z5 b p2 c fuel (i64.wrap (d+1)) a)))else some (a))
def X02(b:j0)(d:Int)(p2:Int):Option (I0):=match b with|(e,f,c)=>(Z5 c p2 d P0 0 ([]:I0)).bind (λa=>(grd (a.length<4611686018427387904)).bind λ_=>some (g07 eqI (L0a H01 a)))
def U4(b:j0)(f:Int)(p2:Int):Option (Int):=match b with|(c,d,e)=>(X02 (c,d,e) f p2).bind λa=>(if(decide (((a.length:Nat):Int)=0))=true then some (-1)else(gi a 0).bind λg=>some g)
def S8(b:T0)(d:Int)(c:Int)(e:Int):Nat->Int->Option ((Bool) ⊕ (Unit))
 |0,_=>none
 |fuel+1,a=>(if(decide (a<((b.length:Nat):Int)))=true then(gi b a).bind λ(f,g,h)=>(if(bif(decide (d=g))then(bif(decide (c=f))then true else(decide (e=h)))else false)=true then some (.inl false)else(S8 b d c e fuel (i64.wrap (a+1))))else some (.inr ()))
def T8(a:T0):Nat->Int->Option ((Bool) ⊕ (Unit))
 |0,_=>none
 |fuel+1,b=>(if(decide (b<((a.length:Nat):Int)))=true then(gi a b).bind λ(d,e,f)=>(b05 a (i64.wrap (b+1)) (a.length:Int)).bind λg=>(S8 g e d f P0 0).bind λc=>X0t c (λ_=>(T8 a fuel (i64.wrap (b+1))))else some (.inr ()))
def y8(c:j0):Option (Bool):=match c with|(d,e,a)=>(t7 (d,e,a)).bind λf=>(if(!f)=true then some false else(T8 a P0 0).bind λb=>w9 b (λ_=>some true))
def E7(p2:I0)(d:Int)(e:Int)(f:T0):Nat->Int->Int->Option ((Int×Int) ⊕ (Int))
 |0,_,_=>none
 |fuel+1,b,a=>(if(decide (a<((p2.length:Nat):Int)))=true then(gi p2 a).bind λg=>(U4 (d,e,f) b g).bind λc=>(grd (H0 c)).bind λ_=>(if(decide (c<0))=true then some (.inl (b,a))else(E7 p2 d e f fuel c (i64.wrap (a+1))))else some (.inr (b)))
def U8(b:j0)(f:Int)(p2:I0):Option (Int×Int):=match b with|(c,d,e)=>(E7 p2 c d e P0 f 0).bind λa=>w9 a (λg=>some (g,((p2.length:Nat):Int)))
def p5(b:j0):Option (j0):=match b with|(c,d,a)=>(grd ((([]:T0).length+a.length)*24<=140737488355328)).bind λ_=>some (c,d,(([]:T0)++a))
def H5(e:T0)(a:Int)(b:Int)(c:Int):Nat->Bool->Int->(List O0)->Option (Bool×(List O0))
 |0,_,_,_=>none
 |fuel+1,h,f,d=>(if(decide (f<((e.length:Nat):Int)))=true then(gi e f).bind λ(v,w,x)=>(v00 (a,b,c) (v,w,x)).bind λg=>(grd (H0 g)).bind λ_=>(if(decide (g=0))=true then(if(bif(decide (g<0))then(!true)else false)=true then(grd ((d.length+([(a,b,c)]).length)*24<=140737488355328)).bind λ_=>(gi e f).bind λ(i,j,k)=>(grd (((d ++ [(a,b,c)]).length+([(i,j,k)]).length)*24<=140737488355328)).bind λ_=>(H5 e a b c fuel true (i64.wrap (f+1)) ((d ++ [(a,b,c)]) ++ [(i,j,k)]))else(gi e f).bind λ(l,m,n)=>(grd ((d.length+([(l,m,n)]).length)*24<=140737488355328)).bind λ_=>(H5 e a b c fuel true (i64.wrap (f+1)) (d ++ [(l,m,n)])))else(if(bif(decide (g<0))then(!h)else false)=true then(grd ((d.length+([(a,b,c)]).length)*24<=140737488355328)).bind λ_=>(gi e f).bind λ(o,p,q)=>(grd (((d ++ [(a,b,c)]).length+([(o,p,q)]).length)*24<=140737488355328)).bind λ_=>(H5 e a b c fuel true (i64.wrap (f+1)) ((d ++ [(a,b,c)]) ++ [(o,p,q)]))else(gi e f).bind λ(s,t,u)=>(grd ((d.length+([(s,t,u)]).length)*24<=140737488355328)).bind λ_=>(H5 e a b c fuel h (i64.wrap (f+1)) (d ++ [(s,t,u)]))))else some (h,d))
def C8(e:T0)(f:O0):Option (T0):=match f with|(a,b,c)=>(H5 e a b c P0 false 0 ([]:T0)).bind (λ(g,d)=>(if(!g)=true then(grd ((d.length+([(a,b,c)]).length)*24<=140737488355328)).bind λ_=>some (d ++ [(a,b,c)])else some d))
def H4(a:T0)(c:Int):Nat->Int->Int->Option (Int)
 |0,_,_=>none
 |fuel+1,d,b=>(if(decide (b<((a.length:Nat):Int)))=true then(gi a b).bind λ(f,j,k)=>(if(decide (f=c))=true then(gi a b).bind λ(l,m,g)=>(if(decide (g=c))=true then(H4 a c fuel (i64.wrap ((i64.wrap (d+1))+1)) (i64.wrap (b+1)))else(H4 a c fuel (i64.wrap (d+1)) (i64.wrap (b+1))))else(gi a b).bind λ(h,i,e)=>(if(decide (e=c))=true then(H4 a c fuel (i64.wrap (d+1)) (i64.wrap (b+1)))else(H4 a c fuel d (i64.wrap (b+1)))))else some (d))
def q02(a:j0)(c:Int):Option (Int):=match a with|(e,f,b)=>(H4 b c P0 0 0).bind (λd=>some d)
def V6(b:T0)(c:T0):Nat->Int->Option ((Bool) ⊕ (Unit))
 |0,_=>none
 |fuel+1,a=>(if(decide (a<((b.length:Nat):Int)))=true then(gi b a).bind λ(d,e,f)=>(gi c a).bind λ(g,h,i)=>(if(!eqE (d,e,f) (g,h,i))=true then some (.inl false)else(V6 b c fuel (i64.wrap (a+1))))else some (.inr ()))
def e02(d:j0)(g:j0):Option (Bool):=match d with|(e,f,a)=>match g with|(h,i,b)=>(if(bif(bif(!decide (e=h))then true else(!decide (f=i)))then true else(!decide (((a.length:Nat):Int)=((b.length:Nat):Int))))=true then some false else(V6 a b P0 0).bind λc=>w9 c (λ_=>some true))
def E4(a:T0):Nat->I0->Int->Option (I0)
 |0,_,_=>none
 |fuel+1,b,c=>(if(decide (c<((a.length:Nat):Int)))=true then(gi a c).bind λ(d,l,e)=>(W00 b d).bind λg=>(if g=true then(V00 b e).bind λf=>(W00 f e).bind λh=>(if h=true then(V00 f d).bind λi=>(E4 a fuel i (i64.wrap (c+1)))else(E4 a fuel f (i64.wrap (c+1))))else(W00 b e).bind λj=>(if j=true then(V00 b d).bind λk=>(E4 a fuel k (i64.wrap (c+1)))else(E4 a fuel b (i64.wrap (c+1)))))else some (b))
def W6(a:T0):Nat->I0->Int->Option (I0)
 |0,_,_=>none
 |fuel+1,b,c=>(if(decide (c<(i64.wrap (((a.length:Nat):Int)+1))))=true then(E4 a P0 b 0).bind (λd=>(W6 a fuel d (i64.wrap (c+1))))else some (b))
def f02(e:j0)(c:Int):Option (I0):=match e with|(f,a,b)=>(V4 (f,a,b)).bind λd=>(chk (!(!d)) (P4 c 0 (i64.wrap (a-1))) false).bind λg=>(if(bif(!d)then true else(!g))=true then some ([]:I0)else(W6 b P0 [c] 0).bind (λh=>some h))
def D00(b:Int)(d:Int)(e:T0)(f:I0):Nat->Int->Option ((Int) ⊕ (Unit))
 |0,_=>none
 |fuel+1,a=>(if(decide (a<b))=true then(q02 (d,b,e) a).bind λc=>(grd (H0 c)).bind λ_=>(chk (!(decide (c<2))) (W00 f a) false).bind λg=>(if(bif(decide (c<2))then true else(!g))=true then some (.inl a)else(D00 b d e f fuel (i64.wrap (a+1))))else some (.inr ()))
def b04(e:j0):Option (Int):=match e with|(a,b,c)=>(f02 (a,b,c) 0).bind λf=>(D00 b a c f P0 1).bind λd=>w9 d (λ_=>some (-1))
def O4(b:T0)(a:(List Int)):Nat->Int->Int->Int->T0->Option (Int×Int×T0)
 |0,_,_,_,_=>none
 |fuel+1,c,d,e,f=>(if(decide (c<((b.length:Nat):Int)))=true then(gi b c).bind λ(g,j,h)=>(gi a g).bind λi=>(chk (decide (i>0)) (gi a h) 0).bind λk=>(if(bif(decide (i>0))then(decide (k>0))else false)=true then(gi a g).bind λl=>(gi a h).bind λm=>(C8 f ((i64.wrap (l-1)),j,(i64.wrap (m-1)))).bind λn=>(O4 b a fuel (i64.wrap (c+1)) d e n)else(O4 b a fuel (i64.wrap (c+1)) d e f))else some (d,e,f))
def I5(b:I0)(d:Int)(f:Int)(g:T0):Nat->Int->(List Int)->Option ((j0×Bool) ⊕ ((List Int)))
 |0,_,_=>none
 |fuel+1,a,c=>(if(decide (a<((b.length:Nat):Int)))=true then(gi b a).bind λi=>(P4 i 0 (i64.wrap (d-1))).bind λe=>(chk (!(!e)) (gi b a) 0).bind λj=>(chk (!(!e)) (gi c j) 0).bind λk=>(if(bif(!e)then true else(!decide (k=0)))=true then(p5 (f,d,g)).bind λ(l,m,n)=>some (.inl ((l,m,n),false))else(gi b a).bind λh=>(gi c h).bind λo=>(I5 b d f g fuel (i64.wrap (a+1)) (c.set h.toNat (i64.wrap (a+1)))))else some (.inr (c)))
def M9(f:j0)(d:I0):Option (j0×Bool):=match f with|(b,a,c)=>(V4 (b,a,c)).bind λg=>(if(bif(bif(!g)then true else(decide (((d.length:Nat):Int)=0)))then true else(decide (((d.length:Nat):Int)>a)))=true then(p5 (b,a,c)).bind λ(h,i,j)=>some ((h,i,j),false)else(grd ((0:Int)<=a/\a<=a/\a*8<=140737488355328/\a<=9223372036854775807)).bind λ_=>(I5 d a b c P0 0 (List.replicate a.toNat (0:Int))).bind λe=>w9 e (λn=>(O4 c n P0 0 b ((d.length:Nat):Int) ([]:T0)).bind (λ(k,l,m)=>some ((k,l,m),true))))
def c8(c:Int):Nat->Int->(List Int)->Option ((List Int))
 |0,_,_=>none
 |fuel+1,a,b=>(if(decide (a<=c))=true then(grd ((b.length + [a].length)*8<=140737488355328)).bind λ_=>(grd (((b ++ [a]).length+([(i64.wrap (0-a))]).length)*8<=140737488355328)).bind λ_=>(c8 c fuel (i64.wrap (a+1)) ((b ++ [a]) ++ [(i64.wrap (0-a))]))else some (b))
def Q01(a:Int):Option (I0):=(c8 a P0 1 ([]:I0)).bind (λb=>some b)
def I4(d:I0)(h:Int)(e:Int)(f:Int)(g:T0):Nat->Int->(List Int)->Option ((List Int))
 |0,_,_=>none
 |fuel+1,c,a=>(if(decide (c<((d.length:Nat):Int)))=true then(gi a h).bind λi=>(gi d c).bind λj=>(T4 (e,f,g) i j).bind λb=>(grd (H0 b)).bind λ_=>(chk (decide (b ≥ 0)) (W00 a b) false).bind λk=>(if(bif(decide (b ≥ 0))then(!k)else false)=true then(grd ((a.length + [b].length)*8<=140737488355328)).bind λ_=>(I4 d h e f g fuel (i64.wrap (c+1)) (a ++ [b]))else(I4 d h e f g fuel (i64.wrap (c+1)) a))else some (a))
def H6(g:I0)(d:Int)(e:Int)(f:T0):Nat->Int->(List Int)->Option ((List Int))
 |0,_,_=>none
 |fuel+1,a,b=>(some b.length).bind λc=>(grd (c<=9223372036854775807)).bind λ_=>(if(decide (a<((c:Nat):Int)))=true then(I4 g a d e f P0 0 b).bind (λh=>(H6 g d e f fuel (i64.wrap (a+1)) h))else some (b))
def I00(d:j0):Option (I0):=match d with|(a,b,c)=>(w7 (a,b,c)).bind λe=>(if(!e)=true then some ([]:I0)else(Q01 a).bind λf=>(H6 f a b c P0 0 [0]).bind (λg=>some g))
def g9(e:j0):Option (j0):=match e with|(a,b,c)=>(I00 (a,b,c)).bind λd=>(if(decide (((d.length:Nat):Int)=0))=true then(p5 (a,b,c)).bind λ(f,g,h)=>some (f,g,h)else(M9 (a,b,c) d).bind λ(i,m)=>match i with|(j,k,l)=>some (j,k,l))
def J02(f:j0):Option (Bool):=match f with|(a,b,c)=>(w7 (a,b,c)).bind λd=>(chk d (b04 (a,b,c)) 0).bind λe=>(grd (H0 e)).bind λk=>(chk (bif d then(decide (e<0))else false) (g9 (a,b,c)) (0,0,[])).bind λ(g,h,i)=>(chk (bif d then(decide (e<0))else false) (e02 (g,h,i) (a,b,c)) false).bind λj=>some (bif(bif d then(decide (e<0))else false)then j else false)
def O6(a:j0):Option (Bool):=match a with|(b,c,d)=>(J02 (b,c,d)).bind λe=>some e
def R3(b:j0):Option (j0):=match b with|(c,d,a)=>(grd ((([]:T0).length+a.length)*24<=140737488355328)).bind λ_=>some (c,d,(([]:T0)++a))
def P6(b:T0)(a:Int):Nat->Int->Int->Option (Int)
 |0,_,_=>none
 |fuel+1,d,c=>(if(decide (c<((b.length:Nat):Int)))=true then(gi b c).bind λ(f,g,e)=>(if(decide (f=a))=true then(if(decide (e=a))=true then(P6 b a fuel (i64.wrap ((i64.wrap (d+1))+1)) (i64.wrap (c+1)))else(P6 b a fuel (i64.wrap (d+1)) (i64.wrap (c+1))))else(if(decide (e=a))=true then(P6 b a fuel (i64.wrap (d+1)) (i64.wrap (c+1)))else(P6 b a fuel d (i64.wrap (c+1)))))else some (d))
def M03(a:j0)(c:Int):Option (Int):=match a with|(e,f,b)=>(P6 b c P0 0 0).bind (λd=>some d)
def A2(b:T0)(c:T0):Nat->Int->Option ((Bool) ⊕ (Unit))
 |0,_=>none
 |fuel+1,a=>(if(decide (a<((b.length:Nat):Int)))=true then(gi b a).bind λ(d,e,f)=>(gi c a).bind λ(g,h,i)=>(if(!eqE (d,e,f) (g,h,i))=true then some (.inl false)else(A2 b c fuel (i64.wrap (a+1))))else some (.inr ()))
def J4(a:T0)(b:T0):Option (Bool):=(if(!decide (((a.length:Nat):Int)=((b.length:Nat):Int)))=true then some false else(A2 a b P0 0).bind λc=>w9 c (λ_=>some true))
def D9(e:j0)(g:j0):Option (Bool):=match e with|(a,b,f)=>match g with|(c,d,h)=>(chk (bif(decide (a=c))then(decide (b=d))else false) (J4 f h) false).bind λi=>some (bif(bif(decide (a=c))then(decide (b=d))else false)then i else false)
def d5(b:T0):Nat->Bool->Int->(List Bool)->Option (Bool×(List Bool))
 |0,_,_,_=>none
 |fuel+1,f,c,a=>(if(decide (c<((b.length:Nat):Int)))=true then(gi b c).bind λ(d,i,e)=>(gi a d).bind λg=>(gi a e).bind λh=>(if(!(g == h))=true then(gi a d).bind λj=>(gi (a.set d.toNat true) e).bind λk=>(d5 b fuel true (i64.wrap (c+1)) ((a.set d.toNat true).set e.toNat true))else(d5 b fuel f (i64.wrap (c+1)) a))else some (f,a))
def o6(a:T0):Nat->Bool->(List Bool)->Option ((List Bool))
 |0,_,_=>none
 |fuel+1,c,b=>(if c=true then(d5 a P0 false 0 b).bind (λ(d,e)=>(o6 a fuel d e))else some (b))
def F01(c:j0)(b:Int):Option ((List Bool)):=match c with|(f,a,d)=>(grd ((0:Int)<=a/\a<=a/\a*1<=140737488355328/\a<=9223372036854775807)).bind λ_=>(gi (List.replicate a.toNat (false:Bool)) b).bind λg=>(o6 d P0 true ((List.replicate a.toNat (false:Bool)).set b.toNat true)).bind (λe=>some e)
def N9(c:Int):Nat->Int->(List Int)->Option ((List Int))
 |0,_,_=>none
 |fuel+1,a,b=>(if(decide (a<=c))=true then(grd ((b.length+([a,(i64.wrap (0-a))]).length)*8<=140737488355328)).bind λ_=>(N9 c fuel (i64.wrap (a+1)) (b ++ [a,(i64.wrap (0-a))]))else some (b))
def i01(a:Int):Option (I0):=(N9 a P0 1 ([]:I0)).bind (λb=>some b)
def X00(a:T0):Option (T0):=(grd ((([]:T0).length+a.length)*24<=140737488355328)).bind λ_=>(grd ((([]:T0)++a).length<4611686018427387904)).bind λ_=>some (g07 eqE (L0a V0 (([]:T0)++a)))
def Y00(b:T0)(a:(List Int)):Nat->Int->Int->Int->(List O0)->Option (Int×Int×(List O0))
 |0,_,_,_,_=>none
 |fuel+1,c,e,f,d=>(if(decide (c<((b.length:Nat):Int)))=true then(gi b c).bind λ(g,k,h)=>(gi a g).bind λi=>(chk (decide (i ≥ 0)) (gi a h) 0).bind λl=>(if(bif(decide (i ≥ 0))then(decide (l ≥ 0))else false)=true then(gi a g).bind λm=>(gi a h).bind λn=>(some [(m,k,n)]).bind λj=>(grd ((d.length+j.length)*24<=140737488355328)).bind λ_=>(Y00 b a fuel (i64.wrap (c+1)) e f (d++j))else(Y00 b a fuel (i64.wrap (c+1)) e f d))else some (e,f,d))
def M01(b:I0):Nat->Int->(List Int)->Option ((List Int))
 |0,_,_=>none
 |fuel+1,a,c=>(if(decide (a<((b.length:Nat):Int)))=true then(gi b a).bind λd=>(gi c d).bind λe=>(M01 b fuel (i64.wrap (a+1)) (c.set d.toNat a))else some (c))
def N01(c:Nat):Nat->Int->(List Int)->Option ((List Int))
 |0,_,_=>none
 |fuel+1,a,b=>(if(decide (a<((c:Nat):Int)))=true then(gi b a).bind λd=>(N01 c fuel (i64.wrap (a+1)) (b.set a.toNat (-1)))else some (b))
def Q05(d:j0)(c:I0):Option (j0):=match d with|(e,a,f)=>(grd ((0:Int)<=a/\a<=a/\a*8<=140737488355328/\a<=9223372036854775807)).bind λ_=>(some (List.replicate a.toNat (0:Int)).length).bind λb=>(grd (b<=9223372036854775807)).bind λ_=>(N01 b P0 0 (List.replicate a.toNat (0:Int))).bind (λh=>(M01 c P0 0 h).bind (λi=>(Y00 f i P0 0 e ((c.length:Nat):Int) ([]:T0)).bind (λ(j,k,l)=>(X00 l).bind λg=>some (j,k,g))))
def E00(b:BA):Nat->Int->Option ((Bool) ⊕ (Unit))
 |0,_=>none
 |fuel+1,a=>(if(decide (a<((b.size:Nat):Int)))=true then(sgi b a).bind λd=>(chk (decide (((d.toNat:Nat):Int) ≥ 97)) (sgi b a) 0).bind λf=>(sgi b a).bind λc=>(chk (decide (((c.toNat:Nat):Int) ≥ 48)) (sgi b a) 0).bind λe=>(if(bif(!(bif(decide (((d.toNat:Nat):Int) ≥ 97))then(decide (((f.toNat:Nat):Int)<=122))else false))then(bif(decide (a=0))then true else(!(bif(decide (((c.toNat:Nat):Int) ≥ 48))then(decide (((e.toNat:Nat):Int)<=57))else false)))else false)=true then some (.inl false)else(E00 b fuel (i64.wrap (a+1))))else some (.inr ()))
def c04(a:BA):Option (Bool):=(U2 ((a.size:Nat):Int) 1 8).bind λc=>(if(!c)=true then some false else(E00 a P0 0).bind λb=>w9 b (λ_=>some true))
def N4(a:I0):Option (I0):=(grd ((([]:I0).length+a.length)*8<=140737488355328)).bind λ_=>some (([]:I0)++a)
def A4(f:I0)(g:Int)(h:Int)(i:T0)(e:Int):Nat->Int->(List (Option I0))->(List Int)->Option ((List (Option I0))×(List Int))
 |0,_,_,_=>none
 |fuel+1,c,b,d=>(if(decide (c<((f.length:Nat):Int)))=true then(gi f c).bind λj=>(U4 (g,h,i) e j).bind λa=>(grd (H0 a)).bind λ_=>(chk (decide (a ≥ 0)) (gi b a) (none:Option I0)).bind λl=>(if(bif(decide (a ≥ 0))then l.isNone else false)=true then(gi b e).bind λm=>(N4 (m.getD [])).bind λk=>(grd ((k.length + [j].length)*8<=140737488355328)).bind λ_=>(gi b a).bind λn=>(grd ((d.length + [a].length)*8<=140737488355328)).bind λ_=>(A4 f g h i e fuel (i64.wrap (c+1)) (b.set a.toNat (some (k ++ [j]))) (d ++ [a]))else(A4 f g h i e fuel (i64.wrap (c+1)) b d))else some (b,d))
def w6(b:Int)(d:Int)(e:T0):Nat->Int->(List (Option I0))->(List Int)->Option ((List (Option I0))×(List Int))
 |0,_,_,_=>none
 |fuel+1,u8,f,a=>(some a.length).bind λc=>(grd (c<=9223372036854775807)).bind λ_=>(if(decide (u8<((c:Nat):Int)))=true then(gi a u8).bind λg=>(i01 b).bind λh=>(A4 h b d e g P0 0 f a).bind (λ(i,j)=>(w6 b d e fuel (i64.wrap (u8+1)) i j))else some (f,a))
def V8(c:j0)(b:Int):Option (I0×M1):=match c with|(d,a,e)=>(grd ((0:Int)<=a/\a<=a/\a*24<=140737488355328/\a<=9223372036854775807)).bind λ_=>(gi (List.replicate a.toNat (none:Option I0)) b).bind λh=>(w6 d a e P0 0 ((List.replicate a.toNat (none:Option I0)).set b.toNat (some ([]:I0))) [b]).bind (λ(f,g)=>some (g,(List.map (λo:Option I0=>o.getD ([]:I0)) f)))
def J00(d:j0):Option (I0):=match d with|(a,b,c)=>(y8 (a,b,c)).bind λe=>(if(!e)=true then some ([]:I0)else(V8 (a,b,c) 0).bind λ(f,g)=>some f)
def i9(d:j0):Option (j0):=match d with|(a,b,c)=>(y8 (a,b,c)).bind λe=>(if(!e)=true then(R3 (a,b,c)).bind λ(i,j,k)=>some (i,j,k)else(J00 (a,b,c)).bind λl=>(Q05 (a,b,c) l).bind λ(f,g,h)=>some (f,g,h))
def d7(c:Int)(d:Int):Nat->Int->(List Int)->Option ((List Int))
 |0,_,_=>none
 |fuel+1,a,b=>(if(decide (a<c))=true then(if(!decide (a=d))=true then(grd ((b.length + [a].length)*8<=140737488355328)).bind λ_=>(d7 c d fuel (i64.wrap (a+1)) (b ++ [a]))else(d7 c d fuel (i64.wrap (a+1)) b))else some (b))
def Y4(b:Int)(c:Int)(d:T0)(f:(List Bool)):Nat->Int->Int->Option (Int)
 |0,_,_=>none
 |fuel+1,e,a=>(if(bif(decide (a<b))then(decide (e=0))else false)=true then(M03 (c,b,d) a).bind λg=>(grd (H0 g)).bind λ_=>(chk (!(decide (g<2))) (gi f a) false).bind λh=>(if(bif(decide (g<2))then true else(!h))=true then(Y4 b c d f fuel a (i64.wrap (a+1)))else(Y4 b c d f fuel e (i64.wrap (a+1))))else some (e))
def g7:Nat->I0->Int->Int->T0->Option ((j0×I0) ⊕ (Int×Int×T0))
 |0,_,_,_,_=>none
 |fuel+1,b,c,a,d=>(F01 (c,a,d) 0).bind λk=>(Y4 a c d k P0 0 1).bind (λe=>(if(decide (e=0))=true then some (.inl ((c,a,d),b))else(d7 a e P0 0 ([]:I0)).bind (λl=>(Q05 (c,a,d) l).bind λ(h,i,j)=>(b05 b 0 e).bind λf=>(b05 b (i64.wrap (e+1)) (b.length:Int)).bind λg=>(grd ((f.length+g.length)*8<=140737488355328)).bind λ_=>(g7 fuel (f++g) h i j))))
def d8(c:Int):Nat->Int->(List Int)->Option ((List Int))
 |0,_,_=>none
 |fuel+1,a,b=>(if(decide (a<c))=true then(grd ((b.length + [a].length)*8<=140737488355328)).bind λ_=>(d8 c fuel (i64.wrap (a+1)) (b ++ [a]))else some (b))
def O9(h:j0):Option (j0×I0):=match h with|(b,a,c)=>(R3 (b,a,c)).bind λ(d,e,f)=>(t7 (b,a,c)).bind λi=>(if(!i)=true then some ((d,e,f),([]:I0))else(d8 a P0 0 ([]:I0)).bind (λj=>(g7 P0 j d e f).bind λg=>w9 g (λ_=>none)))
def d6(e:j0):Option (Bool):=match e with|(b,a,c)=>(y8 (b,a,c)).bind λf=>(if(!f)=true then some false else(O9 (b,a,c)).bind λ(h,n)=>match h with|(l,d,m)=>(chk (decide (d=a)) (i9 (b,a,c)) (0,0,[])).bind λ(i,j,k)=>(chk (decide (d=a)) (D9 (i,j,k) (b,a,c)) false).bind λg=>some (bif(decide (d=a))then g else false))
def g8(b:T5)(c:Int):Nat->Int->Option ((Bool) ⊕ (Unit))
 |0,_=>none
 |fuel+1,a=>(if(decide (a<((b.length:Nat):Int)))=true then(gi b a).bind λj=>match j with|(d,(e,k,l))=>(c04 d).bind λf=>(chk ((decide (a>0))&&(!(!f))) (gi b (i64.wrap (a-1))) (⟨#[]⟩,(0,0,[]))).bind λh=>match h with|(g,(m,n,o))=>(chk (!(bif(bif(!f)then true else(bif(decide (a>0))then(!X0o g d)else false))then true else(!decide (e=c)))) (d6 (e,k,l)) false).bind λi=>(if(bif(bif(bif(!f)then true else(bif(decide (a>0))then(!X0o g d)else false))then true else(!decide (e=c)))then true else(!i))=true then some (.inl false)else(g8 b c fuel (i64.wrap (a+1))))else some (.inr ()))
def Z02(d:E3):Option (Bool):=match d with|(a,b)=>(U2 a 1 3).bind λe=>(if(bif(!e)then true else(decide (((b.length:Nat):Int)>16)))=true then some false else(g8 b a P0 0).bind λc=>w9 c (λ_=>some true))
def Y6(a:T5):Nat->Int->Int->(List K0a)->Option (Int×(List K0a))
 |0,_,_,_=>none
 |fuel+1,b,d,c=>(if(decide (b<((a.length:Nat):Int)))=true then(gi a b).bind λi=>match i with|(e,(j,k,l))=>(R3 (j,k,l)).bind λ(f,g,h)=>(grd ((c.length+([(e,(f,g,h))]).length)*56<=140737488355328)).bind λ_=>(Y6 a fuel (i64.wrap (b+1)) d (c ++ [(e,(f,g,h))]))else some (d,c))
def h02(a:E3):Option (E3):=match a with|(b,c)=>(Y6 c P0 0 b ([]:T5)).bind (λ(d,e)=>some (d,e))
def p6(b:T5)(c:BA):Nat->Int->Option ((Int) ⊕ (Unit))
 |0,_=>none
 |fuel+1,a=>(if(decide (a<((b.length:Nat):Int)))=true then(gi b a).bind λd=>match d with|(e,(f,g,h))=>(if(M7 e c)=true then some (.inl a)else(p6 b c fuel (i64.wrap (a+1))))else some (.inr ()))
def w00(b:E3)(d:BA):Option (Int):=match b with|(e,c)=>(p6 c d P0 0).bind λa=>w9 a (λ_=>some (-1))
def r05(a:Int):Option (j0×Bool):=(P4 a 1 3).bind λb=>(if(!b)=true then some ((0,0,[]),false)else some ((a,1,[]),true))
def I6(p2:I0)(c:Int):Nat->Int->Int->Int->Int->T0->Option (Int×Int×T0)
 |0,_,_,_,_,_=>none
 |fuel+1,f,a,d,b,e=>(if(decide (a<((p2.length:Nat):Int)))=true then(if(decide ((i64.wrap (a+1))<((p2.length:Nat):Int)))=true then(gi p2 a).bind λg=>(if(decide (g>0))=true then(gi p2 a).bind λh=>(C8 e (f,h,b)).bind λi=>(I6 p2 c fuel b (i64.wrap (a+1)) d (i64.wrap (b+1)) i)else(gi p2 a).bind λj=>(C8 e (b,(i64.wrap (0-j)),f)).bind λk=>(I6 p2 c fuel b (i64.wrap (a+1)) d (i64.wrap (b+1)) k))else(gi p2 a).bind λl=>(if(decide (l>0))=true then(gi p2 a).bind λm=>(C8 e (f,m,c)).bind λn=>(I6 p2 c fuel c (i64.wrap (a+1)) d b n)else(gi p2 a).bind λo=>(C8 e (c,(i64.wrap (0-o)),f)).bind λp=>(I6 p2 c fuel c (i64.wrap (a+1)) d b p)))else some (d,b,e))
def c03(l:j0)(f:Int)(p2:I0)(g:Int):Option (j0×Bool):=match l with|(c,a,d)=>(p5 (c,a,d)).bind λ(h,i,j)=>(V4 (c,a,d)).bind λb=>(chk (!(!b)) (P4 f 0 (i64.wrap (a-1))) false).bind λe=>(chk (!(bif(!b)then true else(!e))) (P4 g 0 (i64.wrap (a-1))) false).bind λk=>(chk (!(bif(bif(!b)then true else(!e))then true else(!k))) (p9 c p2) false).bind λm=>(if(bif(bif(bif(bif(bif(bif(!b)then true else(!e))then true else(!k))then true else(!m))then true else(decide (((p2.length:Nat):Int)=0)))then true else(decide ((i64.wrap ((i64.wrap (a+((p2.length:Nat):Int)))-1))>40)))then true else(decide ((i64.wrap (((d.length:Nat):Int)+((p2.length:Nat):Int)))>120)))=true then some ((h,i,j),false)else(I6 p2 g P0 f 0 h i j).bind (λ(n,o,p)=>some ((n,o,p),true)))
def N03(a:j0)(e:I0):Option (j0×Bool):=match a with|(b,c,d)=>(c03 (b,c,d) 0 e 0).bind λ(f,j)=>match f with|(g,h,i)=>some ((g,h,i),j)
def W8(a:M1):Nat->Int->Int->Int->T0->Option (Int×Int×T0)
 |0,_,_,_,_=>none
 |fuel+1,b,u8,d,c=>(if(decide (b<((a.length:Nat):Int)))=true then(gi a b).bind λe=>(N03 (u8,d,c) e).bind λ(f,j)=>match f with|(g,h,i)=>(W8 a fuel (i64.wrap (b+1)) g h i)else some (u8,d,c))
def O03(a:Int)(b:M1):Option (j0×Bool):=(p02 a b).bind λc=>(if(!c)=true then some ((0,0,[]),false)else(r05 a).bind λ(d,k)=>match d with|(e,f,g)=>(W8 b P0 0 e f g).bind (λ(h,i,j)=>some ((h,i,j),true)))
def D5(f:T0)(g:Int):Nat->Int->(List F6)->Option ((List F6))
 |0,_,_=>none
 |fuel+1,u8,e=>(if(decide (u8<((f.length:Nat):Int)))=true then(gi f g).bind λ(c,h,a)=>(gi f u8).bind λ(d,i,b)=>(if(bif(decide (h=i))then(decide (c=d))else false)=true then(grd ((e.length+([((if b<a then b else a),(if b>a then b else a))]).length)*16<=140737488355328)).bind λ_=>(if(bif(decide (h=i))then(decide (a=b))else false)=true then(grd (((e ++ [((if b<a then b else a),(if b>a then b else a))]).length+([((if d<c then d else c),(if d>c then d else c))]).length)*16<=140737488355328)).bind λ_=>(D5 f g fuel (i64.wrap (u8+1)) ((e ++ [((if b<a then b else a),(if b>a then b else a))]) ++ [((if d<c then d else c),(if d>c then d else c))]))else(D5 f g fuel (i64.wrap (u8+1)) (e ++ [((if b<a then b else a),(if b>a then b else a))])))else(if(bif(decide (h=i))then(decide (a=b))else false)=true then(grd ((e.length+([((if d<c then d else c),(if d>c then d else c))]).length)*16<=140737488355328)).bind λ_=>(D5 f g fuel (i64.wrap (u8+1)) (e ++ [((if d<c then d else c),(if d>c then d else c))]))else(D5 f g fuel (i64.wrap (u8+1)) e)))else some (e))
def Q9(b:T0):Nat->Int->(List F6)->Option ((List F6))
 |0,_,_=>none
 |fuel+1,a,c=>(if(decide (a<((b.length:Nat):Int)))=true then(D5 b a P0 (i64.wrap (a+1)) c).bind (λd=>(Q9 b fuel (i64.wrap (a+1)) d))else some (c))
def u04(a:j0):Option (J01):=match a with|(d,e,b)=>(Q9 b P0 0 ([]:J01)).bind (λc=>some c)
def R01(e:j0):Option (F6×Bool):=match e with|(a,b,c)=>(V4 (a,b,c)).bind λf=>(if(!f)=true then some ((0,0),false)else(u04 (a,b,c)).bind λd=>(if(decide (((d.length:Nat):Int)=0))=true then some ((0,0),false)else(gi d 0).bind λ(g,h)=>some ((g,h),true)))
def O04(a:Int)(d:F6):Option (Int):=match d with|(b,c)=>(if(decide (a=c))=true then(if(decide (b>c))=true then some (i64.wrap (b-1))else some b)else(if(decide (a>c))=true then some (i64.wrap (a-1))else some a))
def J5(a:T0)(b:Int)(c:Int):Nat->Int->Int->Int->T0->Option (Int×Int×T0)
 |0,_,_,_,_=>none
 |fuel+1,d,u8,f,e=>(if(decide (d<((a.length:Nat):Int)))=true then(gi a d).bind λ(i,j,k)=>(O04 i (b,c)).bind λg=>(grd (H0 g)).bind λm=>(O04 k (b,c)).bind λh=>(grd (H0 h)).bind λn=>(C8 e (g,j,h)).bind λl=>(J5 a b c fuel (i64.wrap (d+1)) u8 f l)else some (u8,f,e))
def R9(f:j0)(g:F6):Option (j0×Bool):=match f with|(b,a,c)=>match g with|(d,e)=>(V4 (b,a,c)).bind λh=>(if(bif(bif(bif(!h)then true else(decide (d<0)))then true else(decide (d ≥ e)))then true else(decide (e ≥ a)))=true then(p5 (b,a,c)).bind λ(i,j,k)=>some ((i,j,k),false)else(J5 c d e P0 0 b (i64.wrap (a-1)) ([]:T0)).bind (λ(l,m,n)=>some ((l,m,n),true)))
def P03(f:j0):Option (j0×F6×Bool):=match f with|(a,b,c)=>(R01 (a,b,c)).bind λ(g,h)=>match g with|(d,e)=>(if(!h)=true then(p5 (a,b,c)).bind λ(i,j,k)=>some ((i,j,k),(0,0),false)else(R9 (a,b,c) (d,e)).bind λ(l,p)=>match l with|(m,n,o)=>some ((m,n,o),(d,e),true))
def D8:Nat->Int->Int->Int->T0->(List F6)->Option ((j0×J01) ⊕ (Int×Int×T0×(List F6)))
 |0,_,_,_,_,_=>none
 |fuel+1,d,b,c,u8,a=>(if(decide (d<40))=true then(P03 (b,c,u8)).bind λ(g,k,l)=>match g with|(h,i,j)=>match k with|(e,f)=>(if(!l)=true then some (.inl ((b,c,u8),a))else(grd ((a.length+([(e,f)]).length)*16<=140737488355328)).bind λ_=>(D8 fuel (i64.wrap (d+1)) h i j (a ++ [(e,f)])))else some (.inr (b,c,u8,a)))
def v04(b:j0):Option (j0×J01):=match b with|(c,d,e)=>(p5 (c,d,e)).bind λ(f,g,h)=>(D8 P0 0 f g h ([]:J01)).bind λa=>w9 a (λ(i,j,k,l)=>some ((i,j,k),l))
def d03(f:j0):Option (j0×Bool):=match f with|(b,a,c)=>(p5 (b,a,c)).bind λ(d,g,e)=>(V4 (b,a,c)).bind λh=>(if(bif(!h)then true else(decide (a ≥ 40)))=true then some ((d,g,e),false)else some ((d,(i64.wrap (a+1)),e),true))
def j7(e:Int)(f:Int)(d:I0):Nat->Int->(List Int)->(List Int)->Option ((List Int)×(List Int))
 |0,_,_,_=>none
 |fuel+1,a,b,c=>(if(decide (a<e))=true then(if(!decide (a=f))=true then(grd ((b.length + [a].length)*8<=140737488355328)).bind λ_=>(gi d a).bind λg=>(grd ((c.length + [g].length)*8<=140737488355328)).bind λ_=>(j7 e f d fuel (i64.wrap (a+1)) (b ++ [a]) (c ++ [g]))else(j7 e f d fuel (i64.wrap (a+1)) b c))else some (b,c))
def i8(g:Int)(h:Int)(i:T0):Nat->I0->Int->Int->Int->T0->Option ((j0×I0) ⊕ (I0×Int×Int×T0))
 |0,_,_,_,_,_=>none
 |fuel+1,d,e,b,a,c=>(chk (decide (e<40)) (V4 (g,h,i)) false).bind λj=>(if(bif(decide (e<40))then j else false)=true then(b04 (b,a,c)).bind λf=>(grd (H0 f)).bind λ_=>(if(decide (f<0))=true then some (.inl ((b,a,c),d))else(j7 a f d P0 0 ([]:I0) ([]:I0)).bind (λ(o,p)=>(M9 (b,a,c) o).bind λ(k,q)=>match k with|(l,m,n)=>(i8 g h i fuel p (i64.wrap (e+1)) l m n)))else some (.inr (d,b,a,c)))
def j8(b:Int)(d:Int)(e:T0):Nat->Int->(List Int)->Option ((List Int))
 |0,_,_=>none
 |fuel+1,a,c=>(chk (decide (a<b)) (V4 (d,b,e)) false).bind λf=>(if(bif(decide (a<b))then f else false)=true then(grd ((c.length + [a].length)*8<=140737488355328)).bind λ_=>(j8 b d e fuel (i64.wrap (a+1)) (c ++ [a]))else some (c))
def i03(e:j0):Option (j0×I0):=match e with|(a,b,c)=>(p5 (a,b,c)).bind λ(f,g,h)=>(j8 b a c P0 0 ([]:I0)).bind (λm=>(i8 a b c P0 m 0 f g h).bind λd=>w9 d (λ(i,j,k,l)=>some ((j,k,l),i)))
def T01(a:j0):Option (j0):=match a with|(b,c,d)=>(v04 (b,c,d)).bind λ(e,p)=>match e with|(f,g,h)=>(i03 (f,g,h)).bind λ(i,q)=>match i with|(j,k,l)=>(g9 (j,k,l)).bind λ(m,n,o)=>some (m,n,o)
def F00(e:j0)(f:I0):Option (Bool):=match e with|(a,b,c)=>(G3 f).bind λg=>(C00 (a,b,c) 0 g).bind λ(d,i)=>(grd (H0 d)).bind λj=>(O6 (a,b,c)).bind λh=>some (bif(bif h then i else false)then(decide (d=0))else false)
def R4(a:I0):Option (I0):=(p00 [a]).bind λb=>some b
def y7(d:I0)(e:Int)(f:Int)(g:Int)(h:T0):Nat->T0->Int->(List Int)->Option (T0×(List Int))
 |0,_,_,_=>none
 |fuel+1,i,c,b=>(if(decide (c<((d.length:Nat):Int)))=true then(gi b e).bind λj=>(gi d c).bind λk=>(T4 (f,g,h) j k).bind λa=>(grd (H0 a)).bind λ_=>(chk (!(decide (a<0))) (W00 b a) false).bind λl=>(if(bif(decide (a<0))then true else l)=true then(y7 d e f g h fuel i (i64.wrap (c+1)) b)else(grd ((b.length + [a].length)*8<=140737488355328)).bind λ_=>(gi d c).bind λm=>(if(decide (m>0))=true then(gi (b ++ [a]) e).bind λn=>(gi d c).bind λo=>(C8 i (n,o,a)).bind λp=>(y7 d e f g h fuel p (i64.wrap (c+1)) (b ++ [a]))else(gi d c).bind λq=>(gi (b ++ [a]) e).bind λs=>(C8 i (a,(i64.wrap (0-q)),s)).bind λt=>(y7 d e f g h fuel t (i64.wrap (c+1)) (b ++ [a]))))else some (i,b))
def R00(h:I0)(d:Int)(e:Int)(f:T0):Nat->T0->Int->(List Int)->Option (T0×(List Int))
 |0,_,_,_=>none
 |fuel+1,g,a,b=>(some b.length).bind λc=>(grd (c<=9223372036854775807)).bind λ_=>(if(decide (a<((c:Nat):Int)))=true then(y7 h a d e f P0 g 0 b).bind (λ(i,j)=>(R00 h d e f fuel i (i64.wrap (a+1)) j))else some (g,b))
def C04(d:j0):Option (T0):=match d with|(a,b,c)=>(w7 (a,b,c)).bind λe=>(if(!e)=true then some ([]:T0)else(Q01 a).bind λf=>(R00 f a b c P0 ([]:T0) 0 [0]).bind (λ(g,h)=>some g))
def F7(c:T0)(d:T0)(e:Int):Nat->Bool->Int->Option (Bool)
 |0,_,_=>none
 |fuel+1,a,b=>(if(decide (b<((c.length:Nat):Int)))=true then(chk (!a) (gi c b) (0,0,0)).bind λ(f,g,h)=>(chk (!a) (gi d e) (0,0,0)).bind λ(i,j,k)=>(F7 c d e fuel (bif a then true else(eqE (f,g,h) (i,j,k))) (i64.wrap (b+1)))else some (a))
def D6(a:T0)(d:Int)(e:Int)(f:T0):Nat->Int->(List O0)->Option ((List O0))
 |0,_,_=>none
 |fuel+1,b,c=>(chk (decide (b<((a.length:Nat):Int))) (w7 (d,e,a)) false).bind λj=>(if(bif(decide (b<((a.length:Nat):Int)))then j else false)=true then(F7 f a b P0 false 0).bind (λk=>(if(!k)=true then(gi a b).bind λ(g,h,i)=>(grd ((c.length+([(g,h,i)]).length)*24<=140737488355328)).bind λ_=>(D6 a d e f fuel (i64.wrap (b+1)) (c ++ [(g,h,i)]))else(D6 a d e f fuel (i64.wrap (b+1)) c)))else some (c))
def w02(d:j0):Option (T0):=match d with|(a,b,c)=>(C04 (a,b,c)).bind λe=>(D6 c a b e P0 0 ([]:T0)).bind (λf=>some f)
def C02(b:(List BA)):Option (BA):=(v02 b (⟨#[32]⟩:BA) (⟨#[]⟩:BA)).bind λa=>(grd (a.size<=9223372036854775807)).bind λ_=>some a
end Go.Proofs.YthakcafglempaaaGreat
