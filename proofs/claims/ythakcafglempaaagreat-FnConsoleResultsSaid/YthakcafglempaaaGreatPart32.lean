/- Texts of the claim, joined: Plain laws: words and presentations, as the spec and the cod and others. -/
import Derived.Test.YthakcafglempaaaGreatPart24
import Derived.Test.YthakcafglempaaaGreatH33
import Derived.Test.YthakcafglempaaaGreatH36
import Derived.Test.YthakcafglempaaaGreatPart25
namespace Go.Proofs.YthakcafglempaaaGreat
set_option linter.all false
open Go.H
open IntKind (i64)
def j1{n:Nat}(h:n<=140737488355328):n<P0:=by unfold P0;omega
theorem C0{p:Prop}[Decidable p](h:p):grd p=some ():=by unfold grd;rw[iP h]
theorem H1{a:Type}(o:Option a)(d:a):chk true o d=o:=rfl
theorem O1{a:Type}(o:Option a)(d:a):chk false o d=some d:=rfl
theorem U1{a:Type}{xs:List a}{k:Nat}{x:a}(h:xs[k]?=some x):gi xs (k:Int)=some x:=by rw[J0g];exact h
def j0e{a:Type}{xs:List a}{x:a}(h:xs[0]?=some x):gi xs 0=some x:=U1 (k:=0) h
theorem b0b{x:Int}(h:H0 x)(a:x ≠ -9223372036854775808):i64.wrap (0-x) = -x:=by rw[w64 (by have:=h.1;have:=h.2;omega) (by have:=h.1;have:=h.2;omega)];omega
theorem K0d{n:Nat}(h:0<n)(a:n<=9223372036854775807):i64.wrap ((n:Int)-1)=((n-1:Nat):Int):=by grind[w64]
theorem V3{a:Type}{xs:List a}{k:Nat}(h:k<xs.length):xs[k]?=some xs[k]:=gG h
def inR(b a x:Int):Bool:=decide (b<=x)&&decide (x<=a)
def C08(b a:Int)(w:List Int)(i:Nat):Bool :=
 match w[i]? with
 |none=>true
 |some x=>x == 0 || !inR b a x || (decide (0<i)&&match w[i-1]? with
  |none=>true
  |some y=>x == i64.wrap (0-y))
def z05(b a:Int)(w:List Int):Nat->Nat->Bool
 |0,_=>true
 |d+1,k => !C08 b a w k&&z05 b a w d (k+1)
def J1(r:Int)(w:List Int):Bool:=inR 1 3 r&&decide (w.length<=24)&&z05 (-r) r w w.length 0
theorem A05(a b c:Int):P4 a b c=some (inR b c a):=by unfold P4 inR;by_cases h:b<=a<;>simp[h]
theorem d02(a b c:Int):U2 a b c=some (inR b c a):=A05 a b c
def V09(r:Int)(w:List Int)(l:w.length<=140737488355328):∀(d k fuel:Nat),k+d=w.length->d<fuel -> A00 w r fuel (k:Int)=some (bif z05 (i64.wrap (0-r)) r w d k then .inr ()else .inl false)
 |d,k,0,h,hf=>oM
 |0,k,fuel+1,h,hf=>by simp_all[A00.eq_2,iE,z05]
 |d+1,k,fuel+1,h,hf=>by
  have i:k<w.length:=oM;have a:=V3 i;generalize w[k]=x at a;have next:=V09 r w l d (k+1) fuel oM oM;rw[A00.eq_2,iP (by simp;omega)];generalize i64.wrap (0-r)=lo at next ⊢;simp only[U1 a,oB,A05,Z1 i (by omega:w.length<=9223372036854775807),next];have j:C08 lo r w k=(x == 0 || !inR lo r x || (decide (0<k)&&match w[k-1]? with
   |none=>true
   |some y=>x == i64.wrap (0-y))):=by unfold C08;rw[a]
  simp only[z05,j];by_cases h0:x=0;·simp[h0,chk]
  have e:decide (x=0)=false:=by simpa using h0
  have b:(x == 0)=false:=by simpa using h0
  cases hin:inR lo r x;·simp[e,b,hin,chk]
  by_cases hk0:k=0
  ·have f:decide ((k:Int)>0)=false:=by simp;omega
   have c:decide (0<k)=false:=by simp;omega
   simp only[e,b,hin,f,c,H1,O1,bT,bF,Bool.and_true,Bool.false_and,Bool.or_self,Bool.true_and,cT,zF,oB,Bool.or_false,Bool.and_false,fT,if_false,cT,zF]
  have g:=V3 (show k-1<w.length by omega);generalize w[k-1]=y at g;have m:i64.wrap ((k:Int)-1)=((k-1:Nat):Int):=K0d oM oM;have f:decide ((k:Int)>0):=by simp;omega
  have c:decide (0<k):=by simp;omega
  simp only[e,b,hin,f,c,m,g,U1 a,U1 g,H1,O1,bT,bF,Bool.and_true,Bool.false_and,Bool.or_self,Bool.true_and,cT,zF,oB,Bool.or_false,Bool.and_false,Bool.false_or];grind
def y03(r:Int)(w:List Int)(a:w.length<=140737488355328):p9 r w=some (J1 r w):=by
 unfold p9;have h:=V09 r w a w.length 0 P0 oM (j1 a);rw[show((0:Nat):Int)=0 from rfl]at h;rw[h,A05];unfold J1;by_cases hr:inR 1 3 r
 ·have:i64.wrap (0-r) = -r:=by simp only[inR,aE,dE]at hr;grind[w64]
  rw[this,hr];cases z05 (-r) r w w.length 0<;>simp[w9]<;>omega
 simp only[Bool.not_eq_true]at hr;rw[hr];cases z05 (i64.wrap (0-r)) r w w.length 0<;>simp[w9]
def f0r(r x:Int)(b:inR 1 3 r):I03 r x=some (!(x == 0)&&inR (-r) r x):=by
 have a:i64.wrap (0-r) = -r:=by simp only[inR,aE,dE]at b;grind[w64]
 unfold I03;rw[a,d02];by_cases h0:x=0;all_goals grind[chk]
def N0a(y x:Int):n00 y x=some (!(y == 0) && !(y == -9223372036854775808)&&(x == i64.wrap (0-y))):=by unfold n00;grind
def W09(r:Int)(w:List Int)(g:inR 1 3 r)(t:w.length<=140737488355328):∀(d k fuel:Nat),k+d=w.length->d<fuel ->
  (∀ i,i<k->C08 (-r) r w i=false) ->
  B00 w r fuel (k:Int)=some (bif z05 (-r) r w d k then .inr ()else .inl false)
 |d,k,0,m,hf,f=>oM
 |0,k,fuel+1,m,hf,f=>by
  simp_all[B00.eq_2,iE,z05]
 |d+1,k,fuel+1,m,hf,f=>by
  have n:k<w.length:=oM
  have h:=V3 n
  generalize w[k]=x at h
  have next:=λ(e:C08 (-r) r w k=false)=>W09 r w g t d (k+1) fuel oM oM (λi z=>by
   grind)
  rw[B00.eq_2,iP (by simp;omega)]
  rw[U1 h,oB,f0r r x g,Z1 n (by omega:w.length<=9223372036854775807)]
  have l:C08 (-r) r w k=(x == 0 || !inR (-r) r x || (decide (0<k)&&match w[k-1]? with
   |none=>true
   |some y=>x == i64.wrap (0-y))):=by unfold C08;rw[h]
  simp only[z05]
  by_cases h0:x=0
  ·simp[h0,chk,l]
  have b:(x == 0)=false:=by simpa using h0
  cases hin:inR (-r) r x with
  |false=>simp[b,hin,chk,l]
  |true =>
   by_cases hk0:k=0
   ·have e:C08 (-r) r w k=false:=oG
    rw[next e,e]
    have c:decide ((k:Int)>0)=false:=by simp;omega
    simp only[b,c,H1,O1,bT,bF,Bool.and_true,Bool.false_and,Bool.or_self,Bool.true_and,cT,zF,oB,Bool.or_false,Bool.and_false,fT,if_false,cT,zF]
   ·have j:=V3 (show k-1<w.length by omega)
    have a:=f (k-1) oM
    generalize w[k-1]=y at j
    have o:y≠0/\y ≠ -9223372036854775808:=by
     unfold C08 at a
     rw[j]at a
     simp only[Bool.or_eq_false_iff,Bool.not_eq_false']at a
     have s:=a.1.2
     simp only[inR,aE,dE]at s g
     grind
    have p:(y == 0)=false:=by simpa using o.1
    have q:(y == -9223372036854775808)=false:=by simpa using o.2
    have u:i64.wrap ((k:Int)-1)=((k-1:Nat):Int):=K0d oM oM
    have c:decide ((k:Int)>0):=by simp;omega
    have v:decide (0<k):=by simp;omega
    simp only[b,c,u,U1 j,N0a,p,q,H1,O1,bT,bF,Bool.and_true,Bool.false_and,Bool.or_self,Bool.true_and,cT,zF,oB,Bool.or_false,Bool.and_false,Bool.false_or]
    grind
def U00(r:Int)(w:List Int)(a:w.length<=140737488355328):L6 r w=some (J1 r w):=by
 unfold L6;rw[d02];unfold J1;cases hr:inR 1 3 r;·simp
 by_cases h24:w.length<=24;·have h:=W09 r w hr a w.length 0 P0 oM (j1 a) (λi c=>oM);rw[show((0:Nat):Int)=0 from rfl]at h;have b : ¬ (24:Int)<(w.length:Int):=oM;simp only[oB,h,b];cases z05 (-r) r w w.length 0<;>simp[w9,h24]
 grind
def tot:List (List Int)->Nat
 | []=>0
 |w::r=>w.length+tot r
theorem I1{a:Type}{xs:List a}{k:Nat}{x:a}(h:xs[k]?=some x):xs.drop k=x::xs.drop (k+1):=by
 grind[List.getElem?_eq_some_iff,List.drop_eq_getElem_cons]
theorem D1{a:Type}{xs:List a}{k:Nat}(h:k=xs.length):xs.drop k = []:=oG
def A06(ws:List (List Int))(g:ws.length<=140737488355328):∀(d k fuel a:Nat),k+d=ws.length->d<fuel->a+tot (ws.drop k)<=9223372036854775807 -> Q4 ws fuel (a:Int) (k:Int)=some ((a+tot (ws.drop k):Nat):Int)
 |d,k,0,a,e,hf,b=>oM
 |0,k,fuel+1,a,e,hf,b=>by rw[Q4.eq_2,iE (by simp;omega),D1 oM];rfl
 |d+1,k,fuel+1,a,e,hf,b=>by
  have f:k<ws.length:=oM;have c:=V3 f;generalize ws[k]=x at c;rw[I1 c]at b ⊢;simp only[tot]at b ⊢;rw[Q4.eq_2,iP (by simp;omega),U1 c,oB,Z1 f (by omega:ws.length<=9223372036854775807),
   show i64.wrap ((a:Int)+((x.length:Nat):Int))=((a+x.length:Nat):Int) by grind[w64],
   A06 ws g d (k+1) fuel (a+x.length) oM oM oM]
  rw[Nat.add_assoc]
def h09(ws:List (List Int))(a:ws.length<=140737488355328)(b:tot ws<=9223372036854775807):M00 ws=some ((tot ws:Nat):Int):=by unfold M00;have h:=A06 ws a ws.length 0 P0 0 oM (j1 a) (by simpa using b);grind
def M05(ws:List (List Int)):∀(fuel:Nat) (a k:Int),Y7 ws fuel a k=Q4 ws fuel a k
 |0,a,k=>rfl
 |fuel+1,a,k=>by rw[Y7.eq_2,Q4.eq_2];simp only[M05 ws fuel]
def n0f(ws:List (List Int))(a:ws.length<=140737488355328)(b:tot ws<=9223372036854775807):b02 ws=some ((tot ws:Nat):Int):=by rw[←h09 ws a b];unfold b02 M00;rw[M05]
def g0b(r:Int):List (List Int)->Bool
 | []=>true
 |w::l=>J1 r w&&g0b r l
def j2(r:Int)(ws:List (List Int)):Bool:=inR 1 3 r&&decide (ws.length<=6)&&g0b r ws&&decide (tot ws<40)
theorem n0j{r:Int}:∀ {ws:List (List Int)},g0b r ws=true->tot ws<=24*ws.length
 | [],_=>by simp[tot]
 |w::l,h=>by
  simp only[g0b,Bool.and_eq_true]at h
  have a:=h.1
  simp only[J1,Bool.and_eq_true,decide_eq_true_eq]at a
  have:=n0j h.2
  grind[tot,List.length_cons]
def K7(ws:List (List Int)):Prop:=∀ w∈ws,w.length<=140737488355328
def D08(r:Int)(ws:List (List Int))(g:ws.length<=140737488355328)(e:K7 ws):∀(d k fuel:Nat),k+d=ws.length->d<fuel -> O8 ws r fuel (k:Int)=some (bif g0b r (ws.drop k)then .inr ()else .inl false)
 |d,k,0,b,hf=>oM
 |0,k,fuel+1,b,hf=>by rw[O8.eq_2,iE (by simp;omega),D1 oM];rfl
 |d+1,k,fuel+1,b,hf=>by
  have c:k<ws.length:=oM;have a:=V3 c;have f:=e _ (mG a);generalize ws[k]=x at a f;rw[I1 a,O8.eq_2,iP (by simp;omega),U1 a,oB,y03 r x f,oB,Z1 c (by omega:ws.length<=9223372036854775807),
   D08 r ws g e d (k+1) fuel oM oM]
  simp only[g0b];cases J1 r x<;>simp
def S0b(r:Int)(ws:List (List Int))(a:ws.length<=140737488355328)(d:K7 ws):p02 r ws=some (j2 r ws):=by
 unfold p02;have h:=D08 r ws a d ws.length 0 P0 oM (j1 a);rw[show((0:Nat):Int)=0 from rfl,(dZ)]at h;rw[h,oB];unfold j2;cases ha:g0b r ws;·simp[w9]
 rw[(cT),S0,A05,oB];have:=n0j ha;cases hr:inR 1 3 r;·simp[chk,grd,H0]
 by_cases h6:ws.length<=6
 ·rw[h09 ws a oM];have b:decide (((ws.length:Nat):Int)<=6):=by simp;omega
  have c:decide (ws.length<=6):=by simpa using h6
  rw[b,c,(cT),H1,oB,C0 (by constructor<;>omega)];simp;omega
 grind[decide,chk,grd,H0]
def E08(r:Int)(ws:List (List Int))(g:ws.length<=140737488355328)(e:K7 ws):∀(d k fuel:Nat),k+d=ws.length->d<fuel -> P8 ws r fuel (k:Int)=some (bif g0b r (ws.drop k)then .inr ()else .inl false)
 |d,k,0,b,hf=>oM
 |0,k,fuel+1,b,hf=>by rw[P8.eq_2,iE (by simp;omega),D1 oM];rfl
 |d+1,k,fuel+1,b,hf=>by
  have c:k<ws.length:=oM;have a:=V3 c;have f:=e _ (mG a);generalize ws[k]=x at a f;rw[I1 a,P8.eq_2,iP (by simp;omega),U1 a,oB,U00 r x f,oB,Z1 c (by omega:ws.length<=9223372036854775807),
   E08 r ws g e d (k+1) fuel oM oM]
  simp only[g0b];cases J1 r x<;>simp
def g06(r:Int)(ws:List (List Int))(a:ws.length<=140737488355328)(d:K7 ws):z9 r ws=some (j2 r ws):=by
 unfold z9;rw[d02,oB];unfold j2;cases hr:inR 1 3 r;·simp
 by_cases h6:ws.length<=6
 ·have b:decide (((ws.length:Nat):Int)>6)=false:=by simp;omega
  have c:decide (ws.length<=6):=by simpa using h6
  have h:=E08 r ws a d ws.length 0 P0 oM (j1 a);rw[show((0:Nat):Int)=0 from rfl,(dZ)]at h;rw[b,c,h,oB];cases ha:g0b r ws;·simp[w9]
  have:=n0j ha;simp only[cT,S0,n0f ws a oM,oB,C0 (show H0 ((tot ws:Nat):Int) by constructor<;>omega)];simp;omega
 grind
def O0c{b a:Int}{w:List Int}:∀ {d k:Nat},z05 b a w d k->∀ i,k<=i->i<k+d->C08 b a w i=false
 |0,k,h,i,c,f=>oM
 |d+1,k,h,i,c,f=>by
  simp only[z05,aE,Bool.not_eq_true']at h;by_cases e:i=k;·subst e;exact h.1
  exact O0c h.2 i oM oM
def B0h{r:Int}{w:List Int}(h:J1 r w){i:Nat}{x:Int}(c:w[i]?=some x):(1<=r/\r<=3)/\w.length<=24/\x≠0 /\ -r<=x/\x<=r:=by simp only[J1,aE,dE]at h;have b:=h.1.1;simp only[inR,aE,dE]at b;have a:=O0c h.2 i (Nat.zero_le _) oG;unfold C08 at a;simp_all[Bool.or_eq_false_iff,Bool.not_eq_false',inR,aE,dE]
def d0p(n:Int):BA:=if n=0 then⟨#[48]⟩else if n<0 then⟨(45::m0d 20 n.natAbs []).toArray⟩else⟨(m0d 20 n.natAbs []).toArray⟩
def X04(n:Int)(m:Nat):Int:=if n<0 then -(m:Int)else m
def w0s(n:Int)(m:Nat):(X04 n m).tmod 10=X04 n (m % 10):=by grind[X04,Int.neg_tmod,Int.ofNat_tmod]
def x0s(n:Int)(m:Nat):(X04 n m).tdiv 10=X04 n (m / 10):=by unfold X04;grind
def e0p{n:Int}{m:Nat}:X04 n m=0↔m=0:=by unfold X04;split<;>omega
def z0A{a:Int}{m:Nat}(acc:List UInt8)(e:a=((m % 10:Nat):Int)):strOfNums [IntKind.u8.wrap (i64.wrap (48+a))]++⟨acc.toArray⟩=⟨(UInt8.ofNat (48+m % 10)::acc).toArray⟩:=by
 have b:IntKind.u8.wrap (i64.wrap (48+a))=((48+m % 10:Nat):Int):=by rw[e];simp[IntKind.wrap,IntKind.signed,IntKind.bits];omega
 rw[b,show strOfNums [((48+m % 10:Nat):Int)]=⟨#[UInt8.ofNat (48+m % 10)]⟩ from by simp only[strOfNums,List.map_cons,List.map_nil,iN]];generalize UInt8.ofNat (48+m % 10)=d;apply ByteArray.ext;simp_all
def F08(a b:List UInt8):(⟨a.toArray⟩:BA)++⟨b.toArray⟩=⟨(a++b).toArray⟩:=by apply ByteArray.ext;simp_all
theorem C4(a:List UInt8):(⟨a.toArray⟩:BA).size=a.length:=by simp[ByteArray.size]
def o0y{n:Int}{m:Nat}(h:m<=9223372036854775808)(a:n<0∨m<=9223372036854775807):H0 (X04 n m):=by unfold X04;split<;>constructor<;>omega
theorem C07(n:Int):∀(f m fuel:Nat) (acc:List UInt8),m<10 ^ f->f<fuel->m<=9223372036854775808->acc.length+f<=100->(n<0∨m<=9223372036854775807) ->
  W5 fuel (X04 n m) ⟨acc.toArray⟩=some ⟨(m0d f m acc).toArray⟩
 |f,m,0,acc,b,c,d,g,h=>by omega
 |0,m,fuel+1,acc,b,c,d,g,h=>by
  have:m=0:=by simp at b;exact b
  subst this
  rw[W5.eq_2,show X04 n 0=0 by unfold X04;split<;>simp]
  rfl
 |f+1,m,fuel+1,acc,b,c,d,g,h=>by
  rw[W5.eq_2]
  by_cases h0:m=0
  ·grind[X04,m0d]
  ·have p:X04 n m≠0:=λe=>h0 (e0p.1 e)
   have next:=C07 n f (m / 10) fuel (UInt8.ofNat (48+m % 10)::acc) (by grind) (by omega) (by omega) (by grind) (by omega)
   have o:IntKind.i64.wrap ((X04 n m).tdiv 10)=X04 n (m / 10):=by
    rw[x0s]
    have:=o0y (n:=n) (m:=m / 10) (by omega) (by omega)
    exact w64 this.1 this.2
   rw[if_pos (by simpa using p),o,w0s]
   simp only[show ∀ k:Unit->Option ByteArray,(grd (10≠0)).bind k=k () from λk=>rfl]
   have i:∀ a:Int,a=((m % 10:Nat):Int)->((grd ([IntKind.u8.wrap (IntKind.i64.wrap (48+a))].length<=9223372036854775807)).bind λ_=>(grd ((strOfNums [IntKind.u8.wrap (IntKind.i64.wrap (48+a))]).size+(⟨acc.toArray⟩:ByteArray).size<=9223372036854775807)).bind λ_ =>
     W5 fuel (X04 n (m / 10)) (strOfNums [IntKind.u8.wrap (IntKind.i64.wrap (48+a))]++⟨acc.toArray⟩))=some ⟨(m0d (f+1) m acc).toArray⟩:=λa j=>by
    rw[C0 (by simp),oB,C0 (by grind[strOfNums_size,C4,List.length_singleton]),oB,z0A acc j,next]
    simp[m0d,h0]
   by_cases hneg:X04 n (m % 10)<0
   ·rw[if_pos (by simpa using hneg)]
    refine i _ ?_
    unfold X04 at hneg ⊢
    split at hneg
    ·rename_i l
     rw[if_pos l,w64 (by omega) (by omega)];omega
    ·omega
   ·rw[if_neg (by simpa using hneg)]
    refine i _ ?_
    unfold X04 at hneg ⊢
    grind
def f0p(n:Int):X04 n n.natAbs=n:=by unfold X04;split<;>omega
def w8(n:Int)(a:H0 n):Z3 n=some (d0p n):=by
 unfold Z3 d0p;by_cases h0:n=0;·rw[iP (by simpa using h0),iP h0]
 rw[iE (by simpa using h0),iE h0];have h:=C07 n 20 n.natAbs P0 [] (by have:=a.1;have:=a.2;omega) (by unfold P0;omega) (by have:=a.1;have:=a.2;omega) oS (by have:=a.2;omega);rw[f0p]at h;rw[h,oB];have b:=k0j 20 n.natAbs [];simp only[lN]at b;by_cases hneg:n<0;·rw[iP (by simpa using hneg),iP hneg,C0 (by grind[C4,m0d]),oB];exact congrArg some (F08 [45] _)
 grind
def T0b:Nat->Nat->List Int
 |0,_=>[]
 |f+1,m=>if m=0 then []else((48+m % 10:Nat):Int)::T0b f (m / 10)
def g0p:∀(f m:Nat),(T0b f m).length<=f
 |0,m=>by simp[T0b]
 |f+1,m=>by
  simp only[T0b];split;·simp
  have:=g0p f (m / 10);grind
def P0c:∀(f m:Nat) (acc:List UInt8),m0d f m acc=(T0b f m).reverse.map (λx=>UInt8.ofNat x.toNat)++acc
 |0,m,acc=>by simp[m0d,T0b]
 |f+1,m,acc=>by
  simp only[m0d,T0b];split;·simp
  rw[P0c f (m / 10)];grind
theorem D07(n:Int):∀(f m fuel:Nat) (acc:List Int),m<10 ^ f->f<fuel->m<=9223372036854775808->acc.length+f<=100->(n<0∨m<=9223372036854775807) ->
  Y5 fuel (X04 n m) acc=some (acc++T0b f m)
 |f,m,0,acc,b,c,d,g,h=>by omega
 |0,m,fuel+1,acc,b,c,d,g,h=>by
  grind[Y5.eq_2,X04,T0b]
 |f+1,m,fuel+1,acc,b,c,d,g,h=>by
  rw[Y5.eq_2]
  by_cases h0:m=0
  ·grind[X04,T0b]
  ·have p:X04 n m≠0:=λe=>h0 (e0p.1 e)
   have next:=D07 n f (m / 10) fuel (acc ++ [((48+m % 10:Nat):Int)]) (by grind) (by omega) (by omega) (by grind) (by omega)
   have o:IntKind.i64.wrap ((X04 n m).tdiv 10)=X04 n (m / 10):=by
    rw[x0s]
    have:=o0y (n:=n) (m:=m / 10) (by omega) (by omega)
    exact w64 this.1 this.2
   rw[if_pos (by simpa using p),o,w0s]
   simp only[show ∀ k:Unit->Option (List Int),(grd (10≠0)).bind k=k () from λk=>rfl]
   have i:∀ a:Int,a=((m % 10:Nat):Int)->((grd ((acc.length + [IntKind.u8.wrap (IntKind.i64.wrap (48+a))].length)*1<=140737488355328)).bind λ_ =>
     Y5 fuel (X04 n (m / 10)) (acc ++ [IntKind.u8.wrap (IntKind.i64.wrap (48+a))]))=some (acc++T0b (f+1) m):=λa j=>by
    have q:IntKind.u8.wrap (IntKind.i64.wrap (48+a))=((48+m % 10:Nat):Int):=by
     rw[j]
     simp[IntKind.wrap,IntKind.signed,IntKind.bits]
     omega
    grind[C0,List.length_singleton,T0b]
   by_cases hneg:X04 n (m % 10)<0
   ·rw[if_pos (by simpa using hneg)]
    refine i _ ?_
    unfold X04 at hneg ⊢
    split at hneg
    ·rename_i l
     rw[if_pos l,w64 (by omega) (by omega)];omega
    ·omega
   ·rw[if_neg (by simpa using hneg)]
    refine i _ ?_
    unfold X04 at hneg ⊢
    grind
def p0y(xs:List Int)(l:xs.length<=140737488355328):∀(fuel i j:Nat) (a:List Int),i+j+1=xs.length->j+1-i<fuel->a.length=xs.length->(∀ t,t<xs.length->a[t]?=if t<i∨j<t then xs[xs.length-1-t]? else xs[t]?) -> M4 fuel (i:Int) (j:Int) a=some xs.reverse
 |0,i,j,a,g,h,f,e=>oM
 |fuel+1,i,j,a,g,h,f,e=>by
  rw[M4.eq_2];by_cases hij:i<j
  ·have gi1:=V3 (show i<a.length by omega);have d:=V3 (show j<a.length by omega);generalize n:a[i]=xi at gi1;generalize o:a[j]=xj at d;rw[iP (by simp;omega),U1 d,oB,U1 gi1,oB,oB];rw[U1 (k:=j) (x:=xj) oG,oB,Z1 hij oM,K0d oM oM];refine p0y xs l fuel (i+1) (j-1) _ oM oM (by simpa using f) (λt m=>?_);have b:=e i oM;have c:=e j oM;rw[iE oM]at b c;rw[gi1]at b;rw[d]at c;simp only[iN];by_cases t1:j=t;·subst t1;rw[List.getElem?_set_self oG,iP (Or.inr oM),show xs.length-1-j=i by omega];exact b
   rw[List.getElem?_set_ne t1];by_cases t2:i=t;·subst t2;rw[List.getElem?_set_self oM,iP (Or.inl oM),show xs.length-1-i=j by omega];exact c
   grind
  rw[iE (by simp;omega)];refine congrArg some (List.ext_getElem? λt=>?_);grind
def B0v(xs:List Int)(h0:0<xs.length)(a:xs.length<=1000):M4 P0 0 (i64.wrap (((xs.length:Nat):Int)-1)) xs=some xs.reverse:=by rw[K0d h0 oM];exact p0y xs oM P0 0 (xs.length-1) xs oM (by unfold P0;omega) rfl (λt b=>by rw[iE oM])
def A9(n:Int)(a:H0 n):E2 n=some (d0p n):=by
 unfold E2 d0p;by_cases h0:n=0;·rw[iP (by simpa using h0),iP h0]
 rw[iE (by simpa using h0),iE h0];have h:=D07 n 20 n.natAbs P0 [] (by have:=a.1;have:=a.2;omega) (by unfold P0;omega) (by have:=a.1;have:=a.2;omega) oS (by have:=a.2;omega);rw[f0p,(nA)]at h;have c:=g0p 20 n.natAbs;have b:0<(T0b 20 n.natAbs).length:=by simp only[T0b];rw[iE oM];simp
 rw[h,oB];simp only[oB];by_cases hneg:n<0
 ·rw[iP (by simpa using hneg),iP hneg,C0 oG,oB,C0 oG,oB,
   B0v _ oS oG,oB,C0 oG,oB,P0c]
  simp[strOfNums]
 rw[iE (by simpa using hneg),iE hneg,C0 oM,oB,
  B0v _ b oM,oB,C0 oG,oB,P0c]
 simp[strOfNums]
set_option maxRecDepth 10000
abbrev B(l:List UInt8):BA:=⟨l.toArray⟩
def e01(l:List UInt8):M7 (B l) ⟨#[]⟩=l.isEmpty:=by rw[l0f];grind
def N05(x:Int):Bool := !(x == 0)&&inR (-3) 3 x
def chL(x:Int):UInt8:=if x<0 then UInt8.ofNat (64+x.natAbs)else UInt8.ofNat (96+x.natAbs)
def O05{x:Int}(a:N05 x):x = -3∨x = -2∨x = -1∨x=1∨x=2∨x=3:=by simp only[N05,inR,aE,Bool.not_eq_true',beq_eq_false_iff_ne,dE]at a;omega
def g0r(x:Int):J03 x=some (N05 x):=by unfold J03 N05;rw[A05];by_cases h:x=0<;>simp[h,chk]
def h0p(x:Int)(a:N05 x):e05 x=some (B [chL x]):=by rcases O05 a with rfl|rfl|rfl|rfl|rfl|rfl<;>rfl
theorem o0f(x:Int):o00 x=some (bif N05 x then B [chL x]else B []):=by
 cases hx:N05 x
 ·unfold o00;rw[d02,d02];have a:inR 1 3 x=false:=by simp only[N05,inR,Bool.and_eq_false_iff,Bool.not_eq_false',beq_iff_eq,decide_eq_false_iff_not]at hx ⊢;omega
  have b:inR (-3) (-1) x=false:=by simp only[N05,inR,Bool.and_eq_false_iff,Bool.not_eq_false',beq_iff_eq,decide_eq_false_iff_not]at hx ⊢;omega
  rw[a,b];rfl
 rcases O05 hx with rfl|rfl|rfl|rfl|rfl|rfl<;>rfl
def i00:List Int->Bool
 | []=>true
 |x::r=>N05 x&&i00 r
def wl(w:List Int):List UInt8:=match w with
 | []=>[49]
 |x::r=>(x::r).map chL
def q04(w:List Int):BA:=bif i00 w then B (wl w)else B []
def q0y(w:List Int):(wl w).isEmpty=false:=by cases w<;>rfl
theorem x07(w:List Int):(wl w).length<=w.length+1:=by cases w<;>simp[wl]
theorem U0b(w:List Int):(q04 w).size<=w.length+1:=by
 unfold q04;cases i00 w;·show 0<=_;omega
 simp_all[cT,C4,x07]
def k0e(w:List Int):M7 (q04 w) ⟨#[]⟩ = !i00 w:=by
 unfold q04;cases i00 w;·rw[(zF),e01];rfl
 simp_all[cT,e01,q0y]
theorem h07(w:List Int)(f:w.length<=140737488355328):∀(d k fuel:Nat) (acc:List UInt8),k+d=w.length->d<fuel->acc.length+d<=140737488355328 ->
  B7 w fuel (B acc) (k:Int)=some (bif i00 (w.drop k)then .inr (B (acc++(w.drop k).map chL))else .inl (B []))
 |d,k,0,acc,c,hf,b=>by omega
 |0,k,fuel+1,acc,c,hf,b=>by
  simp_all[B7.eq_2,if_neg,D1,i00]
 |d+1,k,fuel+1,acc,c,hf,b=>by
  have e:k<w.length:=by omega
  have a:=V3 e
  generalize w[k]=x at a
  have next:=h07 w f d (k+1) fuel (acc ++ [chL x]) (by omega) (by omega) (by grind)
  rw[I1 a,B7.eq_2,if_pos (by simp;omega),U1 a,oB,g0r,oB]
  simp only[i00]
  cases hlx:N05 x with
  |false=>rfl
  |true =>
   rw[if_neg (by simp),oB,h0p x hlx,oB,C0 (by rw[C4];simp),oB,C0 (by grind[C4,List.length_singleton]),oB,
    F08,Z1 e (by omega:w.length<=9223372036854775807),next]
   simp
def M04(w:List Int)(a:w.length<=140737488355):O7 w=some (q04 w):=by
 unfold O7;have h:=h07 w oM w.length 0 P0 [] oM (j1 oM) oG;rw[show((0:Nat):Int)=0 from rfl,(dZ),(nA)]at h;rw[show(⟨#[]⟩:BA)=B [] from rfl,h,oB];unfold q04;cases i00 w;·rfl
 rw[(cT),S0,show(B []:BA)=⟨#[]⟩ from rfl,e01];cases w<;>rfl
theorem i07(w:List Int)(f:w.length<=140737488355328):∀(d k fuel:Nat) (acc:List UInt8),k+d=w.length->d<fuel->acc.length+d<=140737488355328 ->
  C7 w fuel (B acc) (k:Int)=some (bif i00 (w.drop k)then .inr (B (acc++(w.drop k).map chL))else .inl (B []))
 |d,k,0,acc,c,hf,b=>by omega
 |0,k,fuel+1,acc,c,hf,b=>by
  simp_all[C7.eq_2,if_neg,D1,i00]
 |d+1,k,fuel+1,acc,c,hf,b=>by
  have e:k<w.length:=by omega
  have a:=V3 e
  generalize w[k]=x at a
  have next:=i07 w f d (k+1) fuel (acc ++ [chL x]) (by omega) (by omega) (by grind)
  rw[I1 a,C7.eq_2,if_pos (by simp;omega),U1 a,oB,o0f,oB]
  simp only[i00]
  cases hlx:N05 x with
  |false=>simp_all[cond_false,C0,C4,oB,e01]
  |true =>
   rw[cond_true,C0 (by rw[C4];simp),oB,e01,if_neg (by simp),C0 (by grind[C4,List.length_singleton]),oB,
    F08,Z1 e (by omega:w.length<=9223372036854775807),next]
   simp
def M06(w:List Int)(a:w.length<=140737488355):M6 w=some (q04 w):=by
 unfold M6;by_cases h0:w.length=0;·have:w = []:=List.length_eq_zero_iff.1 h0;subst this;rfl
 have h:=i07 w oM w.length 0 P0 [] oM (j1 oM) oG;rw[show((0:Nat):Int)=0 from rfl,(dZ),(nA)]at h;rw[iE oG,show(⟨#[]⟩:BA)=B [] from rfl,h,oB];unfold q04;cases i00 w;·rfl
 cases w with
 |nil=>simp at h0
 |cons x r=>rfl
def T00(a:UInt8):List (List UInt8)->List UInt8
 | []=>[]
 |x::r=>a::x++T00 a r
def K03(a:UInt8):List (List UInt8)->List UInt8
 | []=>[]
 |x::r=>x++T00 a r
def g04:List (List Int)->Bool
 | []=>true
 |w::r=>i00 w&&g04 r
def i09(ws:List (List Int)):BA:=bif g04 ws then(match ws with
 | []=>B [110,111,110,101]
 |w::r=>B (K03 44 ((w::r).map wl)))else B []
def wsz:List (List Int)->Nat
 | []=>0
 |w::r=>w.length+2+wsz r
theorem L0g:∀ ws:List (List Int),(T00 44 (ws.map wl)).length<=wsz ws
 | []=>by simp[T00,wsz]
 |w::r=>by
  have:=L0g r
  have:=x07 w
  grind[T00,wsz,List.length_cons,List.length_append]
def p0n{w:List Int}:∀ {ws:List (List Int)},w∈ws->w.length<=wsz ws
 |x::r,h=>by
  rcases mE.1 h with rfl|h;·simp only[wsz];omega
  have:=p0n h;simp only[wsz];omega
theorem p0f:∀ ws:List (List Int),ws.length<=wsz ws
 | []=>by simp
 |w::r=>by have:=p0f r;grind[wsz,List.length_cons]
theorem B06(ws:List (List Int))(g:wsz ws<=140737488):∀(d k fuel:Nat) (acc:List UInt8),k+d=ws.length->d<fuel->0<k->acc.length+wsz (ws.drop k)<=140737488355328 ->
  D4 ws fuel (B acc) (k:Int)=some (bif g04 (ws.drop k)then .inr (B (acc++T00 44 ((ws.drop k).map wl)))else .inl (B []))
 |d,k,0,acc,c,hf,h0,a=>by omega
 |0,k,fuel+1,acc,c,hf,h0,a=>by
  simp_all[D4.eq_2,if_neg,D1,g04,T00]
 |d+1,k,fuel+1,acc,c,hf,h0,a=>by
  have e:k<ws.length:=by omega
  have b:=V3 e
  have i:=p0f ws
  have h:=p0n (List.mem_of_getElem? b)
  generalize ws[k]=x at b h
  rw[I1 b]at a ⊢
  simp only[wsz]at a
  have j:=x07 x
  have next:=B06 ws g d (k+1) fuel (acc ++ [44]++wl x) (by omega) (by omega) (by omega) (by grind)
  rw[D4.eq_2,if_pos (by simp;omega),if_pos (by simp;omega),C0 (by grind[C4]),oB,U1 b,oB,M04 x (by omega),oB,
   C0 (by grind[U0b]),oB,k0e]
  simp only[g04]
  cases hlx:i00 x with
  |false=>rfl
  |true =>
   have f:q04 x=B (wl x):=by grind[q04]
   rw[if_neg (by simp),f,show(⟨#[44]⟩:ByteArray)=B [44] from rfl,F08,C0 (by grind[C4,List.length_append,List.length_singleton]),oB,F08,
    Z1 e (by omega:ws.length<=9223372036854775807),next]
   simp[T00]
theorem h06(ws:List (List Int))(b:wsz ws<=140737488):Z7 ws=some (i09 ws):=by
 unfold Z7 i09
 cases ws with
 |nil=>rw[show P0=(P0-1)+1 from rfl,D4.eq_2,if_neg (by simp),oB,S0,if_pos (Z07.2 rfl)];rfl
 |cons x r =>
  have d:=x07 x
  have c:wsz r<=140737488:=by grind[wsz]
  have e:x.length<=140737488:=by grind[wsz]
  have next:=B06 (x::r) b r.length 1 (P0-1) (wl x) (by grind) (by grind[p0f,P0]) (by omega) (by grind)
  rw[show P0=(P0-1)+1 from rfl,D4.eq_2,if_pos (by simp),if_neg (by simp),j0e (x:=x) rfl,oB,M04 x (by omega),oB,
   C0 (by grind[U0b]),oB,k0e]
  simp only[g04]
  cases hlx:i00 x with
  |false=>rfl
  |true =>
   have a:q04 x=B (wl x):=by grind[q04]
   rw[if_neg (by simp),a,show(⟨#[]⟩:ByteArray)=B [] from rfl,F08,List.nil_append,C0 (by grind[C4,List.length_nil]),oB,
    show IntKind.i64.wrap (0+1)=((1:Nat):Int) by decide,next]
   simp only[List.drop_succ_cons,List.drop_zero,Bool.true_and,oB]
   cases g04 r with
   |false=>rfl
   |true =>
    rw[cond_true,S0,show(B []:ByteArray)=⟨#[]⟩ from rfl,e01]
    have:(wl x++T00 44 (List.map wl r)).isEmpty=false:=by cases x<;>rfl
    rw[this]
    rfl
def C06(ws:List (List Int))(g:wsz ws<=140737488):∀(d k fuel:Nat) (acc:List BA),k+d=ws.length->d<fuel->acc.length=k -> U6 ws fuel (k:Int) acc=some (bif g04 (ws.drop k)then .inr (acc++(ws.drop k).map λw=>B (wl w))else .inl (B []))
 |d,k,0,acc,c,hf,b=>oM
 |0,k,fuel+1,acc,c,hf,b=>by simp_all[U6.eq_2,iE,D1,g04]
 |d+1,k,fuel+1,acc,c,hf,b=>by
  have e:k<ws.length:=oM;have a:=V3 e;have i:=p0f ws;have h:=p0n (mG a);generalize ws[k]=x at a h;have next:=C06 ws g d (k+1) fuel (acc ++ [B (wl x)]) oM oM oG;rw[I1 a,U6.eq_2,iP (by simp;omega),U1 a,oB,M06 x oM,oB,
   C0 (by grind[U0b]),oB,k0e]
  simp only[g04];cases hlx:i00 x;·rfl
  have f:q04 x=B (wl x):=by grind[q04]
  rw[iE oS,f,C0 oG,oB,Z1 e (by omega:ws.length<=9223372036854775807),next];simp
def bsz:List (List UInt8)->Nat
 | []=>0
 |x::r=>x.length+1+bsz r
theorem q0n:∀ xs:List (List UInt8),xs.length<=bsz xs
 | []=>by simp
 |w::r=>by have:=q0n r;grind[bsz,List.length_cons]
theorem c0b(b:UInt8)(xs:List (List UInt8))(g:bsz xs<=140737488355328):∀(d k fuel:Nat) (acc:List UInt8),k+d=xs.length->d<fuel->acc.length+bsz (xs.drop k)<=140737488355328 ->
  d01 (xs.map B) (B [b]) fuel (B acc) (k:Int)=some (B (acc++T00 b (xs.drop k)))
 |d,k,0,acc,c,hf,a=>by omega
 |0,k,fuel+1,acc,c,hf,a=>by
  simp_all[d01.eq_2,if_neg,D1,T00]
 |d+1,k,fuel+1,acc,c,hf,a=>by
  have e:k<xs.length:=by omega
  have f:=V3 e
  have h:=q0n xs
  generalize xs[k]=x at f
  rw[I1 f]at a ⊢
  simp only[bsz]at a
  have next:=c0b b xs g d (k+1) fuel (acc ++ [b]++x) (by omega) (by omega) (by grind)
  rw[d01.eq_2,if_pos (by simp;omega),U1 (x:=B x) (by grind),oB,C0 (by grind[C4,List.length_singleton]),oB,F08,
   C0 (by grind[C4,List.length_append,List.length_singleton]),oB,F08,Z1 e (by omega:xs.length<=9223372036854775807),next]
  simp[T00]
def Q0c(a:UInt8)(e:BA):List (List UInt8)->BA
 | []=>e
 |x::r=>B (K03 a (x::r))
def y0i(a:UInt8)(e:BA)(xs:List (List UInt8))(c:bsz xs<=140737488355328):v02 (xs.map B) (B [a]) e=some (Q0c a e xs):=by
 unfold v02;cases xs with
 |nil=>rfl
 |cons x r =>
  simp only[bsz]at c;have d:=q0n r;have h:=c0b a r oM r.length 0 P0 x oM (j1 oM) oG;rw[show((0:Nat):Int)=0 from rfl,(dZ)]at h;rw[iE (by simp;omega),j0e (x:=B x) rfl,oB,b05,iP (by simp;omega),oB];have b:(List.drop (1:Int).toNat (List.take ((((x::r).map B).length:Nat):Int).toNat ((x::r).map B)))=r.map B:=by rw[(iN),List.take_length];rfl
  rw[b,h];rfl
theorem C0v:∀ ws:List (List Int),bsz (ws.map wl)<=wsz ws
 | []=>by simp[bsz,wsz]
 |w::r=>by have:=C0v r;grind[x07,bsz,wsz]
theorem r0n(ws:List (List Int)):(i09 ws).size<=wsz ws+4:=by
 unfold i09
 cases g04 ws with
 |false=>show 0<=_;omega
 |true =>
  cases ws with
  |nil=>show 4<=_;omega
  |cons w r =>
   simp only[cond_true]
   rw[C4]
   have:=L0g r
   grind[x07,K03,wsz,List.length_append]
def q0f(ws:List (List Int))(b:wsz ws<=140737488):c02 ws=some (i09 ws):=by
 unfold c02;have c:=p0f ws;have h:=C06 ws b ws.length 0 P0 [] oM (j1 oM) rfl;rw[show((0:Nat):Int)=0 from rfl,(dZ),(nA)]at h;rw[h,oB];have a:=r0n ws;unfold i09 at a ⊢;cases hall:g04 ws;·rfl
 rw[hall]at a;rw[(cT),S0,show(ws.map λw=>B (wl w))=(ws.map wl).map B by simp,show(⟨#[44]⟩:BA)=B [44] from rfl,y0i 44 _ _ (by grind[C0v]),oB];cases ws with
 |nil=>rfl
 |cons w r =>simp only[cT,List.map_cons,Q0c]at a ⊢;rw[C0 oM,oB]
theorem b0u(n:Int):(d0p n).size<=21:=by
 grind[d0p,k0j,List.length_nil,C4,List.length_cons]
theorem y0s:∀ ws:List (List Int),wsz ws=tot ws+2*ws.length
 | []=>rfl
 |w::r=>by have:=y0s r;grind[wsz,tot,List.length_cons]
def G08(r a:Int)(e:O0):Bool:=inR 0 a e.1&&inR 0 a e.2.2&&inR 1 r e.2.1
def o0j(e f:O0):Int:=V0 e f
theorem p0j(e f:O0):o0j e f=if H01 e.1 f.1≠0 then H01 e.1 f.1 else if H01 e.2.1 f.2.1≠0 then H01 e.2.1 f.2.1 else H01 e.2.2 f.2.2:=rfl
theorem q0j(a b:Int):(a<b/\H01 a b = -1)∨(a>b/\H01 a b=1)∨(a=b/\H01 a b=0):=by grind[H01]
def z0i(e f:O0):H0 (o0j e f):=by grind[p0j,v0s]
def D0v(g:j0)(e:O0):f05 g e=some (G08 g.1 (i64.wrap (g.2.1-1)) e):=by obtain⟨r,n,es⟩:=g;obtain⟨a,l,b⟩:=e;unfold f05 G08;grind[A05,inR,chk]
def U0h(g:j0)(e:O0):g01 g e=some (G08 g.1 (i64.wrap (g.2.1-1)) e):=by obtain⟨r,n,es⟩:=g;obtain⟨a,l,b⟩:=e;unfold g01 B8 G08;simp only[d02,oB];grind[inR,chk]
def C05(e f:O0):v00 e f=some (o0j e f):=by obtain⟨a,l,b⟩:=e;obtain⟨m,o,n⟩:=f;unfold v00;rw[show P0=(P0-4)+1+1+1+1 from rfl];have w1:i64.wrap (0+1)=1:=oD;have k:i64.wrap (1+1)=2:=oD;have w3:i64.wrap (2+1)=3:=oD;have h:∀ x y z:Int,gi [x,y,z] 0=some x:=λ_ _ _=>rfl;have i:∀ x y z:Int,gi [x,y,z] 1=some y:=λ_ _ _=>rfl;have j:∀ x y z:Int,gi [x,y,z] 2=some z:=λ_ _ _=>rfl;have d0:decide ((0:Int)<3):=rfl;have c:decide ((1:Int)<3):=rfl;have d:decide ((2:Int)<3):=rfl;have g:decide ((3:Int)<3)=false:=rfl;simp only[d9.eq_2,w1,k,w3,h,i,j,d0,c,d,g,if_true,oB,fT,if_false];grind[p0j,q0j,w9]
def c0u(a b:Int):C9 a b=some (H01 a b):=by grind[C9,H01]
def H08(e f:O0):E01 e f=some (o0j e f):=by obtain⟨a,l,b⟩:=e;obtain⟨c,g,d⟩:=f;rw[p0j];unfold E01;simp only[c0u,oB,C0 (v0s _ _)];grind
def E0v(r a:Int)(es:List O0)(k:Nat):Bool:=match es[k]? with
 |none=>true
 |some e => !G08 r a e || (decide (0<k)&&match es[k-1]? with
  |none=>true
  |some f=>decide (o0j f e ≥ 0))
def okE(r a:Int)(es:List O0):Nat->Nat->Bool
 |0,_=>true
 |d+1,k => !E0v r a es k&&okE r a es d (k+1)
def X0(g:j0):Bool:=okE g.1 (i64.wrap (g.2.1-1)) g.2.2 g.2.2.length 0&&inR 1 3 g.1&&inR 1 40 g.2.1&&decide (g.2.2.length<=120)
def R0c{r a:Int}{es:List O0}{k:Nat}{e:O0}(b:es[k]?=some e):E0v r a es k=(!G08 r a e || (decide (0<k)&&match es[k-1]? with
  |none=>true
  |some f=>decide (o0j f e ≥ 0))):=by unfold E0v;rw[b]
def j09(r n:Int)(es:List O0)(q:es.length<=140737488355328):∀(d k fuel:Nat),k+d=es.length->d<fuel -> K9 es r n fuel (k:Int)=some (bif okE r (i64.wrap (n-1)) es d k then .inr ()else .inl false)
 |d,k,0,l,hf=>oM
 |0,k,fuel+1,l,hf=>by simp_all[K9.eq_2,iE,okE]
 |d+1,k,fuel+1,l,hf=>by
  have m:k<es.length:=oM;have a:=V3 m;generalize es[k]=e at a;obtain⟨h,i,j⟩:=e;have next:=j09 r n es q d (k+1) fuel oM oM;rw[K9.eq_2,iP (by simp;omega),U1 a,oB];simp only[D0v,oB,Z1 m (by omega:es.length<=9223372036854775807),next,okE,R0c a];generalize i64.wrap (n-1)=hi;cases hin:G08 r hi (h,i,j);·simp[chk,grd,H0]
  by_cases hk0:k=0
  ·have c:decide ((k:Int)>0)=false:=by simp;omega
   have b:decide (0<k)=false:=by simp;omega
   simp only[c,b,O1,bT,bF,Bool.and_true,Bool.false_and,Bool.or_self,Bool.true_and,cT,zF,oB,Bool.or_false,fT,if_false,C0 (show H0 0 by decide)]
  have g:=V3 (show k-1<es.length by omega);generalize es[k-1]=f at g;obtain⟨o,p,f2⟩:=f;have s:i64.wrap ((k:Int)-1)=((k-1:Nat):Int):=K0d oM oM;have c:decide ((k:Int)>0):=by simp;omega
  have b:decide (0<k):=by simp;omega
  simp only[c,b,s,g,U1 a,U1 g,H1,bT,bF,Bool.and_true,Bool.false_and,Bool.or_self,Bool.true_and,cT,zF,oB,Bool.or_false,Bool.false_or,C05,C0 (z0i _ _)];cases decide (o0j (o,p,f2) (h,i,j) ≥ 0)<;>rfl
def r9(g:j0)(a:g.2.2.length<=140737488355328):V4 g=some (X0 g):=by
 obtain⟨r,n,es⟩:=g;unfold V4 X0;simp only at a ⊢;have h:=j09 r n es a es.length 0 P0 oM (j1 a);rw[show((0:Nat):Int)=0 from rfl]at h;rw[h,oB];cases okE r (i64.wrap (n-1)) es es.length 0;·simp[w9]
 rw[(cT),S0,A05,A05,oB];cases inR 1 3 r;·simp[chk]
 simp only[H1,oB,cT,Bool.true_and];cases inR 1 40 n;·simp
 simp;omega
def k09(r n:Int)(es:List O0)(q:es.length<=140737488355328):∀(d k fuel:Nat),k+d=es.length->d<fuel -> L9 es r n fuel (k:Int)=some (bif okE r (i64.wrap (n-1)) es d k then .inr ()else .inl false)
 |d,k,0,l,hf=>oM
 |0,k,fuel+1,l,hf=>by simp_all[L9.eq_2,iE,okE]
 |d+1,k,fuel+1,l,hf=>by
  have m:k<es.length:=oM;have a:=V3 m;generalize es[k]=e at a;obtain⟨h,i,j⟩:=e;have next:=k09 r n es q d (k+1) fuel oM oM;rw[L9.eq_2,iP (by simp;omega),U1 a,oB];simp only[U0h,oB,Z1 m (by omega:es.length<=9223372036854775807),next,okE,R0c a];generalize i64.wrap (n-1)=hi;cases hin:G08 r hi (h,i,j);·simp[chk,grd,H0]
  by_cases hk0:k=0
  ·have c:decide ((k:Int)>0)=false:=by simp;omega
   have b:decide (0<k)=false:=by simp;omega
   simp only[c,b,O1,bT,bF,Bool.and_true,Bool.false_and,Bool.or_self,Bool.true_and,cT,zF,oB,Bool.or_false,fT,if_false,C0 (show H0 0 by decide)]
  have g:=V3 (show k-1<es.length by omega);generalize es[k-1]=f at g;obtain⟨o,p,f2⟩:=f;have s:i64.wrap ((k:Int)-1)=((k-1:Nat):Int):=K0d oM oM;have c:decide ((k:Int)>0):=by simp;omega
  have b:decide (0<k):=by simp;omega
  simp only[c,b,s,g,U1 a,U1 g,H1,bT,bF,Bool.and_true,Bool.false_and,Bool.or_self,Bool.true_and,cT,zF,oB,Bool.or_false,Bool.false_or,H08,C0 (z0i _ _)];cases decide (o0j (o,p,f2) (h,i,j) ≥ 0)<;>rfl
def Z00(g:j0)(a:g.2.2.length<=140737488355328):t7 g=some (X0 g):=by
 obtain⟨r,n,es⟩:=g;unfold t7 X0;simp only at a ⊢;rw[d02,d02,oB];cases hr:inR 1 3 r;·simp[chk]
 simp only[bT,bF,H1,oB,zF];cases hn:inR 1 40 n;·simp
 by_cases h120:es.length<=120
 ·have h:=k09 r n es a es.length 0 P0 oM (j1 a);rw[show((0:Nat):Int)=0 from rfl]at h;have b:decide (((es.length:Nat):Int)>120)=false:=by simp;omega
  have c:decide (es.length<=120):=by simpa using h120
  simp only[b,c,bT,zF,fT,if_false,h,oB];cases okE r (i64.wrap (n-1)) es es.length 0<;>rfl
 grind
def s0n{r a:Int}{es:List O0}:∀ {d k:Nat},okE r a es d k->∀ i,k<=i->i<k+d->E0v r a es i=false
 |0,k,h,i,b,c=>oM
 |d+1,k,h,i,b,c=>by
  simp only[okE,aE,Bool.not_eq_true']at h;by_cases e:i=k;·subst e;exact h.1
  exact s0n h.2 i oM oM
def r0j{n:Nat}(h:n<=9223372036854775807):n<P0:=by unfold P0;omega
def goI(x:Int):List Int->Bool×List Int
 | []=>(false,[])
 |y::l=>if x<y then(true,x::y::l)else if y=x then(true,y::l)else((goI x l).1,y::(goI x l).2)
def z0s(x:Int):∀ l,a02 H01 x l=bif(goI x l).1 then(goI x l).2 else(goI x l).2 ++ [x]
 | []=>rfl
 |y::l=>by have a:=z0s x l;unfold a02 goI;rcases q0j x y with⟨h,e⟩|⟨h,e⟩|⟨h,e⟩;all_goals grind
def s0j(l:List Int)(w:Int)(h:l.length<=1099511627776):∀(d k fuel:Nat) (acc:List Int),k+d=l.length->d<fuel->acc.length<=k+1 -> G5 l w fuel true (k:Int) acc=some (true,acc++l.drop k)
 |d,k,0,acc,e,hf,b=>oM
 |0,k,fuel+1,acc,e,hf,b=>by rw[G5.eq_2,iE (by simp;omega),D1 oM,List.append_nil]
 |d+1,k,fuel+1,acc,e,hf,b=>by
  have f:k<l.length:=oM;have a:=V3 f;generalize l[k]=x at a;have i:=s0j l w h d (k+1) fuel (acc ++ [x]) oM oM (by simp;omega);rw[G5.eq_2,iP (by simp;omega),U1 a,oB];have g:∀ c:Bool,(bif c then(!true)else false)=false:=λc=>by cases c<;>rfl
  simp only[g,fT,if_false,oB,Z1 f (show l.length<=9223372036854775807 by omega),i,C0 (show(acc.length + [x].length)*8<=140737488355328 by simp;omega)];rw[I1 a];split<;>simp
def M0l(l:List Int)(w:Int)(b:l.length<=1099511627776):∀(d k fuel:Nat) (acc:List Int),k+d=l.length->d<fuel->acc.length=k -> G5 l w fuel false (k:Int) acc=some ((goI w (l.drop k)).1,acc++(goI w (l.drop k)).2)
 |d,k,0,acc,g,hf,f=>oM
 |0,k,fuel+1,acc,g,hf,f=>by simp_all[G5.eq_2,iE,D1,goI]
 |d+1,k,fuel+1,acc,g,hf,f=>by
  have a:k<l.length:=oM;have e:=V3 a;generalize l[k]=x at e;have j:=M0l l w b d (k+1) fuel (acc ++ [x]) oM oM (by simp;omega);have m:=s0j l w b d (k+1) fuel (acc ++ [x]) oM oM (by simp;omega);have n:=s0j l w b d (k+1) fuel (acc ++ [w] ++ [x]) oM oM (by simp;omega);rw[G5.eq_2,iP (by simp;omega),U1 e,oB,I1 e];unfold goI;have h:∀ c:Bool,(bif c then(!true)else false)=false:=λc=>by cases c<;>rfl
  have i:∀ c:Bool,(bif c then(!false)else false)=c:=λc=>by cases c<;>rfl
  by_cases h0:x=w;·rw[iP (by simpa using h0),oB,h,iE oS,oB,C0 (by simp;omega),oB,Z1 a oM,m,iE oM,iP h0];simp
  rw[iE (by simpa using h0),oB,i];by_cases h1:w<x;·rw[iP (by simpa using h1),C0 (by simp;omega),oB,oB,C0 (by simp;omega),oB,Z1 a oM,n,iP h1];simp
  rw[iE (by simpa using h1),oB,C0 (by simp;omega),oB,Z1 a oM,j,iE h1,iE h0];simp
theorem r0f(l:List Int)(w:Int)(a:l.length<=1099511627776):V00 l w=some (a02 H01 w l):=by
 unfold V00
 have h:=M0l l w a l.length 0 P0 [] (by omega) (j1 (by omega)) rfl
 rw[show((0:Nat):Int)=0 from rfl,List.drop_zero,List.nil_append]at h
 rw[h,oB,z0s]
 have b:∀ l:List Int,(goI w l).2.length<=l.length+1:=λl=>by
  induction l with
  |nil=>simp[goI]
  |cons y l c =>
   grind[goI,List.length_cons]
 have:=b l
 cases (goI w l).1 with
 |true=>rfl
 |false =>
  simp only[Bool.not_false,if_true,cond_false]
  rw[C0 (by simp;omega),oB]
def N0l(v x:Int)(e:O0):List Int :=
 if 0<x/\e.2.1=x/\e.1=v then [e.2.2]else if x<0/\e.2.1 = -x/\e.2.2=v then [e.1]else []
def j01(v x:Int):List O0->List Int
 | []=>[]
 |e::es=>N0l v x e++j01 v x es
def d0u(v x:Int)(e:O0):(N0l v x e).length<=1:=by unfold N0l;split<;>(try split)<;>simp
theorem t0j(v x:Int):∀ es,(j01 v x es).length<=es.length
 | []=>by simp[j01]
 |e::es=>by
  have a:=d0u v x e
  have b:=t0j v x es
  grind[j01,List.length_append,List.length_cons]
def I3(x:Int):Prop:=H0 x/\x ≠ -9223372036854775808
def s0f(es:List O0)(v x:Int)(f:I3 x)(p:es.length<=1099511627776):∀(d k fuel:Nat) (acc:List Int),k+d=es.length->d<fuel->acc.length<=k -> Z5 es x v fuel (k:Int) acc=some (acc++j01 v x (es.drop k))
 |d,k,0,acc,j,hf,i=>oM
 |0,k,fuel+1,acc,j,hf,i=>by simp_all[Z5.eq_2,iE,D1,j01]
 |d+1,k,fuel+1,acc,j,hf,i=>by
  have m:k<es.length:=oM;have g:=V3 m;generalize es[k]=e at g;obtain⟨a,l,b⟩:=e;have n:=λo h=>s0f es v x f p d (k+1) fuel o oM oM h;have q:decide (x = -9223372036854775808)=false:=by simp;exact f.2
  rw[Z5.eq_2,iP (by simp;omega),U1 g,oB,I1 g];simp only[j01,N0l,b0b f.1 f.2,q,bF,Z1 m (show es.length<=9223372036854775807 by omega)];by_cases c:0<x/\l=x/\a=v;·obtain⟨c,rfl,rfl⟩:=c;rw[iP (by simp[c]),iP ⟨c,rfl,rfl⟩,C0 (by simp;omega),oB,n _ (by simp;omega)];simp
  rw[iE c,iE oG];by_cases c2:x<0/\l = -x/\b=v;·rw[iP c2,iP oG,C0 (by simp;omega),oB,n _ (by simp;omega)];simp
  grind
theorem X09(w:Int):∀ l:List Int,(a02 H01 w l).length<=l.length+1
 | []=>by simp[a02]
 |y::l=>by
  have:=X09 w l
  grind[a02,List.length_cons]
def t0f(es:List O0)(v x:Int)(g:I3 x)(o:es.length<=1099511627776):∀(d k fuel:Nat) (u:List Int),k+d=es.length->d<fuel->u.length<=k -> W4 es x v fuel u (k:Int)=some (L4 H01 u (j01 v x (es.drop k)))
 |d,k,0,u,j,hf,i=>oM
 |0,k,fuel+1,u,j,hf,i=>by rw[W4.eq_2,iE (by simp;omega),D1 oM];rfl
 |d+1,k,fuel+1,u,j,hf,i=>by
  have m:k<es.length:=oM;have f:=V3 m;generalize es[k]=e at f;obtain⟨a,l,b⟩:=e;have n:=λq h=>t0f es v x g o d (k+1) fuel q oM oM h;rw[W4.eq_2,iP (by simp;omega),U1 f,oB,I1 f];simp only[j01,N0l,b0b g.1 g.2,Z1 m (show es.length<=9223372036854775807 by omega)];by_cases c:0<x/\l=x/\a=v
  ·obtain⟨c,rfl,rfl⟩:=c;have p:decide (l<0)=false:=by simp;omega
   have:=X09 b u;rw[iP (by simp[c]),iP ⟨c,rfl,rfl⟩,r0f u b oM,oB,p,iE oS,n _ oM];rfl
  rw[iE c,iE oG];by_cases c2:x<0/\l = -x/\b=v;·have:=X09 a u;rw[iP c2,iP oG,r0f u a oM,oB,n _ oM];rfl
  grind
def q05(g:j0)(v x:Int):List Int:=L4 H01 [] (j01 v x g.2.2)
def y0x(x y:Int):eqI x y↔x=y:=by simp[eqI]
def i0p(g:j0)(v x:Int)(b:I3 x)(a:g.2.2.length<=1099511627776):W02 g v x=some (q05 g v x):=by obtain⟨r,n,es⟩:=g;unfold W02 q05;have h:=t0f es v x b a es.length 0 P0 [] oM (r0j (by simp only at a;omega)) oS;grind
def j0p(g:j0)(v x:Int)(b:I3 x)(a:g.2.2.length<=1099511627776):X02 g v x=some (q05 g v x):=by obtain⟨r,n,es⟩:=g;unfold X02 q05;have h:=s0f es v x b a es.length 0 P0 [] oM (r0j (by simp only at a;omega)) oS;rw[show((0:Nat):Int)=0 from rfl,(dZ),(nA)]at h;have c:=t0j v x es;simp only at a;simp only[h,oB,C0 (show(j01 v x es).length<4611686018427387904 by omega)];rw[←c0p d05 y0x (j01 v x es) (j01 v x es) λ_=>Iff.rfl];rfl
def Q0(g:j0)(v x:Int):Int:=match q05 g v x with
 | [] => -1
 |a::_=>a
def D05(g:j0)(v x:Int)(c:I3 x)(b:g.2.2.length<=1099511627776):T4 g v x=some (Q0 g v x):=by
 have h:=i0p g v x c b;obtain⟨r,n,es⟩:=g;unfold T4 Q0;simp only[h,oB];cases q05 (r,n,es) v x with
 |nil=>rfl
 |cons a l=>rfl
def r04(g:j0)(v x:Int)(c:I3 x)(b:g.2.2.length<=1099511627776):U4 g v x=some (Q0 g v x):=by
 have h:=j0p g v x c b;obtain⟨r,n,es⟩:=g;unfold U4 Q0;simp only[h,oB];cases q05 (r,n,es) v x with
 |nil=>rfl
 |cons a l=>rfl
theorem O0l{g:j0}{v x y:Int}(h:y∈q05 g v x):y∈j01 v x g.2.2:=by
 rcases(C5 d05 y _ []).1 h with h|h;·cases h
 exact h
def V2{v x y:Int}:∀ {es:List O0},y∈j01 v x es↔∃ e∈es,(0<x/\e.2.1=x/\e.1=v/\y=e.2.2)∨(x<0/\e.2.1 = -x/\e.2.2=v/\y=e.1)
 | []=>by simp[j01]
 |e::es=>by simp only[j01,List.mem_append,V2 (es:=es),mE,exists_eq_or_imp];refine or_congr ?_ Iff.rfl;grind[N0l,List.mem_singleton,absurd]
def inG(g:j0):Prop:=∀ e∈g.2.2,(0<=e.1/\e.1<g.2.1)/\(0<=e.2.2/\e.2.2<g.2.1)/\1<=e.2.1/\e.2.1<=g.1
theorem Y2{g:j0}(h:X0 g):inG g/\(1<=g.1/\g.1<=3)/\(1<=g.2.1/\g.2.1<=40)/\g.2.2.length<=120:=by obtain⟨r,n,es⟩:=g;simp only[X0,inR,aE,dE]at h;obtain⟨⟨⟨b,c⟩,d⟩,f⟩:=h;refine⟨λe j=>?_,c,d,f⟩;obtain⟨i,k⟩:=List.getElem?_of_mem j;have a:=s0n b i (Nat.zero_le _) oG;rw[R0c k]at a;simp only[Bool.or_eq_false_iff,Bool.not_eq_false',G08,inR,aE,dE]at a;grind[w64]
theorem i04{g:j0}(d:inG g)(v x:Int):Q0 g v x = -1∨(0<=Q0 g v x/\Q0 g v x<g.2.1):=by
 unfold Q0;cases hs:q05 g v x with
 |nil=>exact .inl rfl
 |cons a l =>right;have b:a∈q05 g v x:=oG;obtain⟨e,c,h⟩:=V2.1 (O0l b);have:=d e c;grind
def N02{g:j0}(a:inG g)(b:g.2.1<=40)(v x:Int):H0 (Q0 g v x):=by
 rcases i04 a v x with h|h;·rw[h];decide
 constructor<;>omega
def Q07(a b:O0):Bool:=decide (a.2.1=b.2.1)&&(decide (a.1=b.1) || decide (a.2.2=b.2.2))
theorem M0g(a b:O0):Q07 a b=Q07 b a:=by unfold Q07;have h:∀ x y:Int,decide (x=y)=decide (y=x):=λx y=>decide_eq_decide.2 ⟨Eq.symm,Eq.symm⟩;rw[h a.2.1,h a.1,h a.2.2]
def noC(a:O0):List O0->Bool
 | []=>true
 |b::l => !Q07 a b&&noC a l
def L0d:List O0->Bool
 | []=>true
 |a::l=>noC a l&&L0d l
def t0n(a:O0):∀ l,noC a l↔∀ b∈l,Q07 a b=false
 | []=>by simp[noC]
 |b::l=>by simp[noC,t0n a l]
def N0g:∀ l,L0d l↔l.Pairwise λa b=>Q07 a b=false
 | []=>by simp[L0d]
 |a::l=>by simp[L0d,N0g l,t0n,List.pairwise_cons]
def u0j:List O0->List O0->Bool
 |_,[]=>true
 |b,a::l=>noC a b&&u0j (b ++ [a]) l
def P0l:∀(l c:List O0),u0j c l↔l.Pairwise (λa b=>Q07 a b=false)/\∀ a∈l,∀ b∈c,Q07 a b=false
 | [],c=>by simp[u0j]
 |a::l,c=>by
  simp only[u0j,aE,t0n,P0l l,List.pairwise_cons];constructor;·grind[M0g]
  grind[List.mem_cons_self,mC,List.mem_singleton,M0g]
def e0u(l:List O0):u0j [] l=L0d l:=by rw[Bool.eq_iff_iff,P0l,N0g];simp
def K0(g:j0):Bool:=X0 g&&L0d g.2.2
def r0y(a b e c d f:Int):(bif decide (b=d)then(bif decide (a=c)then true else decide (e=f))else false)=Q07 (a,b,e) (c,d,f):=by unfold Q07;cases decide (b=d)<;>cases decide (a=c)<;>rfl
def u0f(l:List O0)(a:O0)(n:l.length<=140737488355328):∀(d k fuel:Nat),k+d=l.length->d<fuel -> S8 l a.2.1 a.1 a.2.2 fuel (k:Int)=some (bif noC a (l.drop k)then .inr ()else .inl false)
 |d,k,0,g,hf=>oM
 |0,k,fuel+1,g,hf=>by rw[S8.eq_2,iE (by simp;omega),D1 oM];rfl
 |d+1,k,fuel+1,g,hf=>by
  have h:k<l.length:=oM;have b:=V3 h;generalize l[k]=x at b;obtain⟨c,e,f⟩:=a;obtain⟨i,j,m⟩:=x;rw[S8.eq_2,iP (by simp;omega),U1 b,oB,I1 b];simp only[r0y,noC];cases hc:Q07 (c,e,f) (i,j,m);·rw[iE oS,Z1 h oM,u0f l (c,e,f) n d (k+1) fuel oM oM];simp
  rfl
def E05{a:Type}{xs:List a}{k:Nat}(h:k<=xs.length):b05 xs (k:Int) (xs.length:Int)=some (xs.drop k):=by simp_all[b05,iP]
def v0f(l:List O0)(h:l.length<=140737488355328):∀(d k fuel:Nat),k+d=l.length->d<fuel -> T8 l fuel (k:Int)=some (bif L0d (l.drop k)then .inr ()else .inl false)
 |d,k,0,b,hf=>oM
 |0,k,fuel+1,b,hf=>by rw[T8.eq_2,iE (by simp;omega),D1 oM];rfl
 |d+1,k,fuel+1,b,hf=>by
  have c:k<l.length:=oM;have a:=V3 c;generalize l[k]=x at a;have h0:=u0f (l.drop (k+1)) x (by simp;omega) (l.drop (k+1)).length 0 P0 oM (j1 (by simp;omega));rw[show((0:Nat):Int)=0 from rfl,(dZ)]at h0;obtain⟨e,f,g⟩:=x;rw[T8.eq_2,iP (by simp;omega),U1 a,oB,I1 a];simp only[Z1 c (show l.length<=9223372036854775807 by omega),E05 (show k+1<=l.length by omega),oB];simp only at h0;rw[h0,oB];simp only[L0d];cases noC (e,f,g) (l.drop (k+1));·rfl
  simp only[cT,X0t,Bool.true_and];exact v0f l h d (k+1) fuel oM oM
def Y02(g:j0)(a:g.2.2.length<=140737488355328):y8 g=some (K0 g):=by
 have b:=Z00 g a;obtain⟨r,n,es⟩:=g;unfold y8 K0;simp only[b,oB];cases X0 (r,n,es);·rfl
 have h:=v0f es a es.length 0 P0 oM (j1 a);rw[show((0:Nat):Int)=0 from rfl,(dZ)]at h;rw[iE oS,h,oB];cases L0d es<;>rfl
def w0f(l:List O0)(q:l.length<=140737488355328){i:Nat}{a:O0}(b:l[i]?=some a):∀(d k fuel:Nat),k+d=i->d<fuel -> Q8 (i:Int) l fuel (k:Int)=some (bif noC a ((l.take i).drop k)then .inr ()else .inl false)
 |d,k,0,e,hf=>oM
 |0,k,fuel+1,e,hf=>by have:=(gI.1 b).1;rw[Q8.eq_2,iE (by simp;omega),D1 (by simp;omega)];rfl
 |d+1,k,fuel+1,e,hf=>by
  have t:=(gI.1 b).1;have f:k<l.length:=oM;have c:=V3 f;have g:(l.take i)[k]?=some l[k]:=by rw[List.getElem?_take,iP oM];exact c
  have s:=w0f l q b d (k+1) fuel oM oM;generalize l[k]=x at c g;obtain⟨h,j,m⟩:=a;obtain⟨n,o,p⟩:=x;rw[Q8.eq_2,iP (by simp;omega),U1 b,oB,I1 g];simp only[U1 c,oB,r0y,noC];cases hc:Q07 (h,j,m) (n,o,p);·rw[iE oS,Z1 f oM,s];simp
  rfl
theorem Q0l{a:Type}{xs:List a}{k:Nat}{x:a}(h:xs[k]?=some x):xs.take (k+1)=xs.take k ++ [x]:=by
 grind[List.getElem?_eq_some_iff,List.take_succ_eq_append_getElem]
def x0f(r n:Int)(l:List O0)(f:X0 (r,n,l))(b:l.length<=140737488355328):∀(d k fuel:Nat),k+d=l.length->d<fuel -> N6 l r n fuel (k:Int)=some (bif u0j (l.take k) (l.drop k)then .inr ()else .inl false)
 |d,k,0,c,hf=>oM
 |0,k,fuel+1,c,hf=>by
  have e:decide ((k:Int)<(l.length:Int))=false:=by simp;omega
  rw[N6.eq_2,e,O1,oB,iE oS,D1 oM];rfl
 |d+1,k,fuel+1,c,hf=>by
  have g:k<l.length:=oM;have a:=V3 g;generalize l[k]=x at a;have h0:=w0f l b a k 0 P0 oM (j1 oM);rw[show((0:Nat):Int)=0 from rfl,(dZ)]at h0;have e:decide ((k:Int)<(l.length:Int)):=by simp;omega
  rw[N6.eq_2,e,H1,r9 (r,n,l) b,oB,f,iP (show(bif true then true else false)=true from rfl),h0,oB,I1 a];simp only[u0j];cases noC x (l.take k);·rfl
  simp only[cT,X0t,Bool.true_and];rw[Z1 g oM,←Q0l a];exact x0f r n l f b d (k+1) fuel oM oM
def g02(g:j0)(a:g.2.2.length<=140737488355328):w7 g=some (K0 g):=by
 have c:=r9 g a;obtain⟨r,n,es⟩:=g;unfold w7 K0;simp only[c,oB];cases hg:X0 (r,n,es)
 ·have b:N6 es r n P0 0=some (.inr ()):=by rw[show P0=(P0-1)+1 from rfl,N6.eq_2];by_cases e:decide ((0:Int)<(es.length:Int));all_goals simp_all[H1,oB,iE,Bool.not_eq_true,O1]
  rw[b];rfl
 have h:=x0f r n es hg a es.length 0 P0 oM (j1 a);rw[show((0:Nat):Int)=0 from rfl,(dZ),List.take_zero,e0u]at h;rw[h,oB];cases L0d es<;>rfl
def L2(g:j0):Int->List Int->Int×Nat
 |v,[]=>(v,0)
 |v,x::w=>if Q0 g v x<0 then(v,0)else((L2 g (Q0 g v x) w).1,(L2 g (Q0 g v x) w).2+1)
theorem g05(g:j0):∀(w:List Int) (v:Int),(L2 g v w).2<=w.length
 | [],v=>by simp[L2]
 |x::w,v=>by
  have:=g05 g w (Q0 g v x)
  grind[L2,List.length_cons]
def h05{g:j0}(a:inG g)(b:g.2.1<=40):∀(w:List Int) (v:Int),H0 v->H0 (L2 g v w).1
 | [],v,h=>h
 |x::w,v,h=>by
  unfold L2;split;·exact h
  exact h05 a b w _ (N02 a b v x)
def z0x(q:Int×Nat)(n:Nat)(k:Nat):(Int×Int) ⊕ Int:=bif decide (q.2<n)then .inl (q.1,((k+q.2:Nat):Int))else .inr q.1
def C0h(r n:Int)(es:List O0)(f:inG (r,n,es))(g:n<=40)(e:es.length<=1099511627776)(w:List Int)(i:∀ x∈w,I3 x)(l:w.length<=140737488355328):∀(d k fuel:Nat) (v:Int),k+d=w.length->d<fuel -> E7 w r n es fuel v (k:Int)=some (z0x (L2 (r,n,es) v (w.drop k)) d k)
 |d,k,0,v,c,hf=>oM
 |0,k,fuel+1,v,c,hf=>by rw[E7.eq_2,iE (by simp;omega),D1 oM];rfl
 |d+1,k,fuel+1,v,c,hf=>by
  have a:k<w.length:=oM;have b:=V3 a;have j:=i _ (List.getElem_mem a);generalize w[k]=x at b j;rw[E7.eq_2,iP (by simp;omega),U1 b,oB,r04 (r,n,es) v x j e,oB,C0 (N02 f g v x),oB,I1 b];unfold L2;by_cases h:Q0 (r,n,es) v x<0;·simp_all[iP,z0x]
  rw[iE (by simpa using h),iE h,Z1 a oM,C0h r n es f g e w i l d (k+1) fuel _ oM oM];unfold z0x;grind
def v0j(g:j0)(c:inG g)(d:g.2.1<=40)(b:g.2.2.length<=1099511627776)(v:Int)(w:List Int)(e:∀ x∈w,I3 x)(a:w.length<=140737488355328):U8 g v w=some ((L2 g v w).1,(((L2 g v w).2:Nat):Int)):=by obtain⟨r,n,es⟩:=g;unfold U8;have h:=C0h r n es c d b w e a w.length 0 P0 v oM (j1 a);rw[show((0:Nat):Int)=0 from rfl,(dZ)]at h;grind[g05,z0x,L2,w9]
def D0h(r n:Int)(es:List O0)(f:inG (r,n,es))(g:n<=40)(e:es.length<=1099511627776)(w:List Int)(i:∀ x∈w,I3 x)(l:w.length<=140737488355328):∀(d k fuel:Nat) (v:Int),k+d=w.length->d<fuel -> R8 w r n es fuel v (k:Int)=some (bif decide ((L2 (r,n,es) v (w.drop k)).2<d)then .inl (-1,false)else .inr (L2 (r,n,es) v (w.drop k)).1)
 |d,k,0,v,c,hf=>oM
 |0,k,fuel+1,v,c,hf=>by rw[R8.eq_2,iE (by simp;omega),D1 oM];rfl
 |d+1,k,fuel+1,v,c,hf=>by
  have a:k<w.length:=oM;have b:=V3 a;have j:=i _ (List.getElem_mem a);generalize w[k]=x at b j;rw[R8.eq_2,iP (by simp;omega),U1 b,oB,D05 (r,n,es) v x j e,oB,C0 (N02 f g v x),oB,I1 b];unfold L2;by_cases h:Q0 (r,n,es) v x<0;·grind
  rw[iE (by simpa using h),iE h,Z1 a oM,D0h r n es f g e w i l d (k+1) fuel _ oM oM];grind
def u0n(g:j0)(hf:K0 g)(v:Int)(j:0<=v/\v<g.2.1)(w:List Int)(k:∀ x∈w,I3 x)(a:w.length<=140737488355328): C00 g v w=some (bif decide ((L2 g v w).2<w.length)then(-1,false)else((L2 g v w).1,true)):=by
 have f:X0 g:=by simp_all[K0,aE]
 obtain⟨e,_,b,d⟩:=Y2 f;have c:=g02 g oM;obtain⟨r,n,es⟩:=g;simp only at j b d;unfold C00;have h:=D0h r n es e b.2 oM w k a w.length 0 P0 v oM (j1 a);rw[show((0:Nat):Int)=0 from rfl,(dZ)]at h;have i:inR 0 (n-1) v:=by simp only[inR,aE,dE];omega
 simp only[c,hf,oB,bT,bF,H1,A05,w64 (show -9223372036854775808<=n-1 by omega) (show n-1<=9223372036854775807 by omega),i,zF,fT,if_false,h];cases decide ((L2 (r,n,es) v w).2<w.length)<;>rfl
theorem W0{g:j0}(h:K0 g):inG g/\(1<=g.1/\g.1<=3)/\(1<=g.2.1/\g.2.1<=40)/\g.2.2.length<=120:=by simp_all[K0,aE,Y2]
def fI(n:Int):List UInt8:=if n=0 then [48]else if n<0 then 45::m0d 20 n.natAbs []else m0d 20 n.natAbs []
theorem n06(n:Int):d0p n=B (fI n):=by grind[d0p,fI]
theorem Q00(n:Int):(fI n).length<=21:=by have:=b0u n;grind[n06,C4]
def w0y(n:Int):(fI n).isEmpty=false:=by
 unfold fI;split;·rfl
 split;·rfl
 rw[P0c];have:0<(T0b 20 n.natAbs).length:=by simp only[T0b];rw[iE oM];simp
 cases h:((T0b 20 n.natAbs).reverse.map (λx=>UInt8.ofNat x.toNat) ++ [])with
 |nil =>simp_all
 |cons x r=>rfl
def J08:List O0->List UInt8
 | []=>[]
 |e::r=>32::fI e.1 ++ [chL e.2.1]++fI e.2.2++J08 r
def p0z(e:O0):Prop:=N05 e.2.1/\H0 e.1/\H0 e.2.2
def R0j{g:j0}(h:X0 g):∀ e∈g.2.2,p0z e:=λe f=>by simp only[X0,aE,dE]at h;obtain⟨k,i⟩:=List.getElem?_of_mem f;have a:=s0n h.1.1.1 k (Nat.zero_le _) oG;rw[R0c i]at a;simp only[Bool.or_eq_false_iff,Bool.not_eq_false']at a;have b:=a.1;have c:=h.1.1.2;have d:=h.1.2;simp only[G08,inR,aE,dE]at b c d;have j:i64.wrap (g.2.1-1)=g.2.1-1:=w64 oM oM;rw[j]at b;refine⟨?_,⟨oM,oM⟩,⟨oM,oM⟩⟩;simp only[N05,inR,aE,Bool.not_eq_true',beq_eq_false_iff_ne,dE];omega
def c0l(x:Int)(a:N05 x):o00 x=some (B [chL x]):=by grind[o0f]
def C09(g:j0):List UInt8:=fI g.1 ++ [32]++fI g.2.1++J08 g.2.2
def U0c(g:j0):BA:=bif X0 g then B (C09 g)else B []
def D06(es:List O0)(h:∀ e∈es,p0z e)(p:es.length<=1000):∀(d k fuel:Nat) (acc:List UInt8),k+d=es.length->d<fuel->acc.length<=100+44*k -> Z6 es fuel (B acc) (k:Int)=some (B (acc++J08 (es.drop k)))
 |d,k,0,acc,j,hf,g=>oM
 |0,k,fuel+1,acc,j,hf,g=>by simp_all[Z6.eq_2,iE,D1,J08]
 |d+1,k,fuel+1,acc,j,hf,g=>by
  have l:k<es.length:=oM;have a:=V3 l;have i:=h _ (mG a);generalize es[k]=e at a i;obtain⟨b,f,c⟩:=e;obtain⟨m,n,o⟩:=i;simp only at m n o;have q:=Q00 b;have s:=Q00 c;have next:=D06 es h p d (k+1) fuel (acc ++ [32]++fI b ++ [chL f]++fI c) oM oM oG;rw[I1 a,Z6.eq_2,iP (by simp;omega),U1 a,oB];simp only[w8 b n,w8 c o,h0p f m,n06,show(⟨#[32]⟩:BA)=B [32] from rfl,F08,oB,C4];rw[C0 oG,oB,C0 oM,oB,C0 oG,oB,C0 oS,oB,
   C0 oG,oB,C0 oM,oB,C0 oG,oB,
   Z1 l (by omega:es.length<=9223372036854775807),next]
  simp[J08]
def F0f(g:j0)(c:g.2.2.length<=140737488355328):i02 g=some (U0c g):=by
 have d:=r9 g c;obtain⟨r,n,es⟩:=g;unfold i02 U0c;simp only[d,oB];cases h:X0 (r,n,es);·rfl
 have b:=R0j h;have h':=h;simp only[X0,inR,aE,dE]at h';have f:=Q00 r;have e:=Q00 n;have a:=D06 es b oM es.length 0 P0 (fI r ++ [32]++fI n) oM (by unfold P0;omega) oG;rw[show((0:Nat):Int)=0 from rfl,(dZ)]at a;rw[iE oS,w8 r ⟨oM,oM⟩,w8 n ⟨oM,oM⟩];simp only[n06,show(⟨#[32]⟩:BA)=B [32] from rfl,F08,oB,C4];rw[C0 oM,oB,C0 oG,oB,C0 oM,oB,C0 oG,oB,a];rfl
def E06(es:List O0)(h:∀ e∈es,p0z e)(p:es.length<=1000):∀(d k fuel:Nat) (acc:List UInt8),k+d=es.length->d<fuel->acc.length<=100+44*k -> a7 es fuel (B acc) (k:Int)=some (B (acc++J08 (es.drop k)))
 |d,k,0,acc,j,hf,g=>oM
 |0,k,fuel+1,acc,j,hf,g=>by simp_all[a7.eq_2,iE,D1,J08]
 |d+1,k,fuel+1,acc,j,hf,g=>by
  have l:k<es.length:=oM;have a:=V3 l;have i:=h _ (mG a);generalize es[k]=e at a i;obtain⟨b,f,c⟩:=e;obtain⟨m,n,o⟩:=i;simp only at m n o;have q:=Q00 b;have s:=Q00 c;have next:=E06 es h p d (k+1) fuel (acc ++ [32]++fI b ++ [chL f]++fI c) oM oM oG;rw[I1 a,a7.eq_2,iP (by simp;omega),U1 a,oB];simp only[A9 b n,A9 c o,c0l f m,n06,show(⟨#[32]⟩:BA)=B [32] from rfl,F08,oB,C4];rw[C0 oG,oB,C0 oM,oB,C0 oG,oB,C0 oS,oB,
   C0 oG,oB,C0 oM,oB,C0 oG,oB,
   Z1 l (by omega:es.length<=9223372036854775807),next]
  simp[J08]
def G0f(g:j0)(c:g.2.2.length<=140737488355328):j02 g=some (U0c g):=by
 have d:=Z00 g c;obtain⟨r,n,es⟩:=g;unfold j02 U0c;simp only[d,oB];cases h:X0 (r,n,es);·rfl
 have b:=R0j h;have h':=h;simp only[X0,inR,aE,dE]at h';have f:=Q00 r;have e:=Q00 n;have a:=E06 es b oM es.length 0 P0 (fI r ++ [32]++fI n) oM (by unfold P0;omega) oG;rw[show((0:Nat):Int)=0 from rfl,(dZ)]at a;rw[iE oS,A9 r ⟨oM,oM⟩,A9 n ⟨oM,oM⟩];simp only[n06,show(⟨#[32]⟩:BA)=B [32] from rfl,F08,oB,C4];rw[C0 oM,oB,C0 oG,oB,C0 oM,oB,C0 oG,oB,a];rfl
def i0t(a b:List Int)(i:a.length=b.length)(g:a.length<=9223372036854775807):∀(d k fuel:Nat),k+d=a.length->d<fuel -> H7 a b fuel (k:Int)=some (bif eqW (a.drop k) (b.drop k)then .inr ()else .inl false)
 |d,k,0,f,hf=>oM
 |0,k,fuel+1,f,hf=>by rw[H7.eq_2,iE (by simp;omega),D1 oM,D1 oM];rfl
 |d+1,k,fuel+1,f,hf=>by
  have c:=V3 (show k<a.length by omega);have e:=V3 (show k<b.length by omega);have next:=i0t a b i g d (k+1) fuel oM oM;generalize a[k]=x at c;generalize b[k]=y at e;rw[H7.eq_2,iP (by simp;omega),U1 c,oB,U1 e,oB,I1 c,I1 e];unfold eqW at next ⊢;by_cases h:x=y;·rw[iE (by simpa using h),Z1 (show k<a.length by omega) g,next];simp[h]
  rw[iP (by simpa using h)];simp[h]
def Z0g{a b:List Int}(c:a.length<=9223372036854775807):y02 a b=some (eqW a b):=by
 unfold y02;by_cases h:a.length=b.length
 ·rw[iE (by simp[h])];have:=i0t a b h oM a.length 0 P0 oM (r0j c);rw[show((0:Nat):Int)=0 from rfl]at this;rw[this];simp only[dZ,oB];unfold eqW;by_cases h2:a=b;·simp[h2,w9]
  simp[h2,w9]
 rw[iP (by simp;omega)];unfold eqW;have : ¬ a=b:=λe=>h (by rw[e]);simp[this]
end Go.Proofs.YthakcafglempaaaGreat
