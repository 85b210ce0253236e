/- Texts of the claim, joined: Plain laws: graphs: degrees, equality, edges put in order, s and others. -/
import Derived.Test.YthkpbcnhdhfifaaGreatPart22
import Derived.Test.YthkpbcnhdhfifaaGreatPart29
import Derived.Test.YthkpbcnhdhfifaaGreatH36
import Derived.Test.YthkpbcnhdhfifaaGreatPart21
namespace Go.Proofs.YthkpbcnhdhfifaaGreat
set_option linter.all false
open Go.H
open IntKind (i64)
def g08(v:Int)(e:Q0):Nat:=(if e.1=v then 1 else 0)+(if e.2.2=v then 1 else 0)
def Z02(v:Int):List Q0->Nat
 | []=>0
 |e::r=>g08 v e+Z02 v r
def b0z(v:Int)(e:Q0):g08 v e<=2:=by unfold g08;split<;>split<;>omega
theorem L0o(v:Int):∀ l,Z02 v l<=2*l.length
 | []=>by simp[Z02]
 |e::r=>by have:=b0z v e;have:=L0o v r;grind[Z02,List.length_cons]
def F0k(es:List Q0)(v:Int)(n:es.length<=1099511627776):∀(d k fuel acc:Nat),k+d=es.length->d<fuel->acc<=2*k -> I4 es v fuel (acc:Int) (k:Int)=some ((acc+Z02 v (es.drop k):Nat):Int)
 |d,k,0,acc,i,hf,g=>oM
 |0,k,fuel+1,acc,i,hf,g=>by rw[I4.eq_2,iE (by simp;omega),J1 oM];rfl
 |d+1,k,fuel+1,acc,i,hf,g=>by
  have j:k<es.length:=oM;have c:=V3 j;generalize es[k]=e at c;obtain⟨a,l,b⟩:=e;have f:=λm h=>F0k es v n d (k+1) fuel m oM oM h;have w1:i64.wrap ((acc:Int)+1)=((acc+1:Nat):Int):=by grind[w64]
  have o:i64.wrap (((acc+1:Nat):Int)+1)=((acc+2:Nat):Int):=by grind[w64]
  rw[I4.eq_2,iP (by simp;omega),E2 c,L1 c];simp only[oB,Z02,g08,G2 j (show es.length<=9223372036854775807 by omega)];by_cases c1:a=v
  ·rw[iP (by simpa using c1),iP c1];by_cases c2:b=v;·rw[iP (by simpa using c2),iP c2,w1,o,f _ oM];congr 2;omega
   rw[iE (by simpa using c2),iE c2,w1,f _ oM];congr 2;omega
  rw[iE (by simpa using c1),iE c1];by_cases c2:b=v;·rw[iP (by simpa using c2),iP c2,w1,f _ oM];congr 2;omega
  grind
theorem G0k(es:List Q0)(v:Int):∀(fuel:Nat) (x y:Int),T6 es v fuel x y=I4 es v fuel x y
 |0,x,y=>rfl
 |fuel+1,x,y=>by
  rw[T6.eq_2,I4.eq_2];simp only[G0k es v fuel];by_cases c:(decide (y<((es.length:Nat):Int)))
  ·rw[iP c,iP c];cases hg:gi es y with
   |none=>rfl
   |some e=>grind
  grind
def b0n(g:B0)(v:Int)(a:g.2.2.length<=1099511627776):a03 g v=some ((Z02 v g.2.2:Nat):Int):=by obtain⟨r,n,es⟩:=g;unfold a03;have h:=F0k es v a es.length 0 U0 0 oM (F1 (by simp only at a;omega)) (Nat.zero_le _);grind
def I0v(g:B0)(v:Int)(a:g.2.2.length<=1099511627776):z04 g v=some ((Z02 v g.2.2:Nat):Int):=by have h:=b0n g v a;grind[z04,a03,G0k]
def O06(g h:B0):Bool:=decide (g=h)
theorem P06(x y:Q0):eqE x y↔x=y:=by simp[eqE]
def L0i(a b:List Q0)(j:a.length=b.length)(i:a.length<=9223372036854775807):∀(d k fuel:Nat),k+d=a.length->d<fuel -> I2 a b fuel (k:Int)=some (if a.drop k=b.drop k then .inr ()else .inl false)
 |d,k,0,g,hf=>oM
 |0,k,fuel+1,g,hf=>by simp_all[I2.eq_2,iE,J1]
 |d+1,k,fuel+1,g,hf=>by have h:k<a.length:=oM;have l:k<b.length:=oM;have e:=V3 h;have f:=V3 l;generalize a[k]=x at e;generalize b[k]=y at f;have m:=L0i a b j i d (k+1) fuel oM oM;rw[I2.eq_2,iP (by simp;omega),E2 e,E2 f,L1 e,L1 f];simp only[oB,G2 h i,m];by_cases c:x=y;all_goals simp_all[iE,eqE,Bool.eq_false_iff,P06,iP]
def C0s(a b:List Q0)(d:a.length<=9223372036854775807):L4 a b=some (decide (a=b)):=by
 unfold L4;by_cases hab:a.length=b.length;·have h:=L0i a b hab d a.length 0 U0 oM (by unfold U0;omega);rw[iE (by simp;omega),show(0:Int)=((0:Nat):Int) from rfl,h,(dZ),(dZ)];by_cases c:a=b;all_goals simp_all[iP,T9,iE]
 rw[iP (by simp;omega)];congr 1;grind
theorem Z0d(g h:B0)(b:g.2.2.length<=9223372036854775807):D7 g h=some (O06 g h):=by obtain⟨r,n,es⟩:=g;obtain⟨d,c,a⟩:=h;unfold D7 O06;simp only[Prod.mk.injEq];by_cases c1:r=d<;>by_cases c2:n=c<;>simp[c1,c2,G1,M1,C0s es a b]
def c0n(a b:List Q0)(j:a.length=b.length)(i:a.length<=9223372036854775807):∀(d k fuel:Nat),k+d=a.length->d<fuel -> n7 a b fuel (k:Int)=some (if a.drop k=b.drop k then .inr ()else .inl false)
 |d,k,0,g,hf=>oM
 |0,k,fuel+1,g,hf=>by simp_all[n7.eq_2,iE,J1]
 |d+1,k,fuel+1,g,hf=>by have h:k<a.length:=oM;have l:k<b.length:=oM;have e:=V3 h;have f:=V3 l;generalize a[k]=x at e;generalize b[k]=y at f;have m:=c0n a b j i d (k+1) fuel oM oM;rw[n7.eq_2,iP (by simp;omega),E2 e,E2 f,L1 e,L1 f];simp only[oB,G2 h i,m];by_cases c:x=y;all_goals simp_all[iE,eqE,Bool.eq_false_iff,P06,iP]
def K08(g h:B0)(b:g.2.2.length<=9223372036854775807):C7 g h=some (O06 g h):=by
 obtain⟨r,n,es⟩:=g;obtain⟨f,d,a⟩:=h;unfold C7 O06;by_cases c1:r=f
 ·by_cases c2:n=d
  ·by_cases hab:es.length=a.length;·have h:=c0n es a hab b es.length 0 U0 oM (by grind[U0]);simp only[c1,c2,hab,decide_true,bT,zF,Prod.mk.injEq,true_and];rw[iE oS,show(0:Int)=((0:Nat):Int) from rfl,h,(dZ),(dZ)];by_cases c:es=a;all_goals simp_all[iP,T9,iE]
   have j : ¬ es=a:=λe=>hab (by rw[e]);have i:decide (((es.length:Nat):Int)=((a.length:Nat):Int))=false:=dF oM;simp_all
  simp[c1,c2]
 simp[c1]
def goE(x:Q0):List Q0->Bool×List Q0
 | []=>(false,[])
 |y::l=>if X0 x y<0 then(true,x::y::l)else if X0 x y=0 then(true,y::l)else((goE x l).1,y::(goE x l).2)
def i0u(x:Q0):∀ l,D02 X0 x l=bif(goE x l).1 then(goE x l).2 else(goE x l).2 ++ [x]
 | []=>rfl
 |y::l=>by have a:=i0u x l;unfold D02 goE;grind
def S0h(l:List Q0)(w0 w1 i:Int)(m:l.length<=1099511627776):∀(d k fuel:Nat) (acc:List Q0),k+d=l.length->d<fuel->acc.length<=k+1 -> L5 l w0 w1 i fuel true (k:Int) acc=some (true,acc++l.drop k)
 |d,k,0,acc,g,hf,f=>oM
 |0,k,fuel+1,acc,g,hf,f=>by rw[L5.eq_2,iE (by simp;omega),J1 oM,List.append_nil]
 |d+1,k,fuel+1,acc,g,hf,f=>by
  have h:k<l.length:=oM;have c:=V3 h;generalize l[k]=e at c;obtain⟨a,x,b⟩:=e;have n:=S0h l w0 w1 i m d (k+1) fuel (acc ++ [(a,x,b)]) oM oM (by simp;omega);rw[L5.eq_2,iP (by simp;omega),L1 c];simp only[E2 c,oB,n06,F0 (F0j _ _),G2 h (show l.length<=9223372036854775807 by omega),bT];have j:∀ b:Bool,(bif b then false else false)=false:=λb=>by cases b<;>rfl
  simp only[j,fT,if_false];grind[F0]
def H0k(l:List Q0)(w0 w1 c:Int)(g:l.length<=1099511627776):∀(d k fuel:Nat) (acc:List Q0),k+d=l.length->d<fuel->acc.length=k -> L5 l w0 w1 c fuel false (k:Int) acc=some ((goE (w0,w1,c) (l.drop k)).1,acc++(goE (w0,w1,c) (l.drop k)).2)
 |d,k,0,acc,i,hf,h=>oM
 |0,k,fuel+1,acc,i,hf,h=>by simp_all[L5.eq_2,iE,J1,goE]
 |d+1,k,fuel+1,acc,i,hf,h=>by
  have j:k<l.length:=oM;have f:=V3 j;generalize l[k]=e at f;obtain⟨a,x,b⟩:=e;have m:=H0k l w0 w1 c g d (k+1) fuel (acc ++ [(a,x,b)]) oM oM (by simp;omega);have o:=S0h l w0 w1 c g d (k+1) fuel (acc ++ [(a,x,b)]) oM oM (by simp;omega);have n:=S0h l w0 w1 c g d (k+1) fuel ((acc ++ [(w0,w1,c)]) ++ [(a,x,b)]) oM oM (by simp;omega);rw[L5.eq_2,iP (by simp;omega),L1 f];simp only[E2 f,oB,n06,F0 (F0j _ _),G2 j (show l.length<=9223372036854775807 by omega),bT,bF,goE];show _=_;unfold z0k;by_cases c1:X0 (w0,w1,c) (a,x,b)=0;·rw[iP (by simpa using c1),iE (by simp[c1]),iE oM,iP c1];grind[F0]
  rw[iE (by simpa using c1)];by_cases c2:X0 (w0,w1,c) (a,x,b)<0;·rw[iP (by simp[c2]),iP c2,F0 (by simp;omega),oB,F0 (by simp;omega),oB,n];simp
  rw[iE (by simp[c2]),iE c2,iE c1,F0 (by simp;omega),oB,m];simp
theorem D08(l:List Q0)(e:Q0)(b:l.length<=1099511627776):L8 l e=some (D02 X0 e l):=by
 obtain⟨w0,w1,a⟩:=e
 unfold L8
 have h:=H0k l w0 w1 a b l.length 0 U0 [] (by omega) (F1 (by omega)) rfl
 rw[show((0:Nat):Int)=0 from rfl,List.drop_zero,List.nil_append]at h
 simp only[h,oB,i0u]
 have c:∀ l:List Q0,(goE (w0,w1,a) l).2.length<=l.length+1:=λl=>by
  induction l with
  |nil=>simp[goE]
  |cons y l d =>
   grind[goE,List.length_cons]
 have:=c l
 cases (goE (w0,w1,a) l).1 with
 |true=>rfl
 |false =>
  simp only[Bool.not_false,if_true,cond_false]
  rw[F0 (by simp;omega),oB]
theorem M0a(e:Q0):∀ l:List Q0,(D02 X0 e l).length<=l.length+1
 | []=>by simp[D02]
 |y::l=>by
  have:=M0a e l
  grind[D02,List.length_cons]
def P0c(es:List Q0)(a:es.length<=1099511627776):i01 es=some (H4 X0 [] es):=by unfold i01;rw[F0 (by simp;omega),oB,F0 (by simp;omega),oB,(nA)];exact congrArg some (y0q Q3 P06 es es λ_=>Iff.rfl)
def Z00(g:B0)(a:g.2.2.length<=1099511627776):W3 g=some g:=by obtain⟨r,n,es⟩:=g;unfold W3;simp only;rw[F0 oG];rfl
theorem G02(g:B0)(a:g.2.2.length<=1099511627776):K4 g=some g:=by obtain⟨r,n,es⟩:=g;unfold K4;simp only;rw[F0 oG];rfl
inductive Rch (es:List Q0) (v:Int):Int->Prop
 |base:Rch es v v
 |fwd {e:Q0}:e∈es->Rch es v e.1->Rch es v e.2.2
 |bwd {e:Q0}:e∈es->Rch es v e.2.2->Rch es v e.1
theorem Rch.closed{es:List Q0}{v:Int}:∀ e∈es,Rch es v e.1↔Rch es v e.2.2:=λe a=>⟨.fwd a,.bwd a⟩
def Rch.sub{es:List Q0}{v:Int}{P:Int->Prop}(c:P v)(a:∀ e∈es,P e.1↔P e.2.2):∀ {x},Rch es v x->P x
 |_,.base=>c
 |_,.fwd b h=>(a _ b).1 (Rch.sub c a h)
 |_,.bwd b h=>(a _ b).2 (Rch.sub c a h)
def A03(S:List Bool)(i:Int):Bool:=S.getD i.toNat false
def stJ(S:List Bool)(e:Q0):List Bool:=(S.set e.1.toNat true).set e.2.2.toNat true
def pJ:List Q0->Bool->List Bool->Bool×List Bool
 | [],c,S=>(c,S)
 |e::r,c,S=>bif A03 S e.1 == A03 S e.2.2 then pJ r c S else pJ r true (stJ S e)
def cF:List Bool->Nat
 | []=>0
 |b::r=>(bif b then 0 else 1)+cF r
theorem D0s:∀(S:List Bool) (i:Nat),cF (S.set i true)<=cF S
 | [],i=>by simp[cF]
 |b::r,0=>by simp[cF]
 |b::r,i+1=>by have:=D0s r i;grind[cF]
def f0x:∀(S:List Bool) (i:Nat),S[i]?=some false->cF (S.set i true)<cF S
 | [],i,h=>by simp at h
 |b::r,0,h=>by grind[cF]
 |b::r,i+1,h=>by have:=f0x r i (by simpa using h);simp_all[List.set_cons_succ,cF]
theorem J0z:∀ S:List Bool,cF S<=S.length
 | []=>by simp[cF]
 |b::r=>by have:=J0z r;cases b<;>simp only[cF,lC,cT,zF]<;>omega
def inN(n:Nat)(es:List Q0):Prop:=∀ e∈es,(0<=e.1/\e.1<(n:Int))/\(0<=e.2.2/\e.2.2<(n:Int))
theorem N0g{S:List Bool}{i:Nat}(h:i<S.length)(x:Int):A03 (S.set i true) x=(decide (x.toNat=i) || A03 S x):=by unfold A03;grind
def E0s:∀(es:List Q0) (c:Bool) (S:List Bool),(pJ es c S).2.length=S.length
 | [],c,S=>rfl
 |e::r,c,S=>by
  unfold pJ;cases A03 S e.1 == A03 S e.2.2;·simp only[zF];rw[E0s r];simp[stJ]
  simp only[cT];exact E0s r c S
def M0o{n:Nat}:∀(es:List Q0) (c:Bool) (a:List Bool),a.length=n->inN n es->∀ x,A03 a x->A03 (pJ es c a).2 x
 | [],c,a,b,d,x,h=>h
 |e::r,c,a,b,d,x,h=>by
  have f:=d e mS;have g:inN n r:=λe f=>d e (mC _ f);unfold pJ;cases A03 a e.1 == A03 a e.2.2;·simp only[zF];refine M0o r _ _ (by simp[stJ,b]) g x ?_;grind[stJ,N0g,List.length_set]
  simp only[cT];exact M0o r c a b g x h
def I0k{n:Nat}{P:Int->Prop}:∀(es:List Q0) (c:Bool) (a:List Bool),a.length=n->inN n es->(∀ e∈es,P e.1↔P e.2.2)->(∀ x,0<=x->A03 a x->P x)->∀ x,0<=x->A03 (pJ es c a).2 x->P x
 | [],c,a,f,g,d,i,x,h0,h=>i x h0 h
 |e::r,c,a,f,g,d,i,x,h0,h=>by
  have b:=g e mS;have k:inN n r:=λe b=>g e (mC _ b);have j:=λe b=>d e (mC _ b);have l:=d e mS;unfold pJ at h;cases hb:A03 a e.1 == A03 a e.2.2;·rw[hb]at h;refine I0k r true (stJ a e) (by simp[stJ,f]) k j (λy m h=>?_) x h0 h;rw[stJ,N0g oG,N0g oM]at h;grind
  rw[hb]at h;exact I0k r c a f k j i x h0 h
theorem F0s{n:Nat}:∀(es:List Q0) (c:Bool) (a:List Bool),a.length=n->inN n es->cF (pJ es c a).2<=cF a/\((pJ es c a).1=true->c=true∨cF (pJ es c a).2<cF a)/\((pJ es c a).1=false->c=false/\(pJ es c a).2=a/\∀ e∈es,A03 a e.1=A03 a e.2.2)
 | [],c,a,d,f=>⟨Nat.le_refl _,λh => .inl h,λh=>⟨h,rfl,λe b=>nomatch b⟩⟩
 |e::r,c,a,d,f=>by
  have b:=f e mS
  have i:inN n r:=λe b=>f e (mC _ b)
  unfold pJ
  cases hb:A03 a e.1 == A03 a e.2.2
  ·simp only[cond_false]
   obtain⟨k,l,m⟩:=F0s r true (stJ a e) (by simp[stJ,d]) i
   have q:cF (stJ a e)<cF a:=by
    have g:∀(x:Int),0<=x->x<n->A03 a x=false->a[x.toNat]?=some false:=λx s t p=>by
     grind[A03,List.getElem?_eq_getElem]
    cases g1:A03 a e.1
    ·have:=f0x a _ (g _ b.1.1 b.1.2 g1)
     grind[D0s,stJ]
    ·have o:A03 a e.2.2=false:=by
      grind
     have j:(a.set e.1.toNat true)[e.2.2.toNat]?=some false:=by
      grind
     have:=f0x _ _ j
     grind[D0s,stJ]
   grind
  ·simp only[cond_true]
   obtain⟨k,l,m⟩:=F0s r c a d i
   grind
theorem giB{a:List Bool}{n:Nat}(c:a.length=n){x:Int}(h0:0<=x)(b:x<n):gi a x=some (A03 a x):=by
 grind[gi,A03,O0h,List.getElem?_eq_getElem]
def d0n(es:List Q0){n:Nat}(q:inN n es)(p:es.length<=9223372036854775807):∀(d k fuel:Nat) (c:Bool) (f:List Bool),f.length=n->k+d=es.length->d<fuel -> o5 es fuel c (k:Int) f=some (pJ (es.drop k) c f)
 |d,k,0,c,f,i,m,hf=>oM
 |0,k,fuel+1,c,f,i,m,hf=>by rw[o5.eq_2,iE (by simp;omega),J1 oM];rfl
 |d+1,k,fuel+1,c,f,i,m,hf=>by
  have o:k<es.length:=oM;have j:=V3 o;have g:=q _ (mG j);generalize es[k]=e at j g;obtain⟨a,l,b⟩:=e;have u:=λt s h=>d0n es q p d (k+1) fuel t s h oM oM;rw[o5.eq_2,iP (by simp;omega),L1 j];simp only[E2 j,oB,giB i g.1.1 g.1.2,giB i g.2.1 g.2.2,G2 o p,giB (show(f.set a.toNat true).length=n by simp[i]) g.2.1 g.2.2,pJ];cases hb:A03 f a == A03 f b;·simp only[bF,if_true,zF];exact u _ _ (by simp[i])
  grind
def e0n(es:List Q0){n:Nat}(f:inN n es)(w:es.length<=9223372036854775806):∀(m fuel:Nat) (a:List Bool),a.length=n->cF a<=m->m+1<fuel ->
  ∃ b,B6 es fuel true a=some b/\b.length=n/\(∀ x,A03 a x->A03 b x)/\(∀ e∈es,A03 b e.1=A03 b e.2.2) /\
   ∀ P:Int->Prop,(∀ e∈es,P e.1↔P e.2.2)->(∀ x,0<=x->A03 a x->P x)->∀ x,0<=x->A03 b x->P x
 |m,0,a,d,z,hf=>oM
 |m,fuel+1,a,d,z,hf=>by
  have h0:=d0n es f oM es.length 0 U0 false a d oM (by unfold U0;omega)
  rw[show((0:Nat):Int)=0 from rfl,(dZ)]at h0
  obtain⟨o,g,i⟩:=F0s es false a d f
  have y:=E0s es false a
  rw[B6.eq_2,iP rfl,h0,oB]
  have k:=M0o es false a d f
  have l:=λP=>I0k (P:=P) es false a d f
  generalize pJ es false a=q at *
  obtain⟨c,b⟩:=q
  simp only at o g i y k l ⊢
  cases c with
  |true =>
   rcases g rfl with h|h
   ·cases h
   ·obtain⟨S2,p,s,t,u,v⟩:=e0n es f w (m-1) fuel b oM oM oM
    exact⟨S2,p,s,λx C=>t x (k x C),u,λP j A=>v P j (l P j A)⟩
  |false =>
   obtain⟨_,e,D⟩:=i rfl
   subst e
   obtain _|fuel:=fuel
   ·omega
   ·rw[B6.eq_2,iE oS]
    grind
def D0q(r:Int)(n:Nat)(es:List Q0)(p:inN n es)(o:es.length<=9223372036854775806)(s:1<=n)(t:n<=140737488355328): ∃ a,g02 (r,(n:Int),es) 0=some a/\a.length=n/\∀ x,0<=x->x<(n:Int)->(A03 a x↔Rch es 0 x):=by
 unfold g02;simp only[iN];have m:gi (List.replicate n (false:Bool)) 0=some false:=by rw[t0f (x:=false)];rw[List.getElem?_replicate,iP oM]
 rw[F0 oM,oB,m,oB];have k:((List.replicate n (false:Bool)).set (0:Int).toNat true).length=n:=oS;obtain⟨b,d,f,g,i,j⟩:=e0n es p o n U0 _ k (by grind[J0z,List.replicate,set]) (by unfold U0;omega);rw[d];have c:∀ x,A03 ((List.replicate n (false:Bool)).set (0:Int).toNat true) x=decide (x.toNat=0):=λx=>by grind[N0g,A03,List.replicate]
 refine⟨b,rfl,f,λx h0 q=>⟨λh=>?_,λh=>?_⟩⟩
 ·refine j (Rch es 0) Rch.closed (λy u h=>?_) x h0 h;rw[c]at h;have:y=0:=by simp at h;omega
  subst this;exact .base
 exact Rch.sub (P:=λx=>A03 b x) (g 0 (by rw[c];rfl)) (λe l=>by rw[i e l]) h
def K0z(l:List Int)(w:Int)(e:l.length<=9223372036854775807):∀(d k fuel:Nat),k+d=l.length->d<fuel -> u01 l w fuel (k:Int)=some (if w∈l.drop k then .inl true else .inr ())
 |d,k,0,b,hf=>oM
 |0,k,fuel+1,b,hf=>by simp_all[u01.eq_2,iE,J1]
 |d+1,k,fuel+1,b,hf=>by have c:k<l.length:=oM;have a:=V3 c;generalize l[k]=x at a;have f:=K0z l w e d (k+1) fuel oM oM;rw[u01.eq_2,iP (by simp;omega),L1 a];simp only[E2 a,oB,G2 c e,f,mE];grind
def a0e(l:List Int)(w:Int)(a:l.length<=9223372036854775807):h01 l w=some (decide (w∈l)):=by unfold h01;have h:=K0z l w a l.length 0 U0 oM (by unfold U0;omega);rw[show((0:Nat):Int)=0 from rfl,(dZ)]at h;rw[h,oB];by_cases c:w∈l;all_goals simp_all[iP,T9,iE]
def s1(u:List Int)(e:Q0):List Int:=if e.1∈u then D02 l02 e.2.2 u else u
def s2(u:List Int)(e:Q0):List Int:=if e.2.2∈u then D02 l02 e.1 u else u
def pS:List Q0->List Int->List Int
 | [],u=>u
 |e::r,u=>pS r (s2 (s1 u e) e)
theorem J0k{u:List Int}{e:Q0}{x:Int}:x∈s1 u e↔x∈u∨(e.1∈u/\x=e.2.2):=by grind[s1,O0c,T05,absurd]
theorem K0k{u:List Int}{e:Q0}{x:Int}:x∈s2 u e↔x∈u∨(e.2.2∈u/\x=e.1):=by grind[s2,O0c,T05,absurd]
theorem g0x(u:List Int)(e:Q0):(s1 u e).length<=u.length+1:=by grind[s1,L0a]
theorem h0x(u:List Int)(e:Q0):(s2 u e).length<=u.length+1:=by grind[s2,L0a]
theorem G0s:∀(es:List Q0) (u:List Int),(pS es u).length<=u.length+2*es.length
 | [],u=>by simp[pS]
 |e::r,u=>by
  have:=G0s r (s2 (s1 u e) e)
  grind[h0x,s1,g0x,pS,List.length_cons]
theorem O0g:∀(es:List Q0) (u:List Int) (x:Int),x∈u->x∈pS es u
 | [],u,x,h=>h
 |e::r,u,x,h=>O0g r _ x (K0k.2 (.inl (J0k.2 (.inl h))))
def L0k{P:Int->Prop}:∀(es:List Q0) (u:List Int),(∀ e∈es,P e.1↔P e.2.2)->(∀ x∈u,P x)->∀ x∈pS es u,P x
 | [],u,a,b=>b
 |e::r,u,a,b=>L0k r _ (λe c=>a e (mC _ c)) λx d=>by grind[List.mem_cons_self,s1,J0k,K0k]
def E0q:∀(es:List Q0) (u:List Int) (e:Q0),e∈es->e.1∈u∨e.2.2∈u->e.1∈pS es u/\e.2.2∈pS es u
 |b::r,u,e,a,h=>by
  simp only[pS];rcases mE.1 a with rfl|a;·grind[s1,J0k,O0g,K0k]
  exact E0q r _ e a (h.imp (λh=>K0k.2 (.inl (J0k.2 (.inl h)))) λh=>K0k.2 (.inl (J0k.2 (.inl h))))
def act(es:List Q0)(u:List Int):Nat:=es.countP λe=>decide (e.1∈u)&&decide (e.2.2∈u)
def clo(es:List Q0)(u:List Int):Prop:=∀ e∈es,e.1∈u↔e.2.2∈u
theorem E0A(es:List Q0)(u:List Int):act es u<=es.length:=List.countP_le_length
def f0n{c:Type}{p q:c->Bool}:∀ {l:List c},(∀ x∈l,p x->q x)->(∃ x∈l,p x=false/\q x)->l.countP p<l.countP q
 | [],_,⟨x,a,_⟩=>nomatch a
 |y::l,h,⟨x,a,d,e⟩=>by
  have f:l.countP p<=l.countP q:=List.countP_mono_left λz b=>h z (mC _ b);rcases mE.1 a with rfl|a;·grind
  have g:=f0n (l:=l) (λz b=>h z (mC _ b)) ⟨x,a,d,e⟩;grind
def P0g{es:List Q0}{u:List Int}(h:clo es u)(x:Int):x∈pS es u↔x∈u :=
 ⟨L0k (P:=λx=>x∈u) es u h (λ_ h=>h) x,O0g es u x⟩
def i0x{es:List Q0}{u:List Int}:clo es (pS es u)∨act es u<act es (pS es u):=by
 by_cases h:clo es u;·left;intro e a;rw[P0g h,P0g h];exact h e a
 right;have:∃ e∈es,¬ (e.1∈u↔e.2.2∈u):=by refine Classical.byContradiction λb=>h λe a=>?_;grind
 obtain⟨e,a,c⟩:=this;refine f0n (λx f h=>?_) ⟨e,a,?_,?_⟩;·simp_all[aE,dE,O0g]
 ·grind
 have d:e.1∈u∨e.2.2∈u:=by grind
 simp_all[E0q,aE,dE]
def itS(es:List Q0):Nat->List Int->List Int
 |0,u=>u
 |j+1,u=>itS es j (pS es u)
def j0u(es:List Q0):∀(j:Nat) (u:List Int),(itS es j u).length<=u.length+j*(2*es.length)
 |0,u=>by simp[itS]
 |j+1,u=>by have:=j0u es j (pS es u);have:=G0s es u;simp only[itS,Nat.add_mul,Nat.one_mul];omega
def k0u(es:List Q0):∀(a:Nat) (u:List Int),clo es u->clo es (itS es a u)
 |0,u,h=>h
 |a+1,u,h=>k0u es a _ λe b=>by rw[P0g h,P0g h];exact h e b
theorem l0u(es:List Q0):∀(a:Nat) (u:List Int),clo es (itS es a u)∨act es u+a<=act es (itS es a u)
 |0,u => .inr (Nat.le_refl _)
 |a+1,u=>by
  rcases i0x (es:=es) (u:=u)with h|h;·exact .inl (k0u es a _ h)
  rcases l0u es a (pS es u)with b|b;all_goals grind[itS]
def F0q(es:List Q0):∀(j:Nat) (u:List Int) (x:Int),x∈u->x∈itS es j u
 |0,u,x,h=>h
 |j+1,u,x,h=>F0q es j _ x (O0g es u x h)
def g0n{P:Int->Prop}(es:List Q0)(c:∀ e∈es,P e.1↔P e.2.2):∀(b:Nat) (u:List Int),(∀ x∈u,P x)->∀ x∈itS es b u,P x
 |0,u,a=>a
 |b+1,u,a=>g0n es c b _ (L0k es u c a)
theorem Q06(es:List Q0)(v x:Int):x∈itS es (es.length+1) [v]↔Rch es v x:=by
 constructor;·exact g0n (P:=Rch es v) es Rch.closed _ _ (λy a=>by simp at a;subst a;exact .base) x
 have b:clo es (itS es (es.length+1) [v]):=by grind[l0u,E0A,itS]
 exact Rch.sub (P:=λx=>x∈itS es (es.length+1) [v]) (F0q _ _ _ _ oS) b
def M0k(es:List Q0)(o:es.length<=9223372036854775807):∀(d k fuel:Nat) (u:List Int),k+d=es.length->d<fuel->u.length+2*d<=1099511627776 -> F4 es fuel u (k:Int)=some (pS (es.drop k) u)
 |d,k,0,u,m,hf,p=>oM
 |0,k,fuel+1,u,m,hf,p=>by rw[F4.eq_2,iE (by simp;omega),J1 oM];rfl
 |d+1,k,fuel+1,u,m,hf,p=>by
  have n:k<es.length:=oM;have i:=V3 n;generalize es[k]=e at i;obtain⟨a,l,b⟩:=e;have t:=λs h=>M0k es o d (k+1) fuel s oM oM h;have q:=g0x u (a,l,b);have j:=h0x (s1 u (a,l,b)) (a,l,b);rw[F4.eq_2,iP (by simp;omega),L1 i];simp only[E2 i,oB,a0e u _ oM,G2 n o,pS];by_cases c:a∈u
  ·rw[iP (by simpa using c),G0g _ _ oM,oB];have f:s1 u (a,l,b)=D02 l02 b u:=iP c;rw[f]at q j ⊢;rw[a0e _ _ oM,oB];by_cases c2:b∈D02 l02 b u;·rw[iP (by simpa using c2),G0g _ _ oM,oB];have g:s2 (D02 l02 b u) (a,l,b)=D02 l02 a (D02 l02 b u):=iP c2;grind
   rw[iE (by simpa using c2)];have g:s2 (D02 l02 b u) (a,l,b)=D02 l02 b u:=iE c2;grind
  rw[iE (by simpa using c)];have f:s1 u (a,l,b)=u:=iE c;rw[f]at j ⊢;by_cases c2:b∈u;·rw[iP (by simpa using c2),G0g _ _ oM,oB];have g:s2 u (a,l,b)=D02 l02 a u:=iP c2;grind
  rw[iE (by simpa using c2)];have g:s2 u (a,l,b)=u:=iE c2;grind
def N0k(es:List Q0)(c:es.length<=120):∀(d k fuel:Nat) (u:List Int),k+d=es.length+1->d<fuel->u.length<=1+k*240 -> o7 es fuel u (k:Int)=some (itS es d u)
 |d,k,0,u,a,hf,b=>oM
 |0,k,fuel+1,u,a,hf,b=>by rw[o7.eq_2,iE (by grind[w64])];rfl
 |d+1,k,fuel+1,u,a,hf,b=>by have h0:=M0k es oM es.length 0 U0 u oM (F1 oM) oM;rw[show((0:Nat):Int)=0 from rfl,(dZ)]at h0;have e:=N0k es c d (k+1) fuel (pS es u) oM oM (by grind[G0s]);rw[o7.eq_2,iP (by grind[w64]),h0,oB,G2 (show k<1000 by omega) oM,e];rfl
def getI(P:List Int)(v:Int):Int:=P.getD v.toNat (-1)
def o04:List Int->Nat->List Int->List Int
 |A,k,[]=>A
 |A,k,v::r=>o04 (A.set v.toNat (k:Int)) (k+1) r
def plc(n:Nat)(o:List Int):List Int:=o04 (List.replicate n (-1)) 0 o
theorem O0k:∀(o:List Int) (k:Nat) (A:List Int),(o04 A k o).length=A.length
 | [],k,A=>rfl
 |v::r,k,A=>by rw[o04,O0k r];simp
def inV(n:Nat)(o:List Int):Prop:=∀ v∈o,0<=v/\v<(n:Int)
theorem giI{P:List Int}{n:Nat}(b:P.length=n){x:Int}(h0:0<=x)(a:x<n):gi P x=some (getI P x):=by
 grind[gi,getI,O0h,List.getElem?_eq_getElem]
def Y07{A:List Int}{v x:Int}{y:Int}(h0:0<=v)(a:v.toNat<A.length)(b:0<=x):getI (A.set v.toNat y) x=if x=v then y else getI A x:=by unfold getI;grind
theorem Q0g{n:Nat}:∀(o:List Int) (k:Nat) (A:List Int),A.length=n->inV n o->(∀ x,0<=x -> -1<=getI A x/\getI A x<(k:Int))->∀ x,0<=x -> -1<=getI (o04 A k o) x/\getI (o04 A k o) x<((k+o.length:Nat):Int)
 | [],k,A,c,a,h,x,b=>h x b
 |v::r,k,A,c,a,h,x,b=>by
  have e:=a v mS
  have:=Q0g r (k+1) (A.set v.toNat (k:Int)) (by simp[c]) (λw f=>a w (mC _ f)) (λy d=>by
   rw[Y07 e.1 (by omega) d]
   have:=h y d
   split<;>omega) x b
  grind[o04,List.length_cons]
theorem Q0c(n:Nat)(x:Int):getI (List.replicate n (-1)) x = -1:=by unfold getI;rw[List.getD_eq_getElem?_getD,List.getElem?_replicate];split<;>rfl
def b0e{n:Nat}{o:List Int}(b:inV n o){x:Int}(a:0<=x): -1<=getI (plc n o) x/\getI (plc n o) x<(o.length:Int):=by have:=Q0g o 0 (List.replicate n (-1)) oS b (λx a=>by rw[Q0c];omega) x a;rw[Nat.zero_add]at this;exact this
def m0u(n:Nat)(o:List Int):(plc n o).length=n:=by grind[plc,O0k]
def pE(P:List Int):List Q0->List Q0
 | []=>[]
 |e::r=>bif decide (0<=getI P e.1)&&decide (0<=getI P e.2.2)then(getI P e.1,e.2.1,getI P e.2.2)::pE P r else pE P r
theorem N0o(P:List Int):∀ es,(pE P es).length<=es.length
 | []=>by simp[pE]
 |e::r=>by have:=N0o P r;unfold pE;cases decide (0<=getI P e.1)&&decide (0<=getI P e.2.2)<;>simp only[cT,zF,lC]<;>omega
def L0z{n:Nat}{o:List Int}(f:inV n o):∀(es:List Q0),inN n es->inN o.length (pE (plc n o) es)
 | [],c=>λe a=>nomatch a
 |e::r,c=>by
  have g:=L0z f r λe a=>c e (mC _ a);have a:=c e mS;unfold pE;cases hb:decide (0<=getI (plc n o) e.1)&&decide (0<=getI (plc n o) e.2.2);·grind
  simp only[cT];simp only[aE,dE]at hb;intro d b;rcases mE.1 b with rfl|b;·simp_all[b0e]
  exact g d b
def A6(g:B0)(o:List Int):B0:=(g.1,(o.length:Int),H4 X0 [] (pE (plc g.2.1.toNat o) g.2.2))
theorem r02:∀(r l:List Q0),(H4 X0 l r).length<=l.length+r.length
 | [],l=>by simp[H4]
 |e::r,l=>by have:=r02 r (D02 X0 e l);grind[M0a,H4,List.length_cons]
theorem v0f(g:B0)(o:List Int):(A6 g o).2.2.length<=g.2.2.length:=by
 have:=r02 (pE (plc g.2.1.toNat o) g.2.2) []
 grind[N0o,plc,A6,List.length_nil]
def h0n{n:Nat}{r:Int}{es:List Q0}{o:List Int}(c:inV n o)(b:inN n es):inN o.length (A6 (r,(n:Int),es) o).2.2:=by
 intro e a;simp only[A6,iN]at a;rcases(O4 Q3 e _ _).1 a with h|h;·cases h
 exact L0z c es b e h
def n0u(n:Nat)(c:n<=140737488355328):∀(d k fuel:Nat),k+d=n->d<fuel -> q02 n fuel (k:Int) (List.replicate k (-1)++List.replicate d 0)=some (List.replicate n (-1))
 |d,k,0,a,hf=>oM
 |0,k,fuel+1,a,hf=>by simp_all[q02.eq_2,iE]
 |d+1,k,fuel+1,a,hf=>by
  have b:gi (List.replicate k (-1)++List.replicate (d+1) (0:Int)) (k:Int)=some 0:=by simp_all[O0h,List.getElem?_append_right]
  have f:=n0u n c d (k+1) fuel oM oM;rw[q02.eq_2,iP (by simp;omega),b,oB,G2 (show k<n by omega) oM,(iN)];have e:(List.replicate k (-1)++List.replicate (d+1) (0:Int)).set k (-1)=List.replicate (k+1) (-1)++List.replicate d 0:=by rw[List.set_append_right _ _ oS,List.length_replicate,Nat.sub_self,List.replicate_succ,List.set_cons_zero,List.replicate_succ'];simp
  rw[e,f]
def o0u(o:List Int){n:Nat}(h:inV n o)(g:o.length<=9223372036854775807):∀(d k fuel:Nat) (A:List Int),A.length=n->k+d=o.length->d<fuel -> p02 o fuel (k:Int) A=some (o04 A k (o.drop k))
 |d,k,0,A,a,e,hf=>oM
 |0,k,fuel+1,A,a,e,hf=>by rw[p02.eq_2,iE (by simp;omega),J1 oM];rfl
 |d+1,k,fuel+1,A,a,e,hf=>by have f:k<o.length:=oM;have b:=V3 f;have c:=h _ (mG b);generalize o[k]=v at b c;have i:=o0u o h g d (k+1) fuel (A.set v.toNat (k:Int)) (by simp[a]) oM oM;rw[p02.eq_2,iP (by simp;omega),L1 b,E2 b,oB,giI a c.1 c.2,oB,G2 f g,i];rfl
def p0u(es:List Q0){n:Nat}(p:inN n es)(t:es.length<=1099511627776)(P:List Int)(g:P.length=n)(r m:Int):∀(d k fuel:Nat) (acc:List Q0),k+d=es.length->d<fuel->acc.length<=k -> j01 es P fuel (k:Int) r m acc=some (r,m,acc++pE P (es.drop k))
 |d,k,0,acc,j,hf,i=>oM
 |0,k,fuel+1,acc,j,hf,i=>by simp_all[j01.eq_2,iE,J1,pE]
 |d+1,k,fuel+1,acc,j,hf,i=>by
  have o:k<es.length:=oM;have f:=V3 o;have c:=p _ (mG f);generalize es[k]=e at f c;obtain⟨a,l,b⟩:=e;have q:=λs h=>p0u es p t P g r m d (k+1) fuel s oM oM h;rw[j01.eq_2,iP (by simp;omega),L1 f];simp only[E2 f,oB,giI g c.1.1 c.1.2,giI g c.2.1 c.2.2,G2 o (show es.length<=9223372036854775807 by omega),pE];by_cases c1:0<=getI P a
  ·simp only[show decide (getI P a ≥ 0)=true by simpa using c1,G1,oB,cT,show decide (0<=getI P a)=true by simpa using c1,Bool.true_and];by_cases c2:0<=getI P b;·rw[iP (by simpa using c2),F0 (by simp;omega),oB,q _ (by simp;omega)];simp[c2]
   grind
  simp only[show decide (getI P a ≥ 0)=false by simpa using c1,M1,oB,zF,show decide (0<=getI P a)=false by simpa using c1,Bool.false_and];rw[iE oS,q _ oM]
def O0o(r:Int)(n:Nat)(es:List Q0)(o:List Int)(d:inN n es)(e:inV n o)(g:n<=1000000)(c:es.length<=1099511627776)(f:o.length<=1099511627776): Z04 (r,(n:Int),es) o=some (A6 (r,(n:Int),es) o):=by unfold Z04;have b:=n0u n oM n 0 U0 oM (F1 oM);have a:=o0u o e oM o.length 0 U0 (List.replicate n (-1)) oS oM (F1 oM);have h0:=p0u es d c (plc n o) (m0u n o) r ((o.length:Nat):Int) es.length 0 U0 [] oM (F1 oM) (Nat.le_refl _);rw[show((0:Nat):Int)=0 from rfl]at h0 a b;rw[List.replicate_zero,(nA)]at b;rw[(dZ)]at a;rw[(dZ),(nA)]at h0;simp only[iN];rw[F0 oM,oB,oB,List.length_replicate,F0 oM,oB,b,oB,a,oB];rw[show o04 (List.replicate n (-1)) 0 o=plc n o from rfl,h0];simp only[oB];rw[P0c _ (by grind[N0o,plc]),oB];rfl
def j0x(A:List Int)(i k:Nat):(A.map (·+1)).set i (((k+1:Nat):Int))=(A.set i (k:Int)).map (·+1):=by rw[List.map_set];rfl
theorem P0k{A:List Int}{n:Nat}(c:A.length=n){x:Int}(h0:0<=x)(a:x<n):gi (A.map (·+1)) x=some (getI A x+1):=by
 have d:x.toNat<A.length:=by omega
 have e:x=((x.toNat:Nat):Int):=by omega
 have b:gi (A.map (·+1)) ((x.toNat:Nat):Int)=some (getI A x+1):=by
  grind[O0h,List.getElem?_eq_getElem,getI]
 grind
def Q0k{n:Nat}:∀(o:List Int) (k:Nat) (A:List Int) (x:Int),A.length=n->inV n o->0<=x->x ∉ o->getI (o04 A k o) x=getI A x
 | [],k,A,x,c,a,b,h=>rfl
 |v::r,k,A,x,c,a,b,h=>by have f:=a v mS;rw[o04,Q0k r _ _ x (by simp[c]) (λw g=>a w (mC _ g)) b (λd=>h (mC _ d)),Y07 f.1 oM b,iE (λe=>h oG)]
def k0x(r:Int)(n:Nat)(es:List Q0)(o:List Int)(h:inV n o)(l:o.Nodup)(t:1<=n/\n<=1000000)(s:o.length<=1099511627776):∀(d k fuel:Nat) (A:List Int),A.length=n->(∀ x,0<=x -> -1<=getI A x/\getI A x<=1099511627776)->(∀ x∈o.drop k,getI A x = -1)->k+d=o.length->d<fuel -> M5 o (n:Int) r es fuel (k:Int) (A.map (·+1))=some (.inr ((o04 A k (o.drop k)).map (·+1)))
 |d,k,0,A,c,i,f,j,hf=>oM
 |0,k,fuel+1,A,c,i,f,j,hf=>by rw[M5.eq_2,iE (by simp;omega),J1 oM];rfl
 |d+1,k,fuel+1,A,c,i,f,j,hf=>by
  have m:k<o.length:=oM;have a:=V3 m;have b:=h _ (mG a);have g:=L1 a;generalize o[k]=v at a b g;have p:(o.drop k).Nodup:=l.sublist (List.drop_sublist _ _);rw[g]at p f;have q:=f v mS;have w:=k0x r n es o h l t s d (k+1) fuel (A.set v.toNat (k:Int)) (by simp[c]) (λx a=>by
   rw[Y07 b.1 oM a];have:=i x a;split<;>omega) (λx a=>by
   have u:=h x (List.mem_of_mem_drop a);rw[Y07 b.1 oM u.1,iE (λe=>(List.nodup_cons.1 p).1 (by rw[←e];exact a))];grind) oM oM
  rw[M5.eq_2,iP (by simp;omega),g,E2 a];simp only[oB,H03,w64 (show -9223372036854775808<=(n:Int)-1 by omega) (show(n:Int)-1<=9223372036854775807 by omega),inR,show decide (0<=v)=true by simpa using b.1,show decide (v<=(n:Int)-1)=true by simp;omega,Bool.and_self,bT,bF,G1,P0k c b.1 b.2,q,zF];rw[iE oD,G2 m oM,j0x,w];rfl
def l0x(es:List Q0){n:Nat}(q:inN n es)(t:es.length<=1099511627776)(P:List Int)(g:P.length=n)(i:∀ x,0<=x -> -1<=getI P x/\getI P x<=1099511627776)(r m:Int):∀(d k fuel:Nat) (acc:List Q0),k+d=es.length->d<fuel->acc.length<=k -> R4 es (P.map (·+1)) fuel (k:Int) r m acc=some (r,m,H4 X0 acc (pE P (es.drop k)))
 |d,k,0,acc,o,hf,j=>oM
 |0,k,fuel+1,acc,o,hf,j=>by rw[R4.eq_2,iE (by simp;omega),J1 oM];rfl
 |d+1,k,fuel+1,acc,o,hf,j=>by
  have p:k<es.length:=oM;have f:=V3 p;have c:=q _ (mG f);generalize es[k]=e at f c;obtain⟨a,l,b⟩:=e;have u:=λs h=>l0x es q t P g i r m d (k+1) fuel s oM oM h;have v:=i a c.1.1;have w:=i b c.2.1;rw[R4.eq_2,iP (by simp;omega),L1 f];simp only[E2 f,oB,P0k g c.1.1 c.1.2,P0k g c.2.1 c.2.2,G2 p (show es.length<=9223372036854775807 by omega),pE];by_cases c1:0<=getI P a
  ·simp only[show decide (getI P a+1>0)=true by simp;omega,G1,oB,cT,show decide (0<=getI P a)=true by simpa using c1,Bool.true_and];by_cases c2:0<=getI P b;·rw[iP (by simp;omega),w64 oM oM,w64 oM oM,show getI P a+1-1=getI P a by omega,show getI P b+1-1=getI P b by omega];grind[D08,M0a,getI,H4]
   grind
  simp only[show decide (getI P a+1>0)=false by simp;omega,M1,oB,zF,show decide (0<=getI P a)=false by simpa using c1,Bool.false_and];rw[iE oS,u _ oM]
def w0f(r:Int)(n:Nat)(es:List Q0)(o:List Int)(f:W0 (r,(n:Int),es))(g:inV n o)(l:o.Nodup)(t:1<=o.length)(u:o.length<=n): t8 (r,(n:Int),es) o=some (A6 (r,(n:Int),es) o,true):=by obtain⟨h,p,q,s⟩:=P2 f;simp only at p q s;have m:inN n es:=λe d=>⟨(h e d).1,(h e d).2.1⟩;have k:=H9 (r,(n:Int),es) (by simp only;omega);unfold t8;have a:=k0x r n es o g l oM oM o.length 0 U0 (List.replicate n (-1)) oS (λx b=>by rw[Q0c];omega) (λx b=>Q0c n x) oM (F1 oM);have c:=l0x es m oM (plc n o) (m0u n o) (λx b=>by have:=b0e g b;omega) r ((o.length:Nat):Int) es.length 0 U0 [] oM (F1 oM) (Nat.le_refl _);rw[show((0:Nat):Int)=0 from rfl,(dZ)]at c a;rw[show(List.replicate n (-1:Int)).map (·+1)=List.replicate n 0 by simp]at a;rw[show o04 (List.replicate n (-1)) 0 o=plc n o from rfl]at a;have i:decide (((o.length:Nat):Int)=0)=false:=dF oM;have j:decide (((o.length:Nat):Int)>(n:Int))=false:=dF oM;simp only[k,f,oB,bT,zF,iN,i,j];rw[iE oS,F0 oM,oB,a];simp only[oB,T9,c];rfl
def I9:∀(n:Nat) (o:List Int),o.Nodup->inV n o->o.length<=n
 |0,[],_,_=>Nat.le_refl _
 |0,x::r,_,h=>by have:=h x mS;omega
 |n+1,o,a,h=>by
  have b:inV n (o.erase (n:Int)):=λx d=>by obtain⟨f,c⟩:=(List.Nodup.mem_erase_iff a).1 d;have:=h x c;omega
  have e:=I9 n _ (a.erase _) b;grind
def Y5:Nat->Nat->List Int
 |0,_=>[]
 |d+1,i=>(i:Int) :: -(i:Int)::Y5 d (i+1)
def M03:∀ d i,(Y5 d i).length=2*d
 |0,i=>rfl
 |d+1,i=>by simp only[Y5,lC,M03 d];omega
def P0o:∀(d i:Nat),i+d<=1000->∀ x∈Y5 d i,C3 x
 |0,i,h,x,a=>nomatch a
 |d+1,i,h,x,a=>by
  simp only[Y5,mE]at a;rcases a with rfl|rfl|a;·exact⟨⟨oM,oM⟩,oM⟩
  ·exact⟨⟨oM,oM⟩,oM⟩
  exact P0o d (i+1) oM x a
def m0x(R:Nat)(c:R<=900):∀(d i fuel:Nat) (acc:List Int),i+d=R+1->d<fuel->acc.length+2*d<=10000 -> Z9 (R:Int) fuel (i:Int) acc=some (acc++Y5 d i)
 |d,i,0,acc,b,hf,a=>oM
 |0,i,fuel+1,acc,b,hf,a=>by rw[Z9.eq_2,iE (by simp;omega)];simp[Y5]
 |d+1,i,fuel+1,acc,b,hf,a=>by
  have e:=m0x R c d (i+1) fuel (acc ++ [(i:Int),-(i:Int)]) oM oM (by simp;omega);have w1:i64.wrap (0-(i:Int)) = -(i:Int):=by grind[w64]
  rw[Z9.eq_2,iP (by simp;omega),w1,F0 (by simp;omega),oB,G2 (show i<1000 by omega) oM,e];simp[Y5]
def n0x(R:Nat)(c:R<=900):∀(d i fuel:Nat) (acc:List Int),i+d=R+1->d<fuel->acc.length+2*d<=10000 -> w8 (R:Int) fuel (i:Int) acc=some (acc++Y5 d i)
 |d,i,0,acc,b,hf,a=>oM
 |0,i,fuel+1,acc,b,hf,a=>by rw[w8.eq_2,iE (by simp;omega)];simp[Y5]
 |d+1,i,fuel+1,acc,b,hf,a=>by
  have e:=n0x R c d (i+1) fuel ((acc ++ [(i:Int)]) ++ [-(i:Int)]) oM oM (by simp;omega);have w1:i64.wrap (0-(i:Int)) = -(i:Int):=by grind[w64]
  rw[w8.eq_2,iP (by simp;omega),w1,F0 (by simp;omega),oB,F0 (by simp;omega),oB,G2 (show i<1000 by omega) oM,e];simp[Y5]
theorem H0s(R:Nat)(a:R<=900):v01 (R:Int)=some (Y5 R 1):=by unfold v01;rw[show(1:Int)=((1:Nat):Int) from rfl,m0x R a R 1 U0 [] oM (F1 oM) (by simp;omega)];rfl
theorem Q0o(R:Nat)(a:R<=900):M8 (R:Int)=some (Y5 R 1):=by unfold M8;rw[show(1:Int)=((1:Nat):Int) from rfl,n0x R a R 1 U0 [] oM (F1 oM) (by simp;omega)];rfl
def f0a(u:List Int)(x:Int):List Int:=if 0<=x/\x ∉ u then u ++ [x]else u
def h04(g:B0)(v:Int):List Int->List Int->List Int
 | [],u=>u
 |x::r,u=>h04 g v r (f0a u (S0 g v x))
def Q9(g:B0)(a:List Int):Nat->Nat->List Int->List Int
 |0,i,u=>u
 |f+1,i,u=>match u[i]? with
  |some v=>Q9 g a f (i+1) (h04 g v a u)
  |none=>u
def gud(n:Nat)(u:List Int):Prop:=u.Nodup/\inV n u
def G0q{n:Nat}{u:List Int}{x:Int}(h:gud n u)(g:x = -1∨(0<=x/\x<(n:Int))):gud n (f0a u x):=by
 unfold f0a;split
 ·rename_i f;refine⟨List.nodup_append.2 ⟨h.1,oS,λa d b e=>?_⟩,λy c=>?_⟩;·grind
  rcases List.mem_append.1 c with c|c;·exact h.2 y c
  grind
 exact h
def R0k(u:List Int)(x:Int):∃ t,f0a u x=u++t:=by unfold f0a;split;all_goals simp_all
def y06(g:B0)(v:Int):∀(a u:List Int),∃ t,h04 g v a u=u++t
 | [],u=>⟨[],by simp[h04]⟩
 |x::r,u=>by obtain⟨d,b⟩:=R0k u (S0 g v x);obtain⟨e,c⟩:=y06 g v r (f0a u (S0 g v x));grind[h04,List.append_assoc]
theorem v07{r:Int}{n:Nat}{es:List Q0}(a:inG (r,(n:Int),es))(v:Int):∀(b u:List Int),gud n u->gud n (h04 (r,(n:Int),es) v b u)
 | [],u,h=>h
 |x::l,u,h=>v07 a v l _ (G0q h (B03 a v x))
def S0k{r:Int}{n:Nat}{es:List Q0}(a:inG (r,(n:Int),es))(b:List Int):∀(f i:Nat) (u:List Int),gud n u->gud n (Q9 (r,(n:Int),es) b f i u)
 |0,i,u,h=>h
 |f+1,i,u,h=>by
  unfold Q9;split;·exact S0k a b f _ _ (v07 a _ _ _ h)
  exact h
def T0k(g:B0)(a:List Int):∀(f i:Nat) (u:List Int),u.length<=(Q9 g a f i u).length
 |0,i,u=>Nat.le_refl _
 |f+1,i,u=>by
  unfold Q9;split;·rename_i v _;obtain⟨t,e⟩:=y06 g v a u;have:=T0k g a f (i+1) (h04 g v a u);grind
  exact Nat.le_refl _
def q0u(r:Int)(n:Nat)(es:List Q0)(f:inG (r,(n:Int),es))(A:n<=40)(m:es.length<=1099511627776)(a:List Int)(p:∀ x∈a,C3 x)(z:a.length<=1000000)(i:Nat)(v:Int):∀(d k fuel:Nat) (u:List Int),gud n u->u[i]?=some v->k+d=a.length->d<fuel -> J4 a (i:Int) r (n:Int) es fuel (k:Int) u=some (h04 (r,(n:Int),es) v (a.drop k) u)
 |d,k,0,u,b,g,j,hf=>oM
 |0,k,fuel+1,u,b,g,j,hf=>by rw[J4.eq_2,iE (by simp;omega),J1 oM];rfl
 |d+1,k,fuel+1,u,b,g,j,hf=>by
  have o:k<a.length:=oM;have c:=V3 o;have q:=p _ (mG c);have l:=L1 c;generalize a[k]=x at c q l;have E:=I9 n u b.1 b.2;have C:S0 (r,(n:Int),es) v x = -1∨(0<=S0 (r,(n:Int),es) v x/\S0 (r,(n:Int),es) v x<(n:Int)):=B03 f v x;have s:=G0q b C;have w:(f0a u (S0 (r,(n:Int),es) v x))[i]?=some v:=by obtain⟨t,e⟩:=R0k u (S0 (r,(n:Int),es) v x);grind
  have D:=q0u r n es f A m a p z i v d (k+1) fuel _ s w oM oM;rw[J4.eq_2,iP (by simp;omega),l];simp only[E2 g,E2 c,oB,m04 (r,(n:Int),es) v x q m,F0 (V02 f (show(n:Int)<=40 by omega) v x),G2 o (show a.length<=9223372036854775807 by omega),h04];rw[←D];generalize S0 (r,(n:Int),es) v x=y at *;unfold f0a;by_cases c1:0<=y
  ·simp only[show decide (y ≥ 0)=true by simpa using c1,G1,a0e u y oM,oB,cT];by_cases c2:y∈u;·rw[iE (by simp[c2]),iE (by simp[c2])]
   rw[iP (by simp[c2]),iP ⟨c1,c2⟩,F0 (by simp;omega),oB]
  simp only[show decide (y ≥ 0)=false by simpa using c1,M1,oB,zF];rw[iE oS,iE (λh=>c1 h.1)]
def r0u(r:Int)(n:Nat)(es:List Q0)(c:inG (r,(n:Int),es))(m:n<=40)(h:es.length<=1099511627776)(a:List Int)(l:∀ x∈a,C3 x)(k:a.length<=1000000):∀(f i fuel:Nat) (u:List Int),gud n u->i<=u.length->n+1<=i+f->f<fuel -> M6 a r (n:Int) es fuel (i:Int) u=some (Q9 (r,(n:Int),es) a f i u)
 |f,i,0,u,b,j,g,hf=>oM
 |0,i,fuel+1,u,b,j,g,hf=>by have:=I9 n u b.1 b.2;omega
 |f+1,i,fuel+1,u,b,j,g,hf=>by
  have p:=I9 n u b.1 b.2;rw[M6.eq_2,oB,F0 oM,oB];by_cases hk:i<u.length;·have d:=V3 hk;generalize u[i]=v at d;have h0:=q0u r n es c m h a l k i v a.length 0 U0 u b d oM (F1 oM);rw[show((0:Nat):Int)=0 from rfl,(dZ)]at h0;obtain⟨t,e⟩:=y06 (r,(n:Int),es) v a u;have o:=r0u r n es c m h a l k f (i+1) fuel _ (v07 c v a u b) oG oM oM;rw[iP (by simpa using hk),h0,oB,G2 hk oM,o];simp only[Q9,d]
  simp_all[List.getElem?_eq_none,iE,Q9]
def l3(g:B0):List Int:=Q9 g (Y5 g.1.toNat 1) (g.2.1.toNat+1) 0 [0]
def z05{g:B0}(hf:H0 g):gud g.2.1.toNat (l3 g)/\1<=(l3 g).length:=by
 obtain⟨a,b,c,d⟩:=P0 hf;obtain⟨r,n,es⟩:=g;simp only at b c d;obtain⟨N,rfl⟩:∃ N:Nat,n=(N:Int):=⟨n.toNat,oM⟩;refine⟨?_,?_⟩;·exact S0k a _ _ _ _ ⟨oS,λx e=>oG⟩
 exact T0k _ _ _ _ [0]
def H0q(g:B0)(hf:H0 g):T00 g=some (l3 g):=by obtain⟨a,b,c,d⟩:=P0 hf;have e:=N6 g oM;obtain⟨r,n,es⟩:=g;simp only at b c d;obtain⟨N,rfl⟩:∃ N:Nat,n=(N:Int):=⟨n.toNat,oM⟩;obtain⟨R,rfl⟩:∃ R:Nat,r=(R:Int):=⟨r.toNat,oM⟩;unfold T00;have h0:=r0u (R:Int) N es a oM oM (Y5 R 1) (P0o R 1 oM) (by rw[M03];omega) (N+1) 0 U0 [0] ⟨oS,λx f=>oG⟩ oS oM (F1 oM);simp only[e,hf,oB,bT,Q0o R oM];rw[show((0:Nat):Int)=0 from rfl]at h0;rw[iE oS,h0];rfl
def s0u{a:List Int}(b:a.length<=1099511627776):K9 a=some a:=by grind[K9,F0]
def L9(W:List (Option (List Int)))(x:Int):Option (List Int):=W.getD x.toNat none
theorem giO{a:List (Option (List Int))}{n:Nat}(c:a.length=n){x:Int}(h0:0<=x)(b:x<n):gi a x=some (L9 a x):=by
 grind[gi,L9,O0h,List.getElem?_eq_getElem]
def N03{A:List (Option (List Int))}{v x:Int}{y:Option (List Int)}(h0:0<=v)(a:v.toNat<A.length)(b:0<=x):L9 (A.set v.toNat y) x=if x=v then y else L9 A x:=by unfold L9;grind
structure WOk (n:Nat) (W:List (Option (List Int))) (u:List Int):Prop where
 len:W.length=n
 iff:∀ x,0<=x->x<(n:Int)->((L9 W x).isNone=true↔x ∉ u)
 short:∀ x,((L9 W x).getD []).length<=u.length
def t0u(r:Int)(n:Nat)(es:List Q0)(l:inG (r,(n:Int),es))(G:n<=40)(s:es.length<=1099511627776)(f:List Int)(w:∀ x∈f,C3 x)(F:f.length<=1000000)(v:Int)(m:0<=v/\v<(n:Int)):∀(d k fuel:Nat) (b:List (Option (List Int))) (u:List Int),gud n u->WOk n b u->k+d=f.length->d<fuel -> ∃ i,A4 f r (n:Int) es v fuel (k:Int) b u=some (i,h04 (r,(n:Int),es) v (f.drop k) u)/\WOk n i (h04 (r,(n:Int),es) v (f.drop k) u)
 |d,k,0,b,u,g,a,p,hf=>oM
 |0,k,fuel+1,b,u,g,a,p,hf=>by rw[A4.eq_2,iE (by simp;omega),J1 oM];exact⟨b,rfl,a⟩
 |d+1,k,fuel+1,b,u,g,a,p,hf=>by
  have t:k<f.length:=oM;have j:=V3 t;have A:=w _ (mG j);have q:=L1 j;generalize f[k]=x at j A q;have J:=I9 n u g.1 g.2;have H:S0 (r,(n:Int),es) v x = -1∨(0<=S0 (r,(n:Int),es) v x/\S0 (r,(n:Int),es) v x<(n:Int)):=B03 l v x;have E:=G0q g H;have C:=λi h=>t0u r n es l G s f w F v m d (k+1) fuel i _ E h oM oM;rw[A4.eq_2,iP (by simp;omega),q];simp only[E2 j,oB,a05 (r,(n:Int),es) v x A s,F0 (V02 l (show(n:Int)<=40 by omega) v x),G2 t (show f.length<=9223372036854775807 by omega),h04];generalize S0 (r,(n:Int),es) v x=y at *;by_cases c1:0<=y
  ·have o:y<(n:Int):=oM;simp only[show decide (y ≥ 0)=true by simpa using c1,G1,giO a.len c1 o,oB,cT];by_cases c2:y∈u;·have : ¬ ((L9 b y).isNone):=λh=>(a.iff y c1 o).1 h c2;simp_all[f0a,iE]
   have:(L9 b y).isNone:=(a.iff y c1 o).2 c2;have e:f0a u y=u ++ [y]:=iP ⟨c1,c2⟩;have K:=a.short v;rw[iP this,giO a.len m.1 m.2,oB,s0u oM,oB,F0 (by simp;omega),oB,F0 (by simp;omega),oB];rw[e]at C ⊢;refine C _ ⟨by simp[a.len],λz h0 D=>?_,λz=>?_⟩
   ·rw[N03 c1 (by have:=a.len;omega) h0];by_cases c:z=y;·rw[iP c];simp[c]
    rw[iE c,a.iff z h0 D];simp[c]
   by_cases hz:0<=z
   ·rw[N03 c1 (by have:=a.len;omega) hz];by_cases c:z=y;·grind
    rw[iE c];have:=a.short z;grind
   have I:L9 (b.set y.toNat (some ((L9 b v).getD [] ++ [x]))) z=L9 (b.set y.toNat (some ((L9 b v).getD [] ++ [x]))) 0:=by unfold L9;rw[show z.toNat=(0:Int).toNat by omega]
   rw[I,N03 c1 (by have:=a.len;omega) (iR 0)];by_cases c:(0:Int)=y;·grind
   rw[iE c];have:=a.short 0;grind
  have e:f0a u y=u:=iE λh=>c1 h.1;simp only[show decide (y ≥ 0)=false by simpa using c1,M1,oB,zF];grind
def u0u(R n:Nat)(h:R<=900)(es:List Q0)(c:inG ((R:Int),(n:Int),es))(m:n<=40)(k:es.length<=1099511627776):∀(f i fuel:Nat) (b:List (Option (List Int))) (u:List Int),gud n u->WOk n b u->i<=u.length->n+1<=i+f->f<fuel -> ∃ q,E6 (R:Int) (n:Int) es fuel (i:Int) b u=some (q,Q9 ((R:Int),(n:Int),es) (Y5 R 1) f i u)
 |f,i,0,b,u,a,d,l,j,hf=>oM
 |0,i,fuel+1,b,u,a,d,l,j,hf=>by have:=I9 n u a.1 a.2;omega
 |f+1,i,fuel+1,b,u,a,d,l,j,hf=>by
  have x:=I9 n u a.1 a.2;rw[E6.eq_2,oB,F0 oM,oB];by_cases hk:i<u.length;·have g:=V3 hk;have o:=a.2 _ (mG g);generalize u[i]=v at g o;obtain⟨s,h0,p⟩:=t0u (R:Int) n es c m k (Y5 R 1) (P0o R 1 oM) (by rw[M03];omega) v o (Y5 R 1).length 0 U0 b u a d oM (F1 (by rw[M03];omega));rw[show((0:Nat):Int)=0 from rfl,(dZ)]at h0;rw[(dZ)]at p;obtain⟨t,e⟩:=y06 ((R:Int),(n:Int),es) v (Y5 R 1) u;obtain⟨w,y⟩:=u0u R n h es c m k f (i+1) fuel s _ (v07 c v _ u a) p oG oM oM;rw[iP (by simpa using hk),E2 g,oB,H0s R h,oB,h0,oB];grind[G2,Q9]
  simp_all[List.getElem?_eq_none,iE,Q9]
def I0q(g:B0)(hf:H0 g):U00 g=some (l3 g):=by
 obtain⟨a,b,c,d⟩:=P0 hf;have e:=v00 g oM;obtain⟨r,n,es⟩:=g;simp only at b c d;obtain⟨N,rfl⟩:∃ N:Nat,n=(N:Int):=⟨n.toNat,oM⟩;obtain⟨R,rfl⟩:∃ R:Nat,r=(R:Int):=⟨r.toNat,oM⟩;unfold U00;have j:∀ x,L9 (List.replicate N (none:Option (List Int))) x=none:=λx=>by unfold L9;rw[List.getD_eq_getElem?_getD,List.getElem?_replicate];split<;>rfl
 have f:WOk N ((List.replicate N (none:Option (List Int))).set (0:Int).toNat (some [])) [0]:=by
  refine⟨oS,λx h0 a=>?_,λx=>?_⟩;·rw[N03 (iR 0) (by simp;omega) h0];grind
  by_cases hz:0<=x;·rw[N03 (iR 0) (by simp;omega) hz];grind
  have:L9 ((List.replicate N (none:Option (List Int))).set (0:Int).toNat (some [])) x=L9 ((List.replicate N (none:Option (List Int))).set (0:Int).toNat (some [])) 0:=by unfold L9;rw[show x.toNat=(0:Int).toNat by omega]
  rw[this,N03 (iR 0) (by simp;omega) (iR 0),iP rfl];simp
 obtain⟨i,h0⟩:=u0u R N oM es a oM oM (N+1) 0 U0 _ [0] ⟨oS,λx k=>oG⟩ f oS oM (F1 oM);have h:gi (List.replicate N (none:Option (List Int))) 0=some none:=by rw[t0f (x:=none)];rw[List.getElem?_replicate,iP oM]
 simp only[e,hf,oB,bT,o9,iN];rw[iE oS,F0 oM,oB,h,oB];rw[show((0:Nat):Int)=0 from rfl]at h0;rw[h0];rfl
def R3(g:B0):B0:=A6 g (l3 g)
def R0c(g:B0)(hf:H0 g):C9 g=some (R3 g):=by obtain⟨b,d,f,h⟩:=P0 hf;have i:=v00 g oM;have j:=I0q g hf;obtain⟨a,m⟩:=z05 hf;have k:=I9 _ _ a.1 a.2;obtain⟨r,n,es⟩:=g;simp only at d f h;obtain⟨N,rfl⟩:∃ N:Nat,n=(N:Int):=⟨n.toNat,oM⟩;simp only[iN]at a k;have l:=O0o r N es (l3 (r,(N:Int),es)) (λe c=>⟨(b e c).1,(b e c).2.1⟩) a.2 oM oM oM;unfold C9;simp only[i,hf,oB,bT,j,l];rfl
def S0c(g:B0)(hf:H0 g):B9 g=some (R3 g):=by
 obtain⟨k,c,d,e⟩:=P0 hf;have f:W0 g:=by simp_all[H0,aE]
 have h:=H0q g hf;obtain⟨a,i⟩:=z05 hf;have b:=I9 _ _ a.1 a.2;obtain⟨r,n,es⟩:=g;simp only at c d e;obtain⟨N,rfl⟩:∃ N:Nat,n=(N:Int):=⟨n.toNat,oM⟩;simp only[iN]at a b;have j:=w0f r N es (l3 (r,(N:Int),es)) f a.2 a.1 i b;unfold B9;simp only[oB,h,j];rw[iE oG];rfl
def lf(a:Nat->Bool):Nat->Nat->Option Nat
 |0,v=>none
 |d+1,v=>bif a v then some v else lf a d (v+1)
def T0c{a:Nat->Bool}:∀(d v k:Nat),lf a d v=some k->v<=k/\k<v+d
 |0,v,k,h=>by cases h
 |d+1,v,k,h=>by
  unfold lf at h;cases hb:a v;·rw[hb]at h;have:=T0c d (v+1) k h;omega
  grind
def U0k{a b:Nat->Bool}:∀(d v:Nat),(∀ k,v<=k->k<v+d->a k=b k)->lf a d v=lf b d v
 |0,v,h=>rfl
 |d+1,v,h=>by unfold lf;rw[h v (Nat.le_refl _) oM,U0k d (v+1) λk c e=>h k oM oM]
def I0s(es:List Q0):List Int:=itS es (es.length+1) [0]
def N0a(es:List Q0)(v:Nat):Bool:=decide (Z02 (v:Int) es<2) || !decide ((v:Int)∈I0s es)
def J9(g:B0):Option Nat:=lf (N0a g.2.2) (g.2.1.toNat-1) 1
def J0s(g:B0)(b:W0 g):F02 g 0=some (I0s g.2.2)/\(I0s g.2.2).length<=100000:=by
 obtain⟨h,c,d,a⟩:=P2 b;have f:=H9 g oM;obtain⟨r,n,es⟩:=g;simp only at c d a;unfold F02 I0s;have e:=N0k es a (es.length+1) 0 U0 [0] oM (F1 oM) oS;have i:=j0u es (es.length+1) [0];refine⟨?_,?_⟩;·rw[show((0:Nat):Int)=0 from rfl]at e;simp only[f,b,oB,bT,bF,G1,H03,inR,w64 (show -9223372036854775808<=n-1 by omega) (show n-1<=9223372036854775807 by omega)];grind
 have:(es.length+1)*(2*es.length)<=121*240:=Nat.mul_le_mul oM oM;grind
def o0x(r:Int)(n:Nat)(es:List Q0)(e:es.length<=1000)(u:List Int)(g:u.length<=100000)(f:n<=40):∀(d v fuel:Nat),v+d=n∨(d=0/\n<=v)->v<=1000->d<fuel -> M00 (n:Int) r es u fuel (v:Int)=some (match lf (λv=>decide (Z02 (v:Int) es<2) || !decide ((v:Int)∈u)) d v with|some k => .inl (k:Int)|none => .inr ())
 |d,v,0,b,c,hf=>oM
 |0,v,fuel+1,b,c,hf=>by rw[M00.eq_2,iE (by simp;omega)];rfl
 |d+1,v,fuel+1,b,c,hf=>by
  have i:=o0x r n es e u g f d (v+1) fuel oM oM oM;have h:=L0o (v:Int) es;rw[M00.eq_2,iP (by simp;omega),b0n (r,(n:Int),es) _ (by simp only;omega),oB,F0 (c64 (by simp only;omega) (by simp only;omega)),oB,G2 (show v<10000 by omega) oM];unfold lf;by_cases c1:Z02 (v:Int) es<2;·have a:decide (((Z02 (v:Int) es:Nat):Int)<2):=dT oM;simp only[a,bT,M1,oB,cT,if_true,dT c1,Bool.true_or]
  have a:decide (((Z02 (v:Int) es:Nat):Int)<2)=false:=dF oM;simp only[a,bF,G1,a0e u _ (show u.length<=9223372036854775807 by omega),oB,zF,dF c1,Bool.false_or];grind
def p0x(g:B0)(c:W0 g):N04 g=some (match J9 g with|some k=>(k:Int)|none => -1):=by obtain⟨a,b⟩:=J0s g c;obtain⟨i,d,e,f⟩:=P2 c;obtain⟨r,n,es⟩:=g;simp only at d e f a b;obtain⟨N,rfl⟩:∃ N:Nat,n=(N:Int):=⟨n.toNat,oM⟩;unfold N04 J9;have h:=o0x r N es oM (I0s es) b oM (N-1) 1 U0 oM oM (F1 oM);simp only[a,oB,iN];rw[show(1:Int)=((1:Nat):Int) from rfl,h];rw[show(λv:Nat=>decide (Z02 (v:Int) es<2) || !decide ((v:Int)∈I0s es))=N0a es from rfl];cases lf (N0a es) (N-1) 1<;>rfl
def R0o(r:Int)(n:Nat)(es:List Q0)(m:es.length<=1000)(a:List Bool)(g:a.length=n)(p:n<=40):∀(d v fuel:Nat),1<=v->v+d=n∨(d=0/\n<=v)->v<=1000->d+1<fuel -> j5 (n:Int) r es a fuel 0 (v:Int)=some (match lf (λv=>decide (Z02 (v:Int) es<2) || !A03 a (v:Int)) d v with|some k=>(k:Int)|none=>0)
 |d,v,0,f,h,i,hf=>oM
 |0,v,fuel+1,f,h,i,hf=>by have e:decide ((v:Int)<(n:Int))=false:=dF oM;rw[j5.eq_2,iE (by rw[e];simp)];rfl
 |d+1,v,fuel+1,f,h,i,hf=>by
  have s:=R0o r n es m a g p d (v+1) fuel oM oM oM oM;have q:=L0o (v:Int) es;have e:decide ((v:Int)<(n:Int)):=dT oM;have o:∀ w:Int,j5 (n:Int) r es a fuel (v:Int) w=some (v:Int):=λw=>by
   obtain _|fuel:=fuel;·omega
   have j:decide ((v:Int)=0)=false:=dF oM;have l:∀ b:Bool,(bif b then false else false)=false:=λb=>by cases b<;>rfl
   rw[j5.eq_2,iE (by rw[j,l];simp)]
  rw[j5.eq_2,iP (by rw[e];rfl),I0v (r,(n:Int),es) _ (by simp only;omega),oB,F0 (c64 (by simp only;omega) (by simp only;omega)),oB,G2 (show v<10000 by omega) oM];unfold lf;by_cases c1:Z02 (v:Int) es<2;·have c:decide (((Z02 (v:Int) es:Nat):Int)<2):=dT oM;simp only[c,bT,M1,oB,cT,if_true,dT c1,Bool.true_or,o]
  have c:decide (((Z02 (v:Int) es:Nat):Int)<2)=false:=dF oM;simp only[c,bF,G1,giB g (show(0:Int)<=(v:Int) by omega) (show(v:Int)<(n:Int) by omega),oB,zF,dF c1,Bool.false_or];grind
def wo(g:Nat):Nat->Nat->List Int
 |0,k=>[]
 |d+1,k=>if k=g then wo g d (k+1)else(k:Int)::wo g d (k+1)
def V0k(g:Nat):∀(d k:Nat),(wo g d k).length=d-(if k<=g/\g<k+d then 1 else 0)
 |0,k=>by simp[wo]
 |d+1,k=>by have a:=V0k g d (k+1);unfold wo;grind
theorem J0q(g n:Nat):∀(d k:Nat),k+d<=n->inV n (wo g d k)
 |0,k,h=>λx a=>nomatch a
 |d+1,k,h=>by
  have b:=J0q g n d (k+1) oM;unfold wo;split;·exact b
  intro x a;rcases mE.1 a with rfl|a;·omega
  exact b x a
def S0o(n g:Nat)(j:n<=1000):∀(d k fuel:Nat) (acc:List Int),k+d=n->d<fuel->acc.length<=k -> E7 (n:Int) (g:Int) fuel (k:Int) acc=some (acc++wo g d k)
 |d,k,0,acc,b,hf,a=>oM
 |0,k,fuel+1,acc,b,hf,a=>by simp_all[E7.eq_2,iE,wo]
 |d+1,k,fuel+1,acc,b,hf,a=>by
  have f:=λi h=>S0o n g j d (k+1) fuel i oM oM h;rw[E7.eq_2,iP (by simp;omega),G2 (show k<10000 by omega) oM];unfold wo;by_cases c:k=g;·have e:decide ((k:Int)=(g:Int)):=dT oM;rw[e,iE oS,iP c,f _ oM]
  have e:decide ((k:Int)=(g:Int))=false:=dF oM;rw[e,iP (show(!false)=true from rfl),iE c,F0 (by simp;omega),oB,f _ (by simp;omega)];simp
def T0o(n:Nat)(f:n<=1000):∀(d k fuel:Nat) (acc:List Int),k+d=n->d<fuel->acc.length=k -> ∃ u,z8 (n:Int) fuel (k:Int) acc=some u/\u.length=n
 |d,k,0,acc,b,hf,a=>oM
 |0,k,fuel+1,acc,b,hf,a=>by simp_all[z8.eq_2,iE]
 |d+1,k,fuel+1,acc,b,hf,a=>by obtain⟨u,c,e⟩:=T0o n f d (k+1) fuel (acc ++ [(k:Int)]) oM oM (by simp;omega);rw[z8.eq_2,iP (by simp;omega),G2 (show k<10000 by omega) oM,F0 (by simp;omega),oB,c];exact⟨u,rfl,e⟩
theorem O0a{a:Type}{xs:List a}{k:Nat}(h:k<=xs.length):U07 xs 0 (k:Int)=some (xs.take k):=by simp_all[U07,iP]
def v0u:∀(n fuel:Nat) (left:List Int) (r:Int) (es:List Q0),1<=n->n<=40->inN n es->es.length<=120->left.length=n->n<fuel -> ∃(a:B0) (d:List Int),F7 fuel left r (n:Int) es=some (.inl (a,d))/\a.2.1<=(n:Int)/\(a.2.1=(n:Int)↔lf (N0a es) (n-1) 1=none)
 |n,0,left,r,es,e,f,b,t,u,hf=>oM
 |n,fuel+1,left,r,es,e,f,b,t,u,hf=>by
  obtain⟨c,p,lS,q⟩:=D0q r n es b oM e oM;have m:=R0o r n es oM c lS f (n-1) 1 U0 (Nat.le_refl _) oM oM (F1 oM);have s:lf (λv=>decide (Z02 (v:Int) es<2) || !A03 c (v:Int)) (n-1) 1=lf (N0a es) (n-1) 1:=U0k _ _ λk D E=>by
   unfold N0a;have:=q (k:Int) oM oM;have g:=Q06 es 0 (k:Int);congr 2;cases hb:A03 c (k:Int);·symm;exact dF λh=>by rw[this.2 (g.1 h)]at hb;cases hb
   symm;exact dT (g.2 (this.1 hb))
  rw[s]at m;rw[F7.eq_2,p,oB,show(1:Int)=((1:Nat):Int) from rfl,m,oB];cases hlf:lf (N0a es) (n-1) 1 with
  |none =>grind
  |some k =>
   have A:=T0c _ _ _ hlf;have o:decide ((k:Int)=0)=false:=dF oM;have j:=J0q k n n 0 oM;have i:=V0k k n 0;rw[iP oM]at i;have l:=S0o n k oM n 0 U0 [] oM (F1 oM) (Nat.le_refl _);rw[show((0:Nat):Int)=0 from rfl,(nA)]at l;have w:=O0o r n es (wo k n 0) b j oM oM oM;have x:=v0f (r,(n:Int),es) (wo k n 0);have C:=h0n (r:=r) j b;have y:i64.wrap ((k:Int)+((1:Nat):Int))=((k+1:Nat):Int):=by grind[w64]
   obtain⟨a,d,z,F,G⟩:=v0u (n-1) fuel (left.take k++left.drop (k+1)) r (A6 (r,(n:Int),es) (wo k n 0)).2.2 oM oM oG (by simp only at x;omega) oG oM;refine⟨a,d,?_,oM,?_⟩;·simp only[o,fT,if_false,l,oB,w];rw[show A6 (r,(n:Int),es) (wo k n 0)=(r,((n-1:Nat):Int),(A6 (r,(n:Int),es) (wo k n 0)).2.2) by rw[←i];rfl];simp only[y];rw[O0a oM,oB,n04 oM,oB,F0 oG,oB,z]
   grind
theorem K0s(g:B0)(k:W0 g=true):∃(a:B0) (b:List Int),a00 g=some (a,b)/\(a.2.1=g.2.1↔J9 g=none):=by
 obtain⟨c,i,j,d⟩:=P2 k
 have p:=k01 g (by omega)
 have o:=G02 g (by omega)
 obtain⟨r,n,es⟩:=g
 simp only at i j d
 obtain⟨N,rfl⟩:∃ N:Nat,n=(N:Int):=⟨n.toNat,by omega⟩
 have l:inN N es:=λe f=>⟨(c e f).1,(c e f).2.1⟩
 obtain⟨u,m,h⟩:=T0o N (by omega) N 0 U0 [] (by omega) (F1 (by omega)) rfl
 obtain⟨a,b,q,s,t⟩:=v0u N U0 u r es (by omega) (by omega) l d h (F1 (by omega))
 refine⟨a,b,?_,?_⟩
 ·unfold a00
  simp_all[oB,Bool.not_true,Bool.false_eq_true,if_false,T9]
 grind[J9,Int.toNat_natCast]
def D1(g:B0):Bool:=H0 g&&((J9 g).isNone&&O06 (R3 g) g)
theorem Y1{g:B0}(h:H0 g):W0 g:=by simp_all[H0,aE]
theorem T0h{g:B0}(hf:H0 g):(R3 g).2.2.length<=120:=by have:=v0f g (l3 g);have:=(P0 hf).2.2.2;unfold R3;omega
def l01(g:B0)(i:g.2.2.length<=140737488355328):l6 g=some (D1 g):=by
 have h:=v00 g i;unfold D1;by_cases hf:H0 g
 ·obtain⟨d,t,b,a⟩:=K0s g (Y1 hf);have e:=R0c g hf;have f:=Z0d (R3 g) g (by grind[T0h]);obtain⟨r,n,es⟩:=g;obtain⟨u,l,q⟩:=d;unfold l6;simp only at a;generalize R3 (r,n,es)=C at *;obtain⟨m,o,p⟩:=C;simp only[h,hf,oB,bT,fT,if_false,b,e];by_cases c:l=n;·have:=a.1 c;simp only[dT c,G1,oB,f,cT,this,Option.isNone_none,Bool.true_and]
  have j:(J9 (r,n,es)).isNone=false:=by
   cases hq:J9 (r,n,es)with
   |none=>grind
   |some k=>rfl
  simp only[dF c,M1,oB,zF,j,Bool.false_and,Bool.and_false]
 have s:H0 g=false:=Bool.eq_false_iff.2 hf;simp_all[l6,oB,bF,if_true,Bool.false_and]
theorem D0b(g:B0)(j:g.2.2.length<=140737488355328):t03 g=some (D1 g):=by
 have a:=N6 g j;unfold D1;by_cases hf:H0 g
 ·have f:=p0x g (Y1 hf);have d:=S0c g hf;have e:=K08 (R3 g) g (by grind[T0h]);obtain⟨p,q,c,s⟩:=P0 hf;obtain⟨r,n,es⟩:=g;unfold t03;generalize R3 (r,n,es)=C at *;obtain⟨l,m,o⟩:=C;simp only[a,hf,oB,G1,f,cT];cases hq:J9 (r,n,es)with
  |none =>simp only[F0 (show I0 (-1) by decide),oB,show decide ((-1:Int)<0)=true from rfl,G1,d,e,cT,Option.isNone_none,Bool.true_and]
  |some k =>have i:=T0c _ _ _ hq;simp only at c;simp only at i;have b:decide ((k:Int)<0)=false:=dF oM;simp only[F0 (show I0 (k:Int) from c64 oM oM),oB,b,M1,zF,Option.isNone_some,Bool.false_and,Bool.and_false]
 have h:H0 g=false:=Bool.eq_false_iff.2 hf;obtain⟨r,n,es⟩:=g;unfold t03;simp only[a,h,oB,M1,F0 (show I0 0 by decide),zF,Bool.false_and]
def K0q{e:Type}{c:e->e->Int}(h:Y02 c):∀ {l:List e},(∀ i x y,l[i]?=some x->l[i+1]?=some y->c x y<0)->Asc c l
 | [],_=>List.Pairwise.nil
 | [x],_=>List.pairwise_singleton _ _
 |x::y::l,f=>by
  have j:Asc c (y::l):=K0q h λi a b k m=>f (i+1) a b (by simpa using k) (by simpa using m);have g:=f 0 x y rfl rfl;refine List.pairwise_cons.2 ⟨λz d=>?_,j⟩;rcases mE.1 d with rfl|d;·exact g
  exact h.trans _ _ _ g ((List.pairwise_cons.1 j).1 z d)
theorem q0x{d:Type}{e:d->d->Int}:∀ {l:List d},Asc e l->∀ {i:Nat} {x y:d},l[i]?=some x->l[i+1]?=some y->e x y<0
 | [],_,i,x,y,b,_=>by simp at b
 |a::l,h,0,x,y,b,c=>by simp at b c;subst b;exact(List.pairwise_cons.1 h).1 y (mG c)
 |a::l,h,i+1,x,y,b,c=>q0x (List.pairwise_cons.1 h).2 (i:=i) (by simpa using b) (by simpa using c)
def r0x{r a:Int}{es:List Q0}:∀ {d k:Nat},(∀ i,k<=i->i<k+d->e0x r a es i=false)->okE r a es d k
 |0,k,h=>rfl
 |d+1,k,h=>by simp only[okE,aE,Bool.not_eq_true'];exact⟨h k (Nat.le_refl _) oM,r0x λi b c=>h i oM oM⟩
theorem O03(g:B0):W0 g↔inG g/\(1<=g.1/\g.1<=3)/\(1<=g.2.1/\g.2.1<=40)/\g.2.2.length<=120/\Asc X0 g.2.2:=by
 constructor;·intro h;obtain⟨j,b,c,d⟩:=P2 h;refine⟨j,b,c,d,K0q Q3 λi x y a l=>?_⟩;simp only[W0,aE]at h;have f:=I0o h.1.1.1 (i+1) (Nat.zero_le _) oG;rw[W0d l]at f;simp only[Nat.add_sub_cancel,a,Bool.or_eq_false_iff]at f;have:=f.2;simp only[show decide (0<i+1)=true by simp,Bool.true_and,decide_eq_false_iff_not]at this;grind[z0k,X0]
 rintro⟨j,b,c,d,m⟩;obtain⟨r,n,es⟩:=g;simp only at b c d m;simp only[W0,inR,aE,dE];refine⟨⟨⟨r0x λi _ o=>?_,b⟩,c⟩,d⟩;have a:=V3 (show i<es.length by omega);generalize es[i]=e at a;rw[W0d a];have k:=j e (mG a);simp only at k;simp only[Bool.or_eq_false_iff,Bool.not_eq_false',l09,inR,aE,dE];rw[w64 oM oM];grind[V3,q0x,Nat.add_sub_cancel,z0k,X0]
theorem R0g{r:Int}{n:Int}{es:List Q0}(c:1<=r/\r<=3)(b:1<=n/\n<=40)(f:es.length<=120)(a:inG (r,n,es)):W0 (r,n,H4 X0 [] es)=true:=by
 refine(O03 _).2 ⟨λe d=>a e ?_,c,b,?_,s03 Q3 _ _ List.Pairwise.nil⟩
 all_goals grind[O4,Q3,r02,List.length_nil]
def M09(a b:Q0):List (Int×Int) :=
 bif decide (a.2.1=b.2.1)then(bif decide (a.1=b.1)then [(if b.2.2<a.2.2 then b.2.2 else a.2.2,if b.2.2>a.2.2 then b.2.2 else a.2.2)]else [])++(bif decide (a.2.2=b.2.2)then [(if b.1<a.1 then b.1 else a.1,if b.1>a.1 then b.1 else a.1)]else [])else []
def Q04(a:Q0):List Q0->List (Int×Int)
 | []=>[]
 |b::r=>M09 a b++Q04 a r
def O9:List Q0->List (Int×Int)
 | []=>[]
 |a::r=>Q04 a r++O9 r
def J0v(a b:Q0):(M09 a b).length<=2:=by unfold M09;cases decide (a.2.1=b.2.1)<;>cases decide (a.1=b.1)<;>cases decide (a.2.2=b.2.2)<;>simp
theorem U0h(a:Q0):∀ l,(Q04 a l).length<=2*l.length
 | []=>by simp[Q04]
 |b::r=>by have:=J0v a b;have:=U0h a r;grind[Q04,List.length_append,List.length_cons]
def mvV(f:Int×Int)(v:Int):Int:=if v=f.2 then f.1 else if v>f.2 then v-1 else v
def mvE(f:Int×Int)(e:Q0):Q0:=(mvV f e.1,e.2.1,mvV f e.2.2)
def p04(g:B0)(f:Int×Int):B0:=(g.1,g.2.1-1,H4 X0 [] (g.2.2.map (mvE f)))
def okF(g:B0)(f:Int×Int):Prop:=0<=f.1/\f.1<f.2/\f.2<g.2.1
def Z07{g:B0}{f:Int×Int}(k:W0 g)(hf:okF g f):W0 (p04 g f):=by
 obtain⟨l,m,q,n,_⟩:=(O03 g).1 k;obtain⟨o,f2,f3⟩:=hf;refine R0g m ⟨oM,oM⟩ (by simpa using n) λe i=>?_;obtain⟨h,j,rfl⟩:=List.mem_map.1 i;obtain⟨b,c,d⟩:=l h j;have a:∀ v:Int,0<=v/\v<g.2.1->0<=mvV f v/\mvV f v<g.2.1-1:=λv p=>by grind[mvV]
 exact⟨a _ b,a _ c,d⟩
def L0q{g:B0}(j:inG g){a:Q0}(m:a∈g.2.2):∀ {l:List Q0},(∀ b∈l,b∈g.2.2/\a≠b)->∀ f∈Q04 a l,okF g f
 | [],_,f,hf=>by simp[Q04]at hf
 |b::r,h,f,hf=>by
  rcases List.mem_append.1 (show f∈M09 a b++Q04 a r from hf)with hf|hf
  ·have s:=j b (h b mS).1;have q:=j a m;have u:=(h b mS).2;obtain⟨c,n,d⟩:=a;obtain⟨e,p,i⟩:=b;simp only at q s;unfold M09 at hf;simp only at hf;by_cases c1:n=p
   ·have k : ¬ (c=e/\d=i):=λ⟨x,y⟩=>u (by rw[x,c1,y]);simp only[c1,decide_true,cT,List.mem_append]at hf;rcases hf with hf|hf
    ·by_cases c2:c=e;·simp only[c2,decide_true,cT,List.mem_singleton]at hf;subst hf;have:d≠i:=λy=>k ⟨c2,y⟩;unfold okF;simp only;split<;>split<;>omega
     simp[c2]at hf
    by_cases c2:d=i;·simp only[c2,decide_true,cT,List.mem_singleton]at hf;subst hf;have:c≠e:=λy=>k ⟨y,c2⟩;unfold okF;simp only;split<;>split<;>omega
    simp[c2]at hf
   simp[c1]at hf
  exact L0q j m (λo t=>h o (mC _ t)) f hf
theorem M0q{g:B0}(i:inG g):∀ {l:List Q0},(∀ b∈l,b∈g.2.2)->Asc X0 l->∀ f∈O9 l,okF g f
 | [],_,_,f,hf=>by simp[O9]at hf
 |a::r,h,d,f,hf=>by
  rcases List.mem_append.1 (show f∈Q04 a r++O9 r from hf)with hf|hf;·refine L0q i (h a mS) (λb c=>⟨h b (mC _ c),λe=>?_⟩) f hf;have:=(List.pairwise_cons.1 d).1 b c;rw[e,Q3.refl]at this;omega
  exact M0q i (λb c=>h b (mC _ c)) (List.pairwise_cons.1 d).2 f hf
def R06{g:B0}(a:W0 g):∀ f∈O9 g.2.2,okF g f:=by grind[O03,M0q]
def z03:Nat->B0->B0×List (Int×Int)
 |0,g=>(g,[])
 |n+1,g=>match O9 g.2.2 with
  | []=>(g,[])
  |f::_=>((z03 n (p04 g f)).1,f::(z03 n (p04 g f)).2)
def N8(g:B0):B0×List (Int×Int):=bif W0 g then z03 40 g else(g,[])
theorem M0i:∀(n:Nat) {g:B0},W0 g->W0 (z03 n g).1
 |0,g,h=>h
 |n+1,g,h=>by
  unfold z03;cases e:O9 g.2.2 with
  |nil=>exact h
  |cons f l=>exact M0i n (Z07 h (R06 h f oG))
theorem x0f:∀(n:Nat) {g:B0},W0 g->g.2.1<=(n:Int)+1->O9 (z03 n g).1.2.2 = []
 |0,g,h,a=>by
  cases e:O9 g.2.2 with
  |nil=>exact e
  |cons f l =>have:=R06 h f oG;grind[okF]
 |n+1,g,h,a=>by
  unfold z03;cases e:O9 g.2.2 with
  |nil=>exact e
  |cons f l=>exact x0f n (Z07 h (R06 h f oG)) (by show g.2.1-1<=_;omega)
def K0v(a b:Q0):M09 a b = []↔F06 a b=false:=by unfold M09 F06;cases decide (a.2.1=b.2.1)<;>cases decide (a.1=b.1)<;>cases decide (a.2.2=b.2.2)<;>simp
def i0n(a:Q0):∀ l,Q04 a l = []↔∀ b∈l,F06 a b=false
 | []=>by simp[Q04]
 |b::r=>by rw[Q04,List.append_eq_nil_iff,K0v,i0n a r];simp
def V0h:∀ l,O9 l = []↔l.Pairwise λa b=>F06 a b=false
 | []=>by simp[O9]
 |a::r=>by rw[O9,List.append_eq_nil_iff,i0n,V0h r,List.pairwise_cons]
theorem n09(g:B0):H0 g↔W0 g/\O9 g.2.2 = []:=by unfold H0;rw[(aE),Y0d,V0h]
def H02{g:B0}(h:W0 g):H0 (N8 g).1:=by have a:=(P2 h).2.2.1;grind[N8,n09,M0i,x0f]
end Go.Proofs.YthkpbcnhdhfifaaGreat
