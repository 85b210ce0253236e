/- Plain laws: graphs: degrees, equality, edges put in order, sorted edges, copies. Plain laws: what is joined with a vertex, by either road. Plain laws: the graph of some vertices in their order, by either road. Plain laws: the canonical order and the canonical graph, by either road. Plain laws: vertices that no loop needs, cores, names, libraries, by either road. Plain laws: names and libraries, by either road. Plain laws: an entry dropped from a library, by either road. -/
import Derived.Test.YthakcafglempaaaGreatPart24
import Derived.Test.YthakcafglempaaaGreatPart32
import Derived.Test.YthakcafglempaaaGreatH36
namespace Go.Proofs.YthakcafglempaaaGreat
set_option linter.all false
open Go.H
open IntKind (i64)
def y0f(v:Int)(e:O0):Nat:=(if e.1=v then 1 else 0)+(if e.2.2=v then 1 else 0)
def z03(v:Int):List O0->Nat
 | []=>0
 |e::r=>y0f v e+z03 v r
def A0x(v:Int)(e:O0):y0f v e<=2:=by unfold y0f;split<;>split<;>omega
theorem v0n(v:Int):∀ l,z03 v l<=2*l.length
 | []=>by simp[z03]
 |e::r=>by have:=A0x v e;have:=v0n v r;grind[z03,List.length_cons]
def w0j(es:List O0)(v:Int)(n:es.length<=1099511627776):∀(d k fuel acc:Nat),k+d=es.length->d<fuel->acc<=2*k -> H4 es v fuel (acc:Int) (k:Int)=some ((acc+z03 v (es.drop k):Nat):Int)
 |d,k,0,acc,i,hf,g=>oM
 |0,k,fuel+1,acc,i,hf,g=>by rw[H4.eq_2,iE (by simp;omega),D1 oM];rfl
 |d+1,k,fuel+1,acc,i,hf,g=>by
  have j:k<es.length:=oM;have c:=V3 j;generalize es[k]=e at c;obtain⟨a,l,b⟩:=e;have f:=λm h=>w0j es v n d (k+1) fuel m oM oM h;have w1:i64.wrap ((acc:Int)+1)=((acc+1:Nat):Int):=by grind[w64]
  have o:i64.wrap (((acc+1:Nat):Int)+1)=((acc+2:Nat):Int):=by grind[w64]
  rw[H4.eq_2,iP (by simp;omega),U1 c,I1 c];simp only[oB,z03,y0f,Z1 j (show es.length<=9223372036854775807 by omega)];by_cases c1:a=v
  ·rw[iP (by simpa using c1),iP c1];by_cases c2:b=v;·rw[iP (by simpa using c2),iP c2,w1,o,f _ oM];congr 2;omega
   rw[iE (by simpa using c2),iE c2,w1,f _ oM];congr 2;omega
  rw[iE (by simpa using c1),iE c1];by_cases c2:b=v;·rw[iP (by simpa using c2),iP c2,w1,f _ oM];congr 2;omega
  grind
theorem x0j(es:List O0)(v:Int):∀(fuel:Nat) (x y:Int),P6 es v fuel x y=H4 es v fuel x y
 |0,x,y=>rfl
 |fuel+1,x,y=>by
  rw[P6.eq_2,H4.eq_2];simp only[x0j es v fuel];by_cases c:(decide (y<((es.length:Nat):Int)))
  ·rw[iP c,iP c];cases hg:gi es y with
   |none=>rfl
   |some e=>grind
  grind
def R0l(g:j0)(v:Int)(a:g.2.2.length<=1099511627776):q02 g v=some ((z03 v g.2.2:Nat):Int):=by obtain⟨r,n,es⟩:=g;unfold q02;have h:=w0j es v a es.length 0 P0 0 oM (j1 (by simp only at a;omega)) (Nat.zero_le _);grind
def f0u(g:j0)(v:Int)(a:g.2.2.length<=1099511627776):M03 g v=some ((z03 v g.2.2:Nat):Int):=by have h:=R0l g v a;grind[M03,q02,x0j]
def V0b(g h:j0):Bool:=decide (g=h)
theorem j06(x y:O0):eqE x y↔x=y:=by simp[eqE]
def E0h(a b:List O0)(j:a.length=b.length)(i:a.length<=9223372036854775807):∀(d k fuel:Nat),k+d=a.length->d<fuel -> A2 a b fuel (k:Int)=some (if a.drop k=b.drop k then .inr ()else .inl false)
 |d,k,0,g,hf=>oM
 |0,k,fuel+1,g,hf=>by simp_all[A2.eq_2,iE,D1]
 |d+1,k,fuel+1,g,hf=>by have h:k<a.length:=oM;have l:k<b.length:=oM;have e:=V3 h;have f:=V3 l;generalize a[k]=x at e;generalize b[k]=y at f;have m:=E0h a b j i d (k+1) fuel oM oM;rw[A2.eq_2,iP (by simp;omega),U1 e,U1 f,I1 e,I1 f];simp only[oB,Z1 h i,m];by_cases c:x=y;all_goals simp_all[iE,eqE,Bool.eq_false_iff,j06,iP]
def h0r(a b:List O0)(d:a.length<=9223372036854775807):J4 a b=some (decide (a=b)):=by
 unfold J4;by_cases hab:a.length=b.length;·have h:=E0h a b hab d a.length 0 P0 oM (by unfold P0;omega);rw[iE (by simp;omega),show(0:Int)=((0:Nat):Int) from rfl,h,(dZ),(dZ)];by_cases c:a=b;all_goals simp_all[iP,w9,iE]
 rw[iP (by simp;omega)];congr 1;grind
def O0g(g h:j0)(b:g.2.2.length<=9223372036854775807):D9 g h=some (V0b g h):=by obtain⟨r,n,es⟩:=g;obtain⟨d,c,a⟩:=h;unfold D9 V0b;simp only[Prod.mk.injEq];by_cases c1:r=d<;>by_cases c2:n=c<;>simp[c1,c2,H1,O1,h0r es a b]
def S0l(a b:List O0)(j:a.length=b.length)(i:a.length<=9223372036854775807):∀(d k fuel:Nat),k+d=a.length->d<fuel -> V6 a b fuel (k:Int)=some (if a.drop k=b.drop k then .inr ()else .inl false)
 |d,k,0,g,hf=>oM
 |0,k,fuel+1,g,hf=>by simp_all[V6.eq_2,iE,D1]
 |d+1,k,fuel+1,g,hf=>by have h:k<a.length:=oM;have l:k<b.length:=oM;have e:=V3 h;have f:=V3 l;generalize a[k]=x at e;generalize b[k]=y at f;have m:=S0l a b j i d (k+1) fuel oM oM;rw[V6.eq_2,iP (by simp;omega),U1 e,U1 f,I1 e,I1 f];simp only[oB,Z1 h i,m];by_cases c:x=y;all_goals simp_all[iE,eqE,Bool.eq_false_iff,j06,iP]
def g0u(g h:j0)(b:g.2.2.length<=9223372036854775807):e02 g h=some (V0b g h):=by
 obtain⟨r,n,es⟩:=g;obtain⟨f,d,a⟩:=h;unfold e02 V0b;by_cases c1:r=f
 ·by_cases c2:n=d
  ·by_cases hab:es.length=a.length;·have h:=S0l es a hab b es.length 0 P0 oM (by grind[P0]);simp only[c1,c2,hab,decide_true,bT,zF,Prod.mk.injEq,true_and];rw[iE oS,show(0:Int)=((0:Nat):Int) from rfl,h,(dZ),(dZ)];by_cases c:es=a;all_goals simp_all[iP,w9,iE]
   have j : ¬ es=a:=λe=>hab (by rw[e]);have i:decide (((es.length:Nat):Int)=((a.length:Nat):Int))=false:=dF oM;simp_all
  simp[c1,c2]
 simp[c1]
def goE(x:O0):List O0->Bool×List O0
 | []=>(false,[])
 |y::l=>if V0 x y<0 then(true,x::y::l)else if V0 x y=0 then(true,y::l)else((goE x l).1,y::(goE x l).2)
def A0s(x:O0):∀ l,a02 V0 x l=bif(goE x l).1 then(goE x l).2 else(goE x l).2 ++ [x]
 | []=>rfl
 |y::l=>by have a:=A0s x l;unfold a02 goE;grind
def P0g(l:List O0)(w0 w1 i:Int)(m:l.length<=1099511627776):∀(d k fuel:Nat) (acc:List O0),k+d=l.length->d<fuel->acc.length<=k+1 -> H5 l w0 w1 i fuel true (k:Int) acc=some (true,acc++l.drop k)
 |d,k,0,acc,g,hf,f=>oM
 |0,k,fuel+1,acc,g,hf,f=>by rw[H5.eq_2,iE (by simp;omega),D1 oM,List.append_nil]
 |d+1,k,fuel+1,acc,g,hf,f=>by
  have h:k<l.length:=oM;have c:=V3 h;generalize l[k]=e at c;obtain⟨a,x,b⟩:=e;have n:=P0g l w0 w1 i m d (k+1) fuel (acc ++ [(a,x,b)]) oM oM (by simp;omega);rw[H5.eq_2,iP (by simp;omega),I1 c];simp only[U1 c,oB,C05,C0 (z0i _ _),Z1 h (show l.length<=9223372036854775807 by omega),bT];have j:∀ b:Bool,(bif b then false else false)=false:=λb=>by cases b<;>rfl
  simp only[j,fT,if_false];grind[C0]
def y0j(l:List O0)(w0 w1 c:Int)(g:l.length<=1099511627776):∀(d k fuel:Nat) (acc:List O0),k+d=l.length->d<fuel->acc.length=k -> H5 l w0 w1 c fuel false (k:Int) acc=some ((goE (w0,w1,c) (l.drop k)).1,acc++(goE (w0,w1,c) (l.drop k)).2)
 |d,k,0,acc,i,hf,h=>oM
 |0,k,fuel+1,acc,i,hf,h=>by simp_all[H5.eq_2,iE,D1,goE]
 |d+1,k,fuel+1,acc,i,hf,h=>by
  have j:k<l.length:=oM;have f:=V3 j;generalize l[k]=e at f;obtain⟨a,x,b⟩:=e;have m:=y0j l w0 w1 c g d (k+1) fuel (acc ++ [(a,x,b)]) oM oM (by simp;omega);have o:=P0g l w0 w1 c g d (k+1) fuel (acc ++ [(a,x,b)]) oM oM (by simp;omega);have n:=P0g l w0 w1 c g d (k+1) fuel ((acc ++ [(w0,w1,c)]) ++ [(a,x,b)]) oM oM (by simp;omega);rw[H5.eq_2,iP (by simp;omega),I1 f];simp only[U1 f,oB,C05,C0 (z0i _ _),Z1 j (show l.length<=9223372036854775807 by omega),bT,bF,goE];show _=_;unfold o0j;by_cases c1:V0 (w0,w1,c) (a,x,b)=0;·rw[iP (by simpa using c1),iE (by simp[c1]),iE oM,iP c1];grind[C0]
  rw[iE (by simpa using c1)];by_cases c2:V0 (w0,w1,c) (a,x,b)<0;·rw[iP (by simp[c2]),iP c2,C0 (by simp;omega),oB,C0 (by simp;omega),oB,n];simp
  rw[iE (by simp[c2]),iE c2,iE c1,C0 (by simp;omega),oB,m];simp
theorem R07(l:List O0)(e:O0)(b:l.length<=1099511627776):C8 l e=some (a02 V0 e l):=by
 obtain⟨w0,w1,a⟩:=e
 unfold C8
 have h:=y0j l w0 w1 a b l.length 0 P0 [] (by omega) (j1 (by omega)) rfl
 rw[show((0:Nat):Int)=0 from rfl,List.drop_zero,List.nil_append]at h
 simp only[h,oB,A0s]
 have c:∀ l:List O0,(goE (w0,w1,a) l).2.length<=l.length+1:=λl=>by
  induction l with
  |nil=>simp[goE]
  |cons y l d =>
   grind[goE,List.length_cons]
 have:=c l
 cases (goE (w0,w1,a) l).1 with
 |true=>rfl
 |false =>
  simp only[Bool.not_false,if_true,cond_false]
  rw[C0 (by simp;omega),oB]
theorem Y09(e:O0):∀ l:List O0,(a02 V0 e l).length<=l.length+1
 | []=>by simp[a02]
 |y::l=>by
  have:=Y09 e l
  grind[a02,List.length_cons]
def W0b(es:List O0)(a:es.length<=1099511627776):X00 es=some (L4 V0 [] es):=by unfold X00;rw[C0 (by simp;omega),oB,C0 (by simp;omega),oB,(nA)];exact congrArg some (c0p j4 j06 es es λ_=>Iff.rfl)
def s04(g:j0)(a:g.2.2.length<=1099511627776):p5 g=some g:=by obtain⟨r,n,es⟩:=g;unfold p5;simp only;rw[C0 oG];rfl
theorem N00(g:j0)(a:g.2.2.length<=1099511627776):R3 g=some g:=by obtain⟨r,n,es⟩:=g;unfold R3;simp only;rw[C0 oG];rfl
inductive Rch (es:List O0) (v:Int):Int->Prop
 |base:Rch es v v
 |fwd {e:O0}:e∈es->Rch es v e.1->Rch es v e.2.2
 |bwd {e:O0}:e∈es->Rch es v e.2.2->Rch es v e.1
theorem Rch.closed{es:List O0}{v:Int}:∀ e∈es,Rch es v e.1↔Rch es v e.2.2:=λe a=>⟨.fwd a,.bwd a⟩
def Rch.sub{es:List O0}{v:Int}{P:Int->Prop}(c:P v)(a:∀ e∈es,P e.1↔P e.2.2):∀ {x},Rch es v x->P x
 |_,.base=>c
 |_,.fwd b h=>(a _ b).1 (Rch.sub c a h)
 |_,.bwd b h=>(a _ b).2 (Rch.sub c a h)
def M02(S:List Bool)(i:Int):Bool:=S.getD i.toNat false
def stJ(S:List Bool)(e:O0):List Bool:=(S.set e.1.toNat true).set e.2.2.toNat true
def pJ:List O0->Bool->List Bool->Bool×List Bool
 | [],c,S=>(c,S)
 |e::r,c,S=>bif M02 S e.1 == M02 S e.2.2 then pJ r c S else pJ r true (stJ S e)
def cF:List Bool->Nat
 | []=>0
 |b::r=>(bif b then 0 else 1)+cF r
theorem i0r:∀(S:List Bool) (i:Nat),cF (S.set i true)<=cF S
 | [],i=>by simp[cF]
 |b::r,0=>by simp[cF]
 |b::r,i+1=>by have:=i0r r i;grind[cF]
def F0v:∀(S:List Bool) (i:Nat),S[i]?=some false->cF (S.set i true)<cF S
 | [],i,h=>by simp at h
 |b::r,0,h=>by grind[cF]
 |b::r,i+1,h=>by have:=F0v r i (by simpa using h);simp_all[List.set_cons_succ,cF]
theorem s0y:∀ S:List Bool,cF S<=S.length
 | []=>by simp[cF]
 |b::r=>by have:=s0y r;cases b<;>simp only[cF,lC,cT,zF]<;>omega
def inN(n:Nat)(es:List O0):Prop:=∀ e∈es,(0<=e.1/\e.1<(n:Int))/\(0<=e.2.2/\e.2.2<(n:Int))
theorem z0f{S:List Bool}{i:Nat}(h:i<S.length)(x:Int):M02 (S.set i true) x=(decide (x.toNat=i) || M02 S x):=by unfold M02;grind
def j0r:∀(es:List O0) (c:Bool) (S:List Bool),(pJ es c S).2.length=S.length
 | [],c,S=>rfl
 |e::r,c,S=>by
  unfold pJ;cases M02 S e.1 == M02 S e.2.2;·simp only[zF];rw[j0r r];simp[stJ]
  simp only[cT];exact j0r r c S
def w0n{n:Nat}:∀(es:List O0) (c:Bool) (a:List Bool),a.length=n->inN n es->∀ x,M02 a x->M02 (pJ es c a).2 x
 | [],c,a,b,d,x,h=>h
 |e::r,c,a,b,d,x,h=>by
  have f:=d e mS;have g:inN n r:=λe f=>d e (mC _ f);unfold pJ;cases M02 a e.1 == M02 a e.2.2;·simp only[zF];refine w0n r _ _ (by simp[stJ,b]) g x ?_;grind[stJ,z0f,List.length_set]
  simp only[cT];exact w0n r c a b g x h
def z0j{n:Nat}{P:Int->Prop}:∀(es:List O0) (c:Bool) (a:List Bool),a.length=n->inN n es->(∀ e∈es,P e.1↔P e.2.2)->(∀ x,0<=x->M02 a x->P x)->∀ x,0<=x->M02 (pJ es c a).2 x->P x
 | [],c,a,f,g,d,i,x,h0,h=>i x h0 h
 |e::r,c,a,f,g,d,i,x,h0,h=>by
  have b:=g e mS;have k:inN n r:=λe b=>g e (mC _ b);have j:=λe b=>d e (mC _ b);have l:=d e mS;unfold pJ at h;cases hb:M02 a e.1 == M02 a e.2.2;·rw[hb]at h;refine z0j r true (stJ a e) (by simp[stJ,f]) k j (λy m h=>?_) x h0 h;rw[stJ,z0f oG,z0f oM]at h;grind
  rw[hb]at h;exact z0j r c a f k j i x h0 h
theorem k0r{n:Nat}:∀(es:List O0) (c:Bool) (a:List Bool),a.length=n->inN n es->cF (pJ es c a).2<=cF a/\((pJ es c a).1=true->c=true∨cF (pJ es c a).2<cF a)/\((pJ es c a).1=false->c=false/\(pJ es c a).2=a/\∀ e∈es,M02 a e.1=M02 a e.2.2)
 | [],c,a,d,f=>⟨Nat.le_refl _,λh => .inl h,λh=>⟨h,rfl,λe b=>nomatch b⟩⟩
 |e::r,c,a,d,f=>by
  have b:=f e mS
  have i:inN n r:=λe b=>f e (mC _ b)
  unfold pJ
  cases hb:M02 a e.1 == M02 a e.2.2
  ·simp only[cond_false]
   obtain⟨k,l,m⟩:=k0r r true (stJ a e) (by simp[stJ,d]) i
   have q:cF (stJ a e)<cF a:=by
    have g:∀(x:Int),0<=x->x<n->M02 a x=false->a[x.toNat]?=some false:=λx s t p=>by
     grind[M02,List.getElem?_eq_getElem]
    cases g1:M02 a e.1
    ·have:=F0v a _ (g _ b.1.1 b.1.2 g1)
     grind[i0r,stJ]
    ·have o:M02 a e.2.2=false:=by
      grind
     have j:(a.set e.1.toNat true)[e.2.2.toNat]?=some false:=by
      grind
     have:=F0v _ _ j
     grind[i0r,stJ]
   grind
  ·simp only[cond_true]
   obtain⟨k,l,m⟩:=k0r r c a d i
   grind
theorem giB{a:List Bool}{n:Nat}(c:a.length=n){x:Int}(h0:0<=x)(b:x<n):gi a x=some (M02 a x):=by
 grind[gi,M02,J0g,List.getElem?_eq_getElem]
def T0l(es:List O0){n:Nat}(q:inN n es)(p:es.length<=9223372036854775807):∀(d k fuel:Nat) (c:Bool) (f:List Bool),f.length=n->k+d=es.length->d<fuel -> d5 es fuel c (k:Int) f=some (pJ (es.drop k) c f)
 |d,k,0,c,f,i,m,hf=>oM
 |0,k,fuel+1,c,f,i,m,hf=>by rw[d5.eq_2,iE (by simp;omega),D1 oM];rfl
 |d+1,k,fuel+1,c,f,i,m,hf=>by
  have o:k<es.length:=oM;have j:=V3 o;have g:=q _ (mG j);generalize es[k]=e at j g;obtain⟨a,l,b⟩:=e;have u:=λt s h=>T0l es q p d (k+1) fuel t s h oM oM;rw[d5.eq_2,iP (by simp;omega),I1 j];simp only[U1 j,oB,giB i g.1.1 g.1.2,giB i g.2.1 g.2.2,Z1 o p,giB (show(f.set a.toNat true).length=n by simp[i]) g.2.1 g.2.2,pJ];cases hb:M02 f a == M02 f b;·simp only[bF,if_true,zF];exact u _ _ (by simp[i])
  grind
def U0l(es:List O0){n:Nat}(f:inN n es)(w:es.length<=9223372036854775806):∀(m fuel:Nat) (a:List Bool),a.length=n->cF a<=m->m+1<fuel ->
  ∃ b,o6 es fuel true a=some b/\b.length=n/\(∀ x,M02 a x->M02 b x)/\(∀ e∈es,M02 b e.1=M02 b e.2.2) /\
   ∀ P:Int->Prop,(∀ e∈es,P e.1↔P e.2.2)->(∀ x,0<=x->M02 a x->P x)->∀ x,0<=x->M02 b x->P x
 |m,0,a,d,z,hf=>oM
 |m,fuel+1,a,d,z,hf=>by
  have h0:=T0l es f oM es.length 0 P0 false a d oM (by unfold P0;omega)
  rw[show((0:Nat):Int)=0 from rfl,(dZ)]at h0
  obtain⟨o,g,i⟩:=k0r es false a d f
  have y:=j0r es false a
  rw[o6.eq_2,iP rfl,h0,oB]
  have k:=w0n es false a d f
  have l:=λP=>z0j (P:=P) es false a d f
  generalize pJ es false a=q at *
  obtain⟨c,b⟩:=q
  simp only at o g i y k l ⊢
  cases c with
  |true =>
   rcases g rfl with h|h
   ·cases h
   ·obtain⟨S2,p,s,t,u,v⟩:=U0l es f w (m-1) fuel b oM oM oM
    exact⟨S2,p,s,λx C=>t x (k x C),u,λP j A=>v P j (l P j A)⟩
  |false =>
   obtain⟨_,e,D⟩:=i rfl
   subst e
   obtain _|fuel:=fuel
   ·omega
   ·rw[o6.eq_2,iE oS]
    grind
def k0p(r:Int)(n:Nat)(es:List O0)(p:inN n es)(o:es.length<=9223372036854775806)(s:1<=n)(t:n<=140737488355328): ∃ a,F01 (r,(n:Int),es) 0=some a/\a.length=n/\∀ x,0<=x->x<(n:Int)->(M02 a x↔Rch es 0 x):=by
 unfold F01;simp only[iN];have m:gi (List.replicate n (false:Bool)) 0=some false:=by rw[j0e (x:=false)];rw[List.getElem?_replicate,iP oM]
 rw[C0 oM,oB,m,oB];have k:((List.replicate n (false:Bool)).set (0:Int).toNat true).length=n:=oS;obtain⟨b,d,f,g,i,j⟩:=U0l es p o n P0 _ k (by grind[s0y,List.replicate,set]) (by unfold P0;omega);rw[d];have c:∀ x,M02 ((List.replicate n (false:Bool)).set (0:Int).toNat true) x=decide (x.toNat=0):=λx=>by grind[z0f,M02,List.replicate]
 refine⟨b,rfl,f,λx h0 q=>⟨λh=>?_,λh=>?_⟩⟩
 ·refine j (Rch es 0) Rch.closed (λy u h=>?_) x h0 h;rw[c]at h;have:y=0:=by simp at h;omega
  subst this;exact .base
 exact Rch.sub (P:=λx=>M02 b x) (g 0 (by rw[c];rfl)) (λe l=>by rw[i e l]) h
def t0y(l:List Int)(w:Int)(e:l.length<=9223372036854775807):∀(d k fuel:Nat),k+d=l.length->d<fuel -> h01 l w fuel (k:Int)=some (if w∈l.drop k then .inl true else .inr ())
 |d,k,0,b,hf=>oM
 |0,k,fuel+1,b,hf=>by simp_all[h01.eq_2,iE,D1]
 |d+1,k,fuel+1,b,hf=>by have c:k<l.length:=oM;have a:=V3 c;generalize l[k]=x at a;have f:=t0y l w e d (k+1) fuel oM oM;rw[h01.eq_2,iP (by simp;omega),I1 a];simp only[U1 a,oB,Z1 c e,f,mE];grind
def S0c(l:List Int)(w:Int)(a:l.length<=9223372036854775807):W00 l w=some (decide (w∈l)):=by unfold W00;have h:=t0y l w a l.length 0 P0 oM (by unfold P0;omega);rw[show((0:Nat):Int)=0 from rfl,(dZ)]at h;rw[h,oB];by_cases c:w∈l;all_goals simp_all[iP,w9,iE]
def s1(u:List Int)(e:O0):List Int:=if e.1∈u then a02 H01 e.2.2 u else u
def s2(u:List Int)(e:O0):List Int:=if e.2.2∈u then a02 H01 e.1 u else u
def pS:List O0->List Int->List Int
 | [],u=>u
 |e::r,u=>pS r (s2 (s1 u e) e)
theorem A0j{u:List Int}{e:O0}{x:Int}:x∈s1 u e↔x∈u∨(e.1∈u/\x=e.2.2):=by grind[s1,R0b,d05,absurd]
theorem B0j{u:List Int}{e:O0}{x:Int}:x∈s2 u e↔x∈u∨(e.2.2∈u/\x=e.1):=by grind[s2,R0b,d05,absurd]
theorem G0v(u:List Int)(e:O0):(s1 u e).length<=u.length+1:=by grind[s1,X09]
theorem H0v(u:List Int)(e:O0):(s2 u e).length<=u.length+1:=by grind[s2,X09]
theorem l0r:∀(es:List O0) (u:List Int),(pS es u).length<=u.length+2*es.length
 | [],u=>by simp[pS]
 |e::r,u=>by
  have:=l0r r (s2 (s1 u e) e)
  grind[H0v,s1,G0v,pS,List.length_cons]
theorem A0f:∀(es:List O0) (u:List Int) (x:Int),x∈u->x∈pS es u
 | [],u,x,h=>h
 |e::r,u,x,h=>A0f r _ x (B0j.2 (.inl (A0j.2 (.inl h))))
def C0j{P:Int->Prop}:∀(es:List O0) (u:List Int),(∀ e∈es,P e.1↔P e.2.2)->(∀ x∈u,P x)->∀ x∈pS es u,P x
 | [],u,a,b=>b
 |e::r,u,a,b=>C0j r _ (λe c=>a e (mC _ c)) λx d=>by grind[List.mem_cons_self,s1,A0j,B0j]
def l0p:∀(es:List O0) (u:List Int) (e:O0),e∈es->e.1∈u∨e.2.2∈u->e.1∈pS es u/\e.2.2∈pS es u
 |b::r,u,e,a,h=>by
  simp only[pS];rcases mE.1 a with rfl|a;·grind[s1,A0j,A0f,B0j]
  exact l0p r _ e a (h.imp (λh=>B0j.2 (.inl (A0j.2 (.inl h)))) λh=>B0j.2 (.inl (A0j.2 (.inl h))))
def act(es:List O0)(u:List Int):Nat:=es.countP λe=>decide (e.1∈u)&&decide (e.2.2∈u)
def clo(es:List O0)(u:List Int):Prop:=∀ e∈es,e.1∈u↔e.2.2∈u
theorem n0z(es:List O0)(u:List Int):act es u<=es.length:=List.countP_le_length
def V0l{c:Type}{p q:c->Bool}:∀ {l:List c},(∀ x∈l,p x->q x)->(∃ x∈l,p x=false/\q x)->l.countP p<l.countP q
 | [],_,⟨x,a,_⟩=>nomatch a
 |y::l,h,⟨x,a,d,e⟩=>by
  have f:l.countP p<=l.countP q:=List.countP_mono_left λz b=>h z (mC _ b);rcases mE.1 a with rfl|a;·grind
  have g:=V0l (l:=l) (λz b=>h z (mC _ b)) ⟨x,a,d,e⟩;grind
def B0f{es:List O0}{u:List Int}(h:clo es u)(x:Int):x∈pS es u↔x∈u :=
 ⟨C0j (P:=λx=>x∈u) es u h (λ_ h=>h) x,A0f es u x⟩
def I0v{es:List O0}{u:List Int}:clo es (pS es u)∨act es u<act es (pS es u):=by
 by_cases h:clo es u;·left;intro e a;rw[B0f h,B0f h];exact h e a
 right;have:∃ e∈es,¬ (e.1∈u↔e.2.2∈u):=by refine Classical.byContradiction λb=>h λe a=>?_;grind
 obtain⟨e,a,c⟩:=this;refine V0l (λx f h=>?_) ⟨e,a,?_,?_⟩;·simp_all[aE,dE,A0f]
 ·grind
 have d:e.1∈u∨e.2.2∈u:=by grind
 simp_all[l0p,aE,dE]
def itS(es:List O0):Nat->List Int->List Int
 |0,u=>u
 |j+1,u=>itS es j (pS es u)
def B0s(es:List O0):∀(j:Nat) (u:List Int),(itS es j u).length<=u.length+j*(2*es.length)
 |0,u=>by simp[itS]
 |j+1,u=>by have:=B0s es j (pS es u);have:=l0r es u;simp only[itS,Nat.add_mul,Nat.one_mul];omega
def C0s(es:List O0):∀(j:Nat) (u:List Int),clo es u->clo es (itS es j u)
 |0,u,h=>h
 |j+1,u,h=>C0s es j _ λe a=>by rw[B0f h,B0f h];exact h e a
theorem D0s(es:List O0):∀(j:Nat) (u:List Int),clo es (itS es j u)∨act es u+j<=act es (itS es j u)
 |0,u => .inr (Nat.le_refl _)
 |j+1,u=>by
  rcases I0v (es:=es) (u:=u)with h|h;·exact .inl (C0s es j _ h)
  rcases D0s es j (pS es u)with a|a;all_goals grind[itS]
def m0p(es:List O0):∀(j:Nat) (u:List Int) (x:Int),x∈u->x∈itS es j u
 |0,u,x,h=>h
 |j+1,u,x,h=>m0p es j _ x (A0f es u x h)
def W0l{P:Int->Prop}(es:List O0)(b:∀ e∈es,P e.1↔P e.2.2):∀(j:Nat) (u:List Int),(∀ x∈u,P x)->∀ x∈itS es j u,P x
 |0,u,a=>a
 |j+1,u,a=>W0l es b j _ (C0j es u b a)
theorem k06(es:List O0)(v x:Int):x∈itS es (es.length+1) [v]↔Rch es v x:=by
 constructor;·exact W0l (P:=Rch es v) es Rch.closed _ _ (λy a=>by simp at a;subst a;exact .base) x
 have b:clo es (itS es (es.length+1) [v]):=by grind[D0s,n0z,itS]
 exact Rch.sub (P:=λx=>x∈itS es (es.length+1) [v]) (m0p _ _ _ _ oS) b
def D0j(es:List O0)(o:es.length<=9223372036854775807):∀(d k fuel:Nat) (u:List Int),k+d=es.length->d<fuel->u.length+2*d<=1099511627776 -> E4 es fuel u (k:Int)=some (pS (es.drop k) u)
 |d,k,0,u,m,hf,p=>oM
 |0,k,fuel+1,u,m,hf,p=>by rw[E4.eq_2,iE (by simp;omega),D1 oM];rfl
 |d+1,k,fuel+1,u,m,hf,p=>by
  have n:k<es.length:=oM;have i:=V3 n;generalize es[k]=e at i;obtain⟨a,l,b⟩:=e;have t:=λs h=>D0j es o d (k+1) fuel s oM oM h;have q:=G0v u (a,l,b);have j:=H0v (s1 u (a,l,b)) (a,l,b);rw[E4.eq_2,iP (by simp;omega),I1 i];simp only[U1 i,oB,S0c u _ oM,Z1 n o,pS];by_cases c:a∈u
  ·rw[iP (by simpa using c),r0f _ _ oM,oB];have f:s1 u (a,l,b)=a02 H01 b u:=iP c;rw[f]at q j ⊢;rw[S0c _ _ oM,oB];by_cases c2:b∈a02 H01 b u;·rw[iP (by simpa using c2),r0f _ _ oM,oB];have g:s2 (a02 H01 b u) (a,l,b)=a02 H01 a (a02 H01 b u):=iP c2;grind
   rw[iE (by simpa using c2)];have g:s2 (a02 H01 b u) (a,l,b)=a02 H01 b u:=iE c2;grind
  rw[iE (by simpa using c)];have f:s1 u (a,l,b)=u:=iE c;rw[f]at j ⊢;by_cases c2:b∈u;·rw[iP (by simpa using c2),r0f _ _ oM,oB];have g:s2 u (a,l,b)=a02 H01 a u:=iP c2;grind
  rw[iE (by simpa using c2)];have g:s2 u (a,l,b)=u:=iE c2;grind
def E0j(es:List O0)(c:es.length<=120):∀(d k fuel:Nat) (u:List Int),k+d=es.length+1->d<fuel->u.length<=1+k*240 -> W6 es fuel u (k:Int)=some (itS es d u)
 |d,k,0,u,a,hf,b=>oM
 |0,k,fuel+1,u,a,hf,b=>by rw[W6.eq_2,iE (by grind[w64])];rfl
 |d+1,k,fuel+1,u,a,hf,b=>by have h0:=D0j es oM es.length 0 P0 u oM (j1 oM) oM;rw[show((0:Nat):Int)=0 from rfl,(dZ)]at h0;have e:=E0j es c d (k+1) fuel (pS es u) oM oM (by grind[l0r]);rw[W6.eq_2,iP (by grind[w64]),h0,oB,Z1 (show k<1000 by omega) oM,e];rfl
def getI(P:List Int)(v:Int):Int:=P.getD v.toNat (-1)
def A03:List Int->Nat->List Int->List Int
 |A,k,[]=>A
 |A,k,v::r=>A03 (A.set v.toNat (k:Int)) (k+1) r
def plc(n:Nat)(o:List Int):List Int:=A03 (List.replicate n (-1)) 0 o
theorem F0j:∀(o:List Int) (k:Nat) (A:List Int),(A03 A k o).length=A.length
 | [],k,A=>rfl
 |v::r,k,A=>by rw[A03,F0j r];simp
def inV(n:Nat)(o:List Int):Prop:=∀ v∈o,0<=v/\v<(n:Int)
theorem giI{P:List Int}{n:Nat}(b:P.length=n){x:Int}(h0:0<=x)(a:x<n):gi P x=some (getI P x):=by
 grind[gi,getI,J0g,List.getElem?_eq_getElem]
def j07{A:List Int}{v x:Int}{y:Int}(h0:0<=v)(a:v.toNat<A.length)(b:0<=x):getI (A.set v.toNat y) x=if x=v then y else getI A x:=by unfold getI;grind
theorem C0f{n:Nat}:∀(o:List Int) (k:Nat) (A:List Int),A.length=n->inV n o->(∀ x,0<=x -> -1<=getI A x/\getI A x<(k:Int))->∀ x,0<=x -> -1<=getI (A03 A k o) x/\getI (A03 A k o) x<((k+o.length:Nat):Int)
 | [],k,A,c,a,h,x,b=>h x b
 |v::r,k,A,c,a,h,x,b=>by
  have e:=a v mS
  have:=C0f r (k+1) (A.set v.toNat (k:Int)) (by simp[c]) (λw f=>a w (mC _ f)) (λy d=>by
   rw[j07 e.1 (by omega) d]
   have:=h y d
   split<;>omega) x b
  grind[A03,List.length_cons]
theorem X0b(n:Nat)(x:Int):getI (List.replicate n (-1)) x = -1:=by unfold getI;rw[List.getD_eq_getElem?_getD,List.getElem?_replicate];split<;>rfl
def T0c{n:Nat}{o:List Int}(b:inV n o){x:Int}(a:0<=x): -1<=getI (plc n o) x/\getI (plc n o) x<(o.length:Int):=by have:=C0f o 0 (List.replicate n (-1)) oS b (λx a=>by rw[X0b];omega) x a;rw[Nat.zero_add]at this;exact this
def E0s(n:Nat)(o:List Int):(plc n o).length=n:=by grind[plc,F0j]
def pE(P:List Int):List O0->List O0
 | []=>[]
 |e::r=>bif decide (0<=getI P e.1)&&decide (0<=getI P e.2.2)then(getI P e.1,e.2.1,getI P e.2.2)::pE P r else pE P r
theorem x0n(P:List Int):∀ es,(pE P es).length<=es.length
 | []=>by simp[pE]
 |e::r=>by have:=x0n P r;unfold pE;cases decide (0<=getI P e.1)&&decide (0<=getI P e.2.2)<;>simp only[cT,zF,lC]<;>omega
def u0y{n:Nat}{o:List Int}(f:inV n o):∀(es:List O0),inN n es->inN o.length (pE (plc n o) es)
 | [],c=>λe a=>nomatch a
 |e::r,c=>by
  have g:=u0y f r λe a=>c e (mC _ a);have a:=c e mS;unfold pE;cases hb:decide (0<=getI (plc n o) e.1)&&decide (0<=getI (plc n o) e.2.2);·grind
  simp only[cT];simp only[aE,dE]at hb;intro d b;rcases mE.1 b with rfl|b;·simp_all[T0c]
  exact g d b
def L7(g:j0)(o:List Int):j0:=(g.1,(o.length:Int),L4 V0 [] (pE (plc g.2.1.toNat o) g.2.2))
theorem O01:∀(r l:List O0),(L4 V0 l r).length<=l.length+r.length
 | [],l=>by simp[L4]
 |e::r,l=>by have:=O01 r (a02 V0 e l);grind[Y09,L4,List.length_cons]
theorem l0e(g:j0)(o:List Int):(L7 g o).2.2.length<=g.2.2.length:=by
 have:=O01 (pE (plc g.2.1.toNat o) g.2.2) []
 grind[x0n,plc,L7,List.length_nil]
def X0l{n:Nat}{r:Int}{es:List O0}{o:List Int}(c:inV n o)(b:inN n es):inN o.length (L7 (r,(n:Int),es) o).2.2:=by
 intro e a;simp only[L7,iN]at a;rcases(C5 j4 e _ _).1 a with h|h;·cases h
 exact u0y c es b e h
def F0s(n:Nat)(c:n<=140737488355328):∀(d k fuel:Nat),k+d=n->d<fuel -> N01 n fuel (k:Int) (List.replicate k (-1)++List.replicate d 0)=some (List.replicate n (-1))
 |d,k,0,a,hf=>oM
 |0,k,fuel+1,a,hf=>by simp_all[N01.eq_2,iE]
 |d+1,k,fuel+1,a,hf=>by
  have b:gi (List.replicate k (-1)++List.replicate (d+1) (0:Int)) (k:Int)=some 0:=by simp_all[J0g,List.getElem?_append_right]
  have f:=F0s n c d (k+1) fuel oM oM;rw[N01.eq_2,iP (by simp;omega),b,oB,Z1 (show k<n by omega) oM,(iN)];have e:(List.replicate k (-1)++List.replicate (d+1) (0:Int)).set k (-1)=List.replicate (k+1) (-1)++List.replicate d 0:=by rw[List.set_append_right _ _ oS,List.length_replicate,Nat.sub_self,List.replicate_succ,List.set_cons_zero,List.replicate_succ'];simp
  rw[e,f]
def G0s(o:List Int){n:Nat}(h:inV n o)(g:o.length<=9223372036854775807):∀(d k fuel:Nat) (A:List Int),A.length=n->k+d=o.length->d<fuel -> M01 o fuel (k:Int) A=some (A03 A k (o.drop k))
 |d,k,0,A,a,e,hf=>oM
 |0,k,fuel+1,A,a,e,hf=>by rw[M01.eq_2,iE (by simp;omega),D1 oM];rfl
 |d+1,k,fuel+1,A,a,e,hf=>by have f:k<o.length:=oM;have b:=V3 f;have c:=h _ (mG b);generalize o[k]=v at b c;have i:=G0s o h g d (k+1) fuel (A.set v.toNat (k:Int)) (by simp[a]) oM oM;rw[M01.eq_2,iP (by simp;omega),I1 b,U1 b,oB,giI a c.1 c.2,oB,Z1 f g,i];rfl
def H0s(es:List O0){n:Nat}(p:inN n es)(t:es.length<=1099511627776)(P:List Int)(g:P.length=n)(r m:Int):∀(d k fuel:Nat) (acc:List O0),k+d=es.length->d<fuel->acc.length<=k -> Y00 es P fuel (k:Int) r m acc=some (r,m,acc++pE P (es.drop k))
 |d,k,0,acc,j,hf,i=>oM
 |0,k,fuel+1,acc,j,hf,i=>by simp_all[Y00.eq_2,iE,D1,pE]
 |d+1,k,fuel+1,acc,j,hf,i=>by
  have o:k<es.length:=oM;have f:=V3 o;have c:=p _ (mG f);generalize es[k]=e at f c;obtain⟨a,l,b⟩:=e;have q:=λs h=>H0s es p t P g r m d (k+1) fuel s oM oM h;rw[Y00.eq_2,iP (by simp;omega),I1 f];simp only[U1 f,oB,giI g c.1.1 c.1.2,giI g c.2.1 c.2.2,Z1 o (show es.length<=9223372036854775807 by omega),pE];by_cases c1:0<=getI P a
  ·simp only[show decide (getI P a ≥ 0)=true by simpa using c1,H1,oB,cT,show decide (0<=getI P a)=true by simpa using c1,Bool.true_and];by_cases c2:0<=getI P b;·rw[iP (by simpa using c2),C0 (by simp;omega),oB,q _ (by simp;omega)];simp[c2]
   grind
  simp only[show decide (getI P a ≥ 0)=false by simpa using c1,O1,oB,zF,show decide (0<=getI P a)=false by simpa using c1,Bool.false_and];rw[iE oS,q _ oM]
def m0r(r:Int)(n:Nat)(es:List O0)(o:List Int)(d:inN n es)(e:inV n o)(g:n<=1000000)(c:es.length<=1099511627776)(f:o.length<=1099511627776): Q05 (r,(n:Int),es) o=some (L7 (r,(n:Int),es) o):=by unfold Q05;have b:=F0s n oM n 0 P0 oM (j1 oM);have a:=G0s o e oM o.length 0 P0 (List.replicate n (-1)) oS oM (j1 oM);have h0:=H0s es d c (plc n o) (E0s n o) r ((o.length:Nat):Int) es.length 0 P0 [] oM (j1 oM) (Nat.le_refl _);rw[show((0:Nat):Int)=0 from rfl]at h0 a b;rw[List.replicate_zero,(nA)]at b;rw[(dZ)]at a;rw[(dZ),(nA)]at h0;simp only[iN];rw[C0 oM,oB,oB,List.length_replicate,C0 oM,oB,b,oB,a,oB];rw[show A03 (List.replicate n (-1)) 0 o=plc n o from rfl,h0];simp only[oB];rw[W0b _ (by grind[x0n,plc]),oB];rfl
def J0v(A:List Int)(i k:Nat):(A.map (·+1)).set i (((k+1:Nat):Int))=(A.set i (k:Int)).map (·+1):=by rw[List.map_set];rfl
theorem G0j{A:List Int}{n:Nat}(c:A.length=n){x:Int}(h0:0<=x)(a:x<n):gi (A.map (·+1)) x=some (getI A x+1):=by
 have d:x.toNat<A.length:=by omega
 have e:x=((x.toNat:Nat):Int):=by omega
 have b:gi (A.map (·+1)) ((x.toNat:Nat):Int)=some (getI A x+1):=by
  grind[J0g,List.getElem?_eq_getElem,getI]
 grind
def H0j{n:Nat}:∀(o:List Int) (k:Nat) (A:List Int) (x:Int),A.length=n->inV n o->0<=x->x ∉ o->getI (A03 A k o) x=getI A x
 | [],k,A,x,c,a,b,h=>rfl
 |v::r,k,A,x,c,a,b,h=>by have f:=a v mS;rw[A03,H0j r _ _ x (by simp[c]) (λw g=>a w (mC _ g)) b (λd=>h (mC _ d)),j07 f.1 oM b,iE (λe=>h oG)]
def K0v(r:Int)(n:Nat)(es:List O0)(o:List Int)(h:inV n o)(l:o.Nodup)(t:1<=n/\n<=1000000)(s:o.length<=1099511627776):∀(d k fuel:Nat) (A:List Int),A.length=n->(∀ x,0<=x -> -1<=getI A x/\getI A x<=1099511627776)->(∀ x∈o.drop k,getI A x = -1)->k+d=o.length->d<fuel -> I5 o (n:Int) r es fuel (k:Int) (A.map (·+1))=some (.inr ((A03 A k (o.drop k)).map (·+1)))
 |d,k,0,A,c,i,f,j,hf=>oM
 |0,k,fuel+1,A,c,i,f,j,hf=>by rw[I5.eq_2,iE (by simp;omega),D1 oM];rfl
 |d+1,k,fuel+1,A,c,i,f,j,hf=>by
  have m:k<o.length:=oM;have a:=V3 m;have b:=h _ (mG a);have g:=I1 a;generalize o[k]=v at a b g;have p:(o.drop k).Nodup:=l.sublist (List.drop_sublist _ _);rw[g]at p f;have q:=f v mS;have w:=K0v r n es o h l t s d (k+1) fuel (A.set v.toNat (k:Int)) (by simp[c]) (λx a=>by
   rw[j07 b.1 oM a];have:=i x a;split<;>omega) (λx a=>by
   have u:=h x (List.mem_of_mem_drop a);rw[j07 b.1 oM u.1,iE (λe=>(List.nodup_cons.1 p).1 (by rw[←e];exact a))];grind) oM oM
  rw[I5.eq_2,iP (by simp;omega),g,U1 a];simp only[oB,A05,w64 (show -9223372036854775808<=(n:Int)-1 by omega) (show(n:Int)-1<=9223372036854775807 by omega),inR,show decide (0<=v)=true by simpa using b.1,show decide (v<=(n:Int)-1)=true by simp;omega,Bool.and_self,bT,bF,H1,G0j c b.1 b.2,q,zF];rw[iE oD,Z1 m oM,J0v,w];rfl
def L0v(es:List O0){n:Nat}(q:inN n es)(t:es.length<=1099511627776)(P:List Int)(g:P.length=n)(i:∀ x,0<=x -> -1<=getI P x/\getI P x<=1099511627776)(r m:Int):∀(d k fuel:Nat) (acc:List O0),k+d=es.length->d<fuel->acc.length<=k -> O4 es (P.map (·+1)) fuel (k:Int) r m acc=some (r,m,L4 V0 acc (pE P (es.drop k)))
 |d,k,0,acc,o,hf,j=>oM
 |0,k,fuel+1,acc,o,hf,j=>by rw[O4.eq_2,iE (by simp;omega),D1 oM];rfl
 |d+1,k,fuel+1,acc,o,hf,j=>by
  have p:k<es.length:=oM;have f:=V3 p;have c:=q _ (mG f);generalize es[k]=e at f c;obtain⟨a,l,b⟩:=e;have u:=λs h=>L0v es q t P g i r m d (k+1) fuel s oM oM h;have v:=i a c.1.1;have w:=i b c.2.1;rw[O4.eq_2,iP (by simp;omega),I1 f];simp only[U1 f,oB,G0j g c.1.1 c.1.2,G0j g c.2.1 c.2.2,Z1 p (show es.length<=9223372036854775807 by omega),pE];by_cases c1:0<=getI P a
  ·simp only[show decide (getI P a+1>0)=true by simp;omega,H1,oB,cT,show decide (0<=getI P a)=true by simpa using c1,Bool.true_and];by_cases c2:0<=getI P b;·rw[iP (by simp;omega),w64 oM oM,w64 oM oM,show getI P a+1-1=getI P a by omega,show getI P b+1-1=getI P b by omega];grind[R07,Y09,getI,L4]
   grind
  simp only[show decide (getI P a+1>0)=false by simp;omega,O1,oB,zF,show decide (0<=getI P a)=false by simpa using c1,Bool.false_and];rw[iE oS,u _ oM]
def I0j(r:Int)(n:Nat)(es:List O0)(o:List Int)(f:X0 (r,(n:Int),es))(g:inV n o)(l:o.Nodup)(t:1<=o.length)(u:o.length<=n): M9 (r,(n:Int),es) o=some (L7 (r,(n:Int),es) o,true):=by obtain⟨h,p,q,s⟩:=Y2 f;simp only at p q s;have m:inN n es:=λe d=>⟨(h e d).1,(h e d).2.1⟩;have k:=r9 (r,(n:Int),es) (by simp only;omega);unfold M9;have a:=K0v r n es o g l oM oM o.length 0 P0 (List.replicate n (-1)) oS (λx b=>by rw[X0b];omega) (λx b=>X0b n x) oM (j1 oM);have c:=L0v es m oM (plc n o) (E0s n o) (λx b=>by have:=T0c g b;omega) r ((o.length:Nat):Int) es.length 0 P0 [] oM (j1 oM) (Nat.le_refl _);rw[show((0:Nat):Int)=0 from rfl,(dZ)]at c a;rw[show(List.replicate n (-1:Int)).map (·+1)=List.replicate n 0 by simp]at a;rw[show A03 (List.replicate n (-1)) 0 o=plc n o from rfl]at a;have i:decide (((o.length:Nat):Int)=0)=false:=dF oM;have j:decide (((o.length:Nat):Int)>(n:Int))=false:=dF oM;simp only[k,f,oB,bT,zF,iN,i,j];rw[iE oS,C0 oM,oB,a];simp only[oB,w9,c];rfl
def A01:∀(n:Nat) (o:List Int),o.Nodup->inV n o->o.length<=n
 |0,[],_,_=>Nat.le_refl _
 |0,x::r,_,h=>by have:=h x mS;omega
 |n+1,o,a,h=>by
  have b:inV n (o.erase (n:Int)):=λx d=>by obtain⟨f,c⟩:=(List.Nodup.mem_erase_iff a).1 d;have:=h x c;omega
  have e:=A01 n _ (a.erase _) b;grind
def U7:Nat->Nat->List Int
 |0,_=>[]
 |d+1,i=>(i:Int) :: -(i:Int)::U7 d (i+1)
def i05:∀ d i,(U7 d i).length=2*d
 |0,i=>rfl
 |d+1,i=>by simp only[U7,lC,i05 d];omega
def y0n:∀(d i:Nat),i+d<=1000->∀ x∈U7 d i,I3 x
 |0,i,h,x,a=>nomatch a
 |d+1,i,h,x,a=>by
  simp only[U7,mE]at a;rcases a with rfl|rfl|a;·exact⟨⟨oM,oM⟩,oM⟩
  ·exact⟨⟨oM,oM⟩,oM⟩
  exact y0n d (i+1) oM x a
def M0v(R:Nat)(c:R<=900):∀(d i fuel:Nat) (acc:List Int),i+d=R+1->d<fuel->acc.length+2*d<=10000 -> N9 (R:Int) fuel (i:Int) acc=some (acc++U7 d i)
 |d,i,0,acc,b,hf,a=>oM
 |0,i,fuel+1,acc,b,hf,a=>by rw[N9.eq_2,iE (by simp;omega)];simp[U7]
 |d+1,i,fuel+1,acc,b,hf,a=>by
  have e:=M0v R c d (i+1) fuel (acc ++ [(i:Int),-(i:Int)]) oM oM (by simp;omega);have w1:i64.wrap (0-(i:Int)) = -(i:Int):=by grind[w64]
  rw[N9.eq_2,iP (by simp;omega),w1,C0 (by simp;omega),oB,Z1 (show i<1000 by omega) oM,e];simp[U7]
def N0v(R:Nat)(c:R<=900):∀(d i fuel:Nat) (acc:List Int),i+d=R+1->d<fuel->acc.length+2*d<=10000 -> c8 (R:Int) fuel (i:Int) acc=some (acc++U7 d i)
 |d,i,0,acc,b,hf,a=>oM
 |0,i,fuel+1,acc,b,hf,a=>by rw[c8.eq_2,iE (by simp;omega)];simp[U7]
 |d+1,i,fuel+1,acc,b,hf,a=>by
  have e:=N0v R c d (i+1) fuel ((acc ++ [(i:Int)]) ++ [-(i:Int)]) oM oM (by simp;omega);have w1:i64.wrap (0-(i:Int)) = -(i:Int):=by grind[w64]
  rw[c8.eq_2,iP (by simp;omega),w1,C0 (by simp;omega),oB,C0 (by simp;omega),oB,Z1 (show i<1000 by omega) oM,e];simp[U7]
theorem n0r(R:Nat)(a:R<=900):i01 (R:Int)=some (U7 R 1):=by unfold i01;rw[show(1:Int)=((1:Nat):Int) from rfl,M0v R a R 1 P0 [] oM (j1 oM) (by simp;omega)];rfl
theorem O0v(R:Nat)(a:R<=900):Q01 (R:Int)=some (U7 R 1):=by unfold Q01;rw[show(1:Int)=((1:Nat):Int) from rfl,N0v R a R 1 P0 [] oM (j1 oM) (by simp;omega)];rfl
def A09(u:List Int)(x:Int):List Int:=if 0<=x/\x ∉ u then u ++ [x]else u
def t03(g:j0)(v:Int):List Int->List Int->List Int
 | [],u=>u
 |x::r,u=>t03 g v r (A09 u (Q0 g v x))
def E9(g:j0)(a:List Int):Nat->Nat->List Int->List Int
 |0,i,u=>u
 |f+1,i,u=>match u[i]? with
  |some v=>E9 g a f (i+1) (t03 g v a u)
  |none=>u
def gud(n:Nat)(u:List Int):Prop:=u.Nodup/\inV n u
def n0p{n:Nat}{u:List Int}{x:Int}(h:gud n u)(g:x = -1∨(0<=x/\x<(n:Int))):gud n (A09 u x):=by
 unfold A09;split
 ·rename_i f;refine⟨List.nodup_append.2 ⟨h.1,oS,λa d b e=>?_⟩,λy c=>?_⟩;·grind
  rcases List.mem_append.1 c with c|c;·exact h.2 y c
  grind
 exact h
def J0j(u:List Int)(x:Int):∃ t,A09 u x=u++t:=by unfold A09;split;all_goals simp_all
def R05(g:j0)(v:Int):∀(a u:List Int),∃ t,t03 g v a u=u++t
 | [],u=>⟨[],by simp[t03]⟩
 |x::r,u=>by obtain⟨d,b⟩:=J0j u (Q0 g v x);obtain⟨e,c⟩:=R05 g v r (A09 u (Q0 g v x));grind[t03,List.append_assoc]
theorem N06{r:Int}{n:Nat}{es:List O0}(a:inG (r,(n:Int),es))(v:Int):∀(b u:List Int),gud n u->gud n (t03 (r,(n:Int),es) v b u)
 | [],u,h=>h
 |x::l,u,h=>N06 a v l _ (n0p h (i04 a v x))
def K0j{r:Int}{n:Nat}{es:List O0}(a:inG (r,(n:Int),es))(b:List Int):∀(f i:Nat) (u:List Int),gud n u->gud n (E9 (r,(n:Int),es) b f i u)
 |0,i,u,h=>h
 |f+1,i,u,h=>by
  unfold E9;split;·exact K0j a b f _ _ (N06 a _ _ _ h)
  exact h
def L0j(g:j0)(a:List Int):∀(f i:Nat) (u:List Int),u.length<=(E9 g a f i u).length
 |0,i,u=>Nat.le_refl _
 |f+1,i,u=>by
  unfold E9;split;·rename_i v _;obtain⟨t,e⟩:=R05 g v a u;have:=L0j g a f (i+1) (t03 g v a u);grind
  exact Nat.le_refl _
def I0s(r:Int)(n:Nat)(es:List O0)(f:inG (r,(n:Int),es))(A:n<=40)(m:es.length<=1099511627776)(a:List Int)(p:∀ x∈a,I3 x)(z:a.length<=1000000)(i:Nat)(v:Int):∀(d k fuel:Nat) (u:List Int),gud n u->u[i]?=some v->k+d=a.length->d<fuel -> I4 a (i:Int) r (n:Int) es fuel (k:Int) u=some (t03 (r,(n:Int),es) v (a.drop k) u)
 |d,k,0,u,b,g,j,hf=>oM
 |0,k,fuel+1,u,b,g,j,hf=>by rw[I4.eq_2,iE (by simp;omega),D1 oM];rfl
 |d+1,k,fuel+1,u,b,g,j,hf=>by
  have o:k<a.length:=oM;have c:=V3 o;have q:=p _ (mG c);have l:=I1 c;generalize a[k]=x at c q l;have E:=A01 n u b.1 b.2;have C:Q0 (r,(n:Int),es) v x = -1∨(0<=Q0 (r,(n:Int),es) v x/\Q0 (r,(n:Int),es) v x<(n:Int)):=i04 f v x;have s:=n0p b C;have w:(A09 u (Q0 (r,(n:Int),es) v x))[i]?=some v:=by obtain⟨t,e⟩:=J0j u (Q0 (r,(n:Int),es) v x);grind
  have D:=I0s r n es f A m a p z i v d (k+1) fuel _ s w oM oM;rw[I4.eq_2,iP (by simp;omega),l];simp only[U1 g,U1 c,oB,D05 (r,(n:Int),es) v x q m,C0 (N02 f (show(n:Int)<=40 by omega) v x),Z1 o (show a.length<=9223372036854775807 by omega),t03];rw[←D];generalize Q0 (r,(n:Int),es) v x=y at *;unfold A09;by_cases c1:0<=y
  ·simp only[show decide (y ≥ 0)=true by simpa using c1,H1,S0c u y oM,oB,cT];by_cases c2:y∈u;·rw[iE (by simp[c2]),iE (by simp[c2])]
   rw[iP (by simp[c2]),iP ⟨c1,c2⟩,C0 (by simp;omega),oB]
  simp only[show decide (y ≥ 0)=false by simpa using c1,O1,oB,zF];rw[iE oS,iE (λh=>c1 h.1)]
def J0s(r:Int)(n:Nat)(es:List O0)(c:inG (r,(n:Int),es))(m:n<=40)(h:es.length<=1099511627776)(a:List Int)(l:∀ x∈a,I3 x)(k:a.length<=1000000):∀(f i fuel:Nat) (u:List Int),gud n u->i<=u.length->n+1<=i+f->f<fuel -> H6 a r (n:Int) es fuel (i:Int) u=some (E9 (r,(n:Int),es) a f i u)
 |f,i,0,u,b,j,g,hf=>oM
 |0,i,fuel+1,u,b,j,g,hf=>by have:=A01 n u b.1 b.2;omega
 |f+1,i,fuel+1,u,b,j,g,hf=>by
  have p:=A01 n u b.1 b.2;rw[H6.eq_2,oB,C0 oM,oB];by_cases hk:i<u.length;·have d:=V3 hk;generalize u[i]=v at d;have h0:=I0s r n es c m h a l k i v a.length 0 P0 u b d oM (j1 oM);rw[show((0:Nat):Int)=0 from rfl,(dZ)]at h0;obtain⟨t,e⟩:=R05 (r,(n:Int),es) v a u;have o:=J0s r n es c m h a l k f (i+1) fuel _ (N06 c v a u b) oG oM oM;rw[iP (by simpa using hk),h0,oB,Z1 hk oM,o];simp only[E9,d]
  simp_all[List.getElem?_eq_none,iE,E9]
def Q2(g:j0):List Int:=E9 g (U7 g.1.toNat 1) (g.2.1.toNat+1) 0 [0]
def N04{g:j0}(hf:K0 g):gud g.2.1.toNat (Q2 g)/\1<=(Q2 g).length:=by
 obtain⟨a,b,c,d⟩:=W0 hf;obtain⟨r,n,es⟩:=g;simp only at b c d;obtain⟨N,rfl⟩:∃ N:Nat,n=(N:Int):=⟨n.toNat,oM⟩;refine⟨?_,?_⟩;·exact K0j a _ _ _ _ ⟨oS,λx e=>oG⟩
 exact L0j _ _ _ _ [0]
def o0p(g:j0)(hf:K0 g):I00 g=some (Q2 g):=by obtain⟨a,b,c,d⟩:=W0 hf;have e:=g02 g oM;obtain⟨r,n,es⟩:=g;simp only at b c d;obtain⟨N,rfl⟩:∃ N:Nat,n=(N:Int):=⟨n.toNat,oM⟩;obtain⟨R,rfl⟩:∃ R:Nat,r=(R:Int):=⟨r.toNat,oM⟩;unfold I00;have h0:=J0s (R:Int) N es a oM oM (U7 R 1) (y0n R 1 oM) (by rw[i05];omega) (N+1) 0 P0 [0] ⟨oS,λx f=>oG⟩ oS oM (j1 oM);simp only[e,hf,oB,bT,O0v R oM];rw[show((0:Nat):Int)=0 from rfl]at h0;rw[iE oS,h0];rfl
def K0s{a:List Int}(b:a.length<=1099511627776):N4 a=some a:=by grind[N4,C0]
def O00(W:List (Option (List Int)))(x:Int):Option (List Int):=W.getD x.toNat none
theorem giO{a:List (Option (List Int))}{n:Nat}(c:a.length=n){x:Int}(h0:0<=x)(b:x<n):gi a x=some (O00 a x):=by
 grind[gi,O00,J0g,List.getElem?_eq_getElem]
def a03{A:List (Option (List Int))}{v x:Int}{y:Option (List Int)}(h0:0<=v)(a:v.toNat<A.length)(b:0<=x):O00 (A.set v.toNat y) x=if x=v then y else O00 A x:=by unfold O00;grind
structure WOk (n:Nat) (W:List (Option (List Int))) (u:List Int):Prop where
 len:W.length=n
 iff:∀ x,0<=x->x<(n:Int)->((O00 W x).isNone=true↔x ∉ u)
 short:∀ x,((O00 W x).getD []).length<=u.length
def L0s(r:Int)(n:Nat)(es:List O0)(l:inG (r,(n:Int),es))(G:n<=40)(s:es.length<=1099511627776)(f:List Int)(w:∀ x∈f,I3 x)(F:f.length<=1000000)(v:Int)(m:0<=v/\v<(n:Int)):∀(d k fuel:Nat) (b:List (Option (List Int))) (u:List Int),gud n u->WOk n b u->k+d=f.length->d<fuel -> ∃ i,A4 f r (n:Int) es v fuel (k:Int) b u=some (i,t03 (r,(n:Int),es) v (f.drop k) u)/\WOk n i (t03 (r,(n:Int),es) v (f.drop k) u)
 |d,k,0,b,u,g,a,p,hf=>oM
 |0,k,fuel+1,b,u,g,a,p,hf=>by rw[A4.eq_2,iE (by simp;omega),D1 oM];exact⟨b,rfl,a⟩
 |d+1,k,fuel+1,b,u,g,a,p,hf=>by
  have t:k<f.length:=oM;have j:=V3 t;have A:=w _ (mG j);have q:=I1 j;generalize f[k]=x at j A q;have J:=A01 n u g.1 g.2;have H:Q0 (r,(n:Int),es) v x = -1∨(0<=Q0 (r,(n:Int),es) v x/\Q0 (r,(n:Int),es) v x<(n:Int)):=i04 l v x;have E:=n0p g H;have C:=λi h=>L0s r n es l G s f w F v m d (k+1) fuel i _ E h oM oM;rw[A4.eq_2,iP (by simp;omega),q];simp only[U1 j,oB,r04 (r,(n:Int),es) v x A s,C0 (N02 l (show(n:Int)<=40 by omega) v x),Z1 t (show f.length<=9223372036854775807 by omega),t03];generalize Q0 (r,(n:Int),es) v x=y at *;by_cases c1:0<=y
  ·have o:y<(n:Int):=oM;simp only[show decide (y ≥ 0)=true by simpa using c1,H1,giO a.len c1 o,oB,cT];by_cases c2:y∈u;·have : ¬ ((O00 b y).isNone):=λh=>(a.iff y c1 o).1 h c2;simp_all[A09,iE]
   have:(O00 b y).isNone:=(a.iff y c1 o).2 c2;have e:A09 u y=u ++ [y]:=iP ⟨c1,c2⟩;have K:=a.short v;rw[iP this,giO a.len m.1 m.2,oB,K0s oM,oB,C0 (by simp;omega),oB,C0 (by simp;omega),oB];rw[e]at C ⊢;refine C _ ⟨by simp[a.len],λz h0 D=>?_,λz=>?_⟩
   ·rw[a03 c1 (by have:=a.len;omega) h0];by_cases c:z=y;·rw[iP c];simp[c]
    rw[iE c,a.iff z h0 D];simp[c]
   by_cases hz:0<=z
   ·rw[a03 c1 (by have:=a.len;omega) hz];by_cases c:z=y;·grind
    rw[iE c];have:=a.short z;grind
   have I:O00 (b.set y.toNat (some ((O00 b v).getD [] ++ [x]))) z=O00 (b.set y.toNat (some ((O00 b v).getD [] ++ [x]))) 0:=by unfold O00;rw[show z.toNat=(0:Int).toNat by omega]
   rw[I,a03 c1 (by have:=a.len;omega) (iR 0)];by_cases c:(0:Int)=y;·grind
   rw[iE c];have:=a.short 0;grind
  have e:A09 u y=u:=iE λh=>c1 h.1;simp only[show decide (y ≥ 0)=false by simpa using c1,O1,oB,zF];grind
def M0s(R n:Nat)(h:R<=900)(es:List O0)(c:inG ((R:Int),(n:Int),es))(m:n<=40)(k:es.length<=1099511627776):∀(f i fuel:Nat) (b:List (Option (List Int))) (u:List Int),gud n u->WOk n b u->i<=u.length->n+1<=i+f->f<fuel -> ∃ q,w6 (R:Int) (n:Int) es fuel (i:Int) b u=some (q,E9 ((R:Int),(n:Int),es) (U7 R 1) f i u)
 |f,i,0,b,u,a,d,l,j,hf=>oM
 |0,i,fuel+1,b,u,a,d,l,j,hf=>by have:=A01 n u a.1 a.2;omega
 |f+1,i,fuel+1,b,u,a,d,l,j,hf=>by
  have x:=A01 n u a.1 a.2;rw[w6.eq_2,oB,C0 oM,oB];by_cases hk:i<u.length;·have g:=V3 hk;have o:=a.2 _ (mG g);generalize u[i]=v at g o;obtain⟨s,h0,p⟩:=L0s (R:Int) n es c m k (U7 R 1) (y0n R 1 oM) (by rw[i05];omega) v o (U7 R 1).length 0 P0 b u a d oM (j1 (by rw[i05];omega));rw[show((0:Nat):Int)=0 from rfl,(dZ)]at h0;rw[(dZ)]at p;obtain⟨t,e⟩:=R05 ((R:Int),(n:Int),es) v (U7 R 1) u;obtain⟨w,y⟩:=M0s R n h es c m k f (i+1) fuel s _ (N06 c v _ u a) p oG oM oM;rw[iP (by simpa using hk),U1 g,oB,n0r R h,oB,h0,oB];grind[Z1,E9]
  simp_all[List.getElem?_eq_none,iE,E9]
def p0p(g:j0)(hf:K0 g):J00 g=some (Q2 g):=by
 obtain⟨a,b,c,d⟩:=W0 hf;have e:=Y02 g oM;obtain⟨r,n,es⟩:=g;simp only at b c d;obtain⟨N,rfl⟩:∃ N:Nat,n=(N:Int):=⟨n.toNat,oM⟩;obtain⟨R,rfl⟩:∃ R:Nat,r=(R:Int):=⟨r.toNat,oM⟩;unfold J00;have j:∀ x,O00 (List.replicate N (none:Option (List Int))) x=none:=λx=>by unfold O00;rw[List.getD_eq_getElem?_getD,List.getElem?_replicate];split<;>rfl
 have f:WOk N ((List.replicate N (none:Option (List Int))).set (0:Int).toNat (some [])) [0]:=by
  refine⟨oS,λx h0 a=>?_,λx=>?_⟩;·rw[a03 (iR 0) (by simp;omega) h0];grind
  by_cases hz:0<=x;·rw[a03 (iR 0) (by simp;omega) hz];grind
  have:O00 ((List.replicate N (none:Option (List Int))).set (0:Int).toNat (some [])) x=O00 ((List.replicate N (none:Option (List Int))).set (0:Int).toNat (some [])) 0:=by unfold O00;rw[show x.toNat=(0:Int).toNat by omega]
  rw[this,a03 (iR 0) (by simp;omega) (iR 0),iP rfl];simp
 obtain⟨i,h0⟩:=M0s R N oM es a oM oM (N+1) 0 P0 _ [0] ⟨oS,λx k=>oG⟩ f oS oM (j1 oM);have h:gi (List.replicate N (none:Option (List Int))) 0=some none:=by rw[j0e (x:=none)];rw[List.getElem?_replicate,iP oM]
 simp only[e,hf,oB,bT,V8,iN];rw[iE oS,C0 oM,oB,h,oB];rw[show((0:Nat):Int)=0 from rfl]at h0;rw[h0];rfl
def N3(g:j0):j0:=L7 g (Q2 g)
def F0h(g:j0)(hf:K0 g):i9 g=some (N3 g):=by obtain⟨b,d,f,h⟩:=W0 hf;have i:=Y02 g oM;have j:=p0p g hf;obtain⟨a,m⟩:=N04 hf;have k:=A01 _ _ a.1 a.2;obtain⟨r,n,es⟩:=g;simp only at d f h;obtain⟨N,rfl⟩:∃ N:Nat,n=(N:Int):=⟨n.toNat,oM⟩;simp only[iN]at a k;have l:=m0r r N es (Q2 (r,(N:Int),es)) (λe c=>⟨(b e c).1,(b e c).2.1⟩) a.2 oM oM oM;unfold i9;simp only[i,hf,oB,bT,j,l];rfl
def G0h(g:j0)(hf:K0 g):g9 g=some (N3 g):=by
 obtain⟨k,c,d,e⟩:=W0 hf;have f:X0 g:=by simp_all[K0,aE]
 have h:=o0p g hf;obtain⟨a,i⟩:=N04 hf;have b:=A01 _ _ a.1 a.2;obtain⟨r,n,es⟩:=g;simp only at c d e;obtain⟨N,rfl⟩:∃ N:Nat,n=(N:Int):=⟨n.toNat,oM⟩;simp only[iN]at a b;have j:=I0j r N es (Q2 (r,(N:Int),es)) f a.2 a.1 i b;unfold g9;simp only[oB,h,j];rw[iE oG];rfl
def lf(a:Nat->Bool):Nat->Nat->Option Nat
 |0,v=>none
 |d+1,v=>bif a v then some v else lf a d (v+1)
def Y0b{a:Nat->Bool}:∀(d v k:Nat),lf a d v=some k->v<=k/\k<v+d
 |0,v,k,h=>by cases h
 |d+1,v,k,h=>by
  unfold lf at h;cases hb:a v;·rw[hb]at h;have:=Y0b d (v+1) k h;omega
  grind
def M0j{a b:Nat->Bool}:∀(d v:Nat),(∀ k,v<=k->k<v+d->a k=b k)->lf a d v=lf b d v
 |0,v,h=>rfl
 |d+1,v,h=>by unfold lf;rw[h v (Nat.le_refl _) oM,M0j d (v+1) λk c e=>h k oM oM]
def o0r(es:List O0):List Int:=itS es (es.length+1) [0]
def O0a(es:List O0)(v:Nat):Bool:=decide (z03 (v:Int) es<2) || !decide ((v:Int)∈o0r es)
def F9(g:j0):Option Nat:=lf (O0a g.2.2) (g.2.1.toNat-1) 1
def p0r(g:j0)(b:X0 g):f02 g 0=some (o0r g.2.2)/\(o0r g.2.2).length<=100000:=by
 obtain⟨h,c,d,a⟩:=Y2 b;have f:=r9 g oM;obtain⟨r,n,es⟩:=g;simp only at c d a;unfold f02 o0r;have e:=E0j es a (es.length+1) 0 P0 [0] oM (j1 oM) oS;have i:=B0s es (es.length+1) [0];refine⟨?_,?_⟩;·rw[show((0:Nat):Int)=0 from rfl]at e;simp only[f,b,oB,bT,bF,H1,A05,inR,w64 (show -9223372036854775808<=n-1 by omega) (show n-1<=9223372036854775807 by omega)];grind
 have:(es.length+1)*(2*es.length)<=121*240:=Nat.mul_le_mul oM oM;grind
def P0v(r:Int)(n:Nat)(es:List O0)(e:es.length<=1000)(u:List Int)(g:u.length<=100000)(f:n<=40):∀(d v fuel:Nat),v+d=n∨(d=0/\n<=v)->v<=1000->d<fuel -> D00 (n:Int) r es u fuel (v:Int)=some (match lf (λv=>decide (z03 (v:Int) es<2) || !decide ((v:Int)∈u)) d v with|some k => .inl (k:Int)|none => .inr ())
 |d,v,0,b,c,hf=>oM
 |0,v,fuel+1,b,c,hf=>by rw[D00.eq_2,iE (by simp;omega)];rfl
 |d+1,v,fuel+1,b,c,hf=>by
  have i:=P0v r n es e u g f d (v+1) fuel oM oM oM;have h:=v0n (v:Int) es;rw[D00.eq_2,iP (by simp;omega),R0l (r,(n:Int),es) _ (by simp only;omega),oB,C0 (c64 (by simp only;omega) (by simp only;omega)),oB,Z1 (show v<10000 by omega) oM];unfold lf;by_cases c1:z03 (v:Int) es<2;·have a:decide (((z03 (v:Int) es:Nat):Int)<2):=dT oM;simp only[a,bT,O1,oB,cT,if_true,dT c1,Bool.true_or]
  have a:decide (((z03 (v:Int) es:Nat):Int)<2)=false:=dF oM;simp only[a,bF,H1,S0c u _ (show u.length<=9223372036854775807 by omega),oB,zF,dF c1,Bool.false_or];grind
def Q0v(g:j0)(c:X0 g):b04 g=some (match F9 g with|some k=>(k:Int)|none => -1):=by obtain⟨a,b⟩:=p0r g c;obtain⟨i,d,e,f⟩:=Y2 c;obtain⟨r,n,es⟩:=g;simp only at d e f a b;obtain⟨N,rfl⟩:∃ N:Nat,n=(N:Int):=⟨n.toNat,oM⟩;unfold b04 F9;have h:=P0v r N es oM (o0r es) b oM (N-1) 1 P0 oM oM (j1 oM);simp only[a,oB,iN];rw[show(1:Int)=((1:Nat):Int) from rfl,h];rw[show(λv:Nat=>decide (z03 (v:Int) es<2) || !decide ((v:Int)∈o0r es))=O0a es from rfl];cases lf (O0a es) (N-1) 1<;>rfl
def z0n(r:Int)(n:Nat)(es:List O0)(m:es.length<=1000)(a:List Bool)(g:a.length=n)(p:n<=40):∀(d v fuel:Nat),1<=v->v+d=n∨(d=0/\n<=v)->v<=1000->d+1<fuel -> Y4 (n:Int) r es a fuel 0 (v:Int)=some (match lf (λv=>decide (z03 (v:Int) es<2) || !M02 a (v:Int)) d v with|some k=>(k:Int)|none=>0)
 |d,v,0,f,h,i,hf=>oM
 |0,v,fuel+1,f,h,i,hf=>by have e:decide ((v:Int)<(n:Int))=false:=dF oM;rw[Y4.eq_2,iE (by rw[e];simp)];rfl
 |d+1,v,fuel+1,f,h,i,hf=>by
  have s:=z0n r n es m a g p d (v+1) fuel oM oM oM oM;have q:=v0n (v:Int) es;have e:decide ((v:Int)<(n:Int)):=dT oM;have o:∀ w:Int,Y4 (n:Int) r es a fuel (v:Int) w=some (v:Int):=λw=>by
   obtain _|fuel:=fuel;·omega
   have j:decide ((v:Int)=0)=false:=dF oM;have l:∀ b:Bool,(bif b then false else false)=false:=λb=>by cases b<;>rfl
   rw[Y4.eq_2,iE (by rw[j,l];simp)]
  rw[Y4.eq_2,iP (by rw[e];rfl),f0u (r,(n:Int),es) _ (by simp only;omega),oB,C0 (c64 (by simp only;omega) (by simp only;omega)),oB,Z1 (show v<10000 by omega) oM];unfold lf;by_cases c1:z03 (v:Int) es<2;·have c:decide (((z03 (v:Int) es:Nat):Int)<2):=dT oM;simp only[c,bT,O1,oB,cT,if_true,dT c1,Bool.true_or,o]
  have c:decide (((z03 (v:Int) es:Nat):Int)<2)=false:=dF oM;simp only[c,bF,H1,giB g (show(0:Int)<=(v:Int) by omega) (show(v:Int)<(n:Int) by omega),oB,zF,dF c1,Bool.false_or];grind
def wo(g:Nat):Nat->Nat->List Int
 |0,k=>[]
 |d+1,k=>if k=g then wo g d (k+1)else(k:Int)::wo g d (k+1)
def A0n(g:Nat):∀(d k:Nat),(wo g d k).length=d-(if k<=g/\g<k+d then 1 else 0)
 |0,k=>by simp[wo]
 |d+1,k=>by have a:=A0n g d (k+1);unfold wo;grind
theorem N0s(g n:Nat):∀(d k:Nat),k+d<=n->inV n (wo g d k)
 |0,k,h=>λx a=>nomatch a
 |d+1,k,h=>by
  have b:=N0s g n d (k+1) oM;unfold wo;split;·exact b
  intro x a;rcases mE.1 a with rfl|a;·omega
  exact b x a
def B0n(n g:Nat)(j:n<=1000):∀(d k fuel:Nat) (acc:List Int),k+d=n->d<fuel->acc.length<=k -> d7 (n:Int) (g:Int) fuel (k:Int) acc=some (acc++wo g d k)
 |d,k,0,acc,b,hf,a=>oM
 |0,k,fuel+1,acc,b,hf,a=>by simp_all[d7.eq_2,iE,wo]
 |d+1,k,fuel+1,acc,b,hf,a=>by
  have f:=λi h=>B0n n g j d (k+1) fuel i oM oM h;rw[d7.eq_2,iP (by simp;omega),Z1 (show k<10000 by omega) oM];unfold wo;by_cases c:k=g;·have e:decide ((k:Int)=(g:Int)):=dT oM;rw[e,iE oS,iP c,f _ oM]
  have e:decide ((k:Int)=(g:Int))=false:=dF oM;rw[e,iP (show(!false)=true from rfl),iE c,C0 (by simp;omega),oB,f _ (by simp;omega)];simp
def C0n(n:Nat)(f:n<=1000):∀(d k fuel:Nat) (acc:List Int),k+d=n->d<fuel->acc.length=k -> ∃ u,d8 (n:Int) fuel (k:Int) acc=some u/\u.length=n
 |d,k,0,acc,b,hf,a=>oM
 |0,k,fuel+1,acc,b,hf,a=>by simp_all[d8.eq_2,iE]
 |d+1,k,fuel+1,acc,b,hf,a=>by obtain⟨u,c,e⟩:=C0n n f d (k+1) fuel (acc ++ [(k:Int)]) oM oM (by simp;omega);rw[d8.eq_2,iP (by simp;omega),Z1 (show k<10000 by omega) oM,C0 (by simp;omega),oB,c];exact⟨u,rfl,e⟩
theorem Z0b{a:Type}{xs:List a}{k:Nat}(h:k<=xs.length):b05 xs 0 (k:Int)=some (xs.take k):=by simp_all[b05,iP]
def O0s:∀(n fuel:Nat) (left:List Int) (r:Int) (es:List O0),1<=n->n<=40->inN n es->es.length<=120->left.length=n->n<fuel -> ∃(a:j0) (d:List Int),g7 fuel left r (n:Int) es=some (.inl (a,d))/\a.2.1<=(n:Int)/\(a.2.1=(n:Int)↔lf (O0a es) (n-1) 1=none)
 |n,0,left,r,es,e,f,b,t,u,hf=>oM
 |n,fuel+1,left,r,es,e,f,b,t,u,hf=>by
  obtain⟨c,p,lS,q⟩:=k0p r n es b oM e oM;have m:=z0n r n es oM c lS f (n-1) 1 P0 (Nat.le_refl _) oM oM (j1 oM);have s:lf (λv=>decide (z03 (v:Int) es<2) || !M02 c (v:Int)) (n-1) 1=lf (O0a es) (n-1) 1:=M0j _ _ λk D E=>by
   unfold O0a;have:=q (k:Int) oM oM;have g:=k06 es 0 (k:Int);congr 2;cases hb:M02 c (k:Int);·symm;exact dF λh=>by rw[this.2 (g.1 h)]at hb;cases hb
   symm;exact dT (g.2 (this.1 hb))
  rw[s]at m;rw[g7.eq_2,p,oB,show(1:Int)=((1:Nat):Int) from rfl,m,oB];cases hlf:lf (O0a es) (n-1) 1 with
  |none =>grind
  |some k =>
   have A:=Y0b _ _ _ hlf;have o:decide ((k:Int)=0)=false:=dF oM;have j:=N0s k n n 0 oM;have i:=A0n k n 0;rw[iP oM]at i;have l:=B0n n k oM n 0 P0 [] oM (j1 oM) (Nat.le_refl _);rw[show((0:Nat):Int)=0 from rfl,(nA)]at l;have w:=m0r r n es (wo k n 0) b j oM oM oM;have x:=l0e (r,(n:Int),es) (wo k n 0);have C:=X0l (r:=r) j b;have y:i64.wrap ((k:Int)+((1:Nat):Int))=((k+1:Nat):Int):=by grind[w64]
   obtain⟨a,d,z,F,G⟩:=O0s (n-1) fuel (left.take k++left.drop (k+1)) r (L7 (r,(n:Int),es) (wo k n 0)).2.2 oM oM oG (by simp only at x;omega) oG oM;refine⟨a,d,?_,oM,?_⟩;·simp only[o,fT,if_false,l,oB,w];rw[show L7 (r,(n:Int),es) (wo k n 0)=(r,((n-1:Nat):Int),(L7 (r,(n:Int),es) (wo k n 0)).2.2) by rw[←i];rfl];simp only[y];rw[Z0b oM,oB,E05 oM,oB,C0 oG,oB,z]
   grind
theorem q0r(g:j0)(k:X0 g=true):∃(a:j0) (b:List Int),O9 g=some (a,b)/\(a.2.1=g.2.1↔F9 g=none):=by
 obtain⟨c,i,j,d⟩:=Y2 k
 have p:=Z00 g (by omega)
 have o:=N00 g (by omega)
 obtain⟨r,n,es⟩:=g
 simp only at i j d
 obtain⟨N,rfl⟩:∃ N:Nat,n=(N:Int):=⟨n.toNat,by omega⟩
 have l:inN N es:=λe f=>⟨(c e f).1,(c e f).2.1⟩
 obtain⟨u,m,h⟩:=C0n N (by omega) N 0 P0 [] (by omega) (j1 (by omega)) rfl
 obtain⟨a,b,q,s,t⟩:=O0s N P0 u r es (by omega) (by omega) l d h (j1 (by omega))
 refine⟨a,b,?_,?_⟩
 ·unfold O9
  simp_all[oB,Bool.not_true,Bool.false_eq_true,if_false,w9]
 grind[F9,Int.toNat_natCast]
def K1(g:j0):Bool:=K0 g&&((F9 g).isNone&&V0b (N3 g) g)
theorem A3{g:j0}(h:K0 g):X0 g:=by simp_all[K0,aE]
theorem Y0l{g:j0}(hf:K0 g):(N3 g).2.2.length<=120:=by have:=l0e g (Q2 g);have:=(W0 hf).2.2.2;unfold N3;omega
def q00(g:j0)(i:g.2.2.length<=140737488355328):d6 g=some (K1 g):=by
 have h:=Y02 g i;unfold K1;by_cases hf:K0 g
 ·obtain⟨d,t,b,a⟩:=q0r g (A3 hf);have e:=F0h g hf;have f:=O0g (N3 g) g (by grind[Y0l]);obtain⟨r,n,es⟩:=g;obtain⟨u,l,q⟩:=d;unfold d6;simp only at a;generalize N3 (r,n,es)=C at *;obtain⟨m,o,p⟩:=C;simp only[h,hf,oB,bT,fT,if_false,b,e];by_cases c:l=n;·have:=a.1 c;simp only[dT c,H1,oB,f,cT,this,Option.isNone_none,Bool.true_and]
  have j:(F9 (r,n,es)).isNone=false:=by
   cases hq:F9 (r,n,es)with
   |none=>grind
   |some k=>rfl
  simp only[dF c,O1,oB,zF,j,Bool.false_and,Bool.and_false]
 have s:K0 g=false:=Bool.eq_false_iff.2 hf;simp_all[d6,oB,bF,if_true,Bool.false_and]
theorem D0f(g:j0)(j:g.2.2.length<=140737488355328):J02 g=some (K1 g):=by
 have a:=g02 g j;unfold K1;by_cases hf:K0 g
 ·have f:=Q0v g (A3 hf);have d:=G0h g hf;have e:=g0u (N3 g) g (by grind[Y0l]);obtain⟨p,q,c,s⟩:=W0 hf;obtain⟨r,n,es⟩:=g;unfold J02;generalize N3 (r,n,es)=C at *;obtain⟨l,m,o⟩:=C;simp only[a,hf,oB,H1,f,cT];cases hq:F9 (r,n,es)with
  |none =>simp only[C0 (show H0 (-1) by decide),oB,show decide ((-1:Int)<0)=true from rfl,H1,d,e,cT,Option.isNone_none,Bool.true_and]
  |some k =>have i:=Y0b _ _ _ hq;simp only at c;simp only at i;have b:decide ((k:Int)<0)=false:=dF oM;simp only[C0 (show H0 (k:Int) from c64 oM oM),oB,b,O1,zF,Option.isNone_some,Bool.false_and,Bool.and_false]
 have h:K0 g=false:=Bool.eq_false_iff.2 hf;obtain⟨r,n,es⟩:=g;unfold J02;simp only[a,h,oB,O1,C0 (show H0 0 by decide),zF,Bool.false_and]
def B0x{s:BA}{k:Nat}(h:k<s.size):∃ c,sgi s (k:Int)=some c:=by simp_all[sgi,iP,iN,getElem?_pos]
def chB(s:BA)(k:Nat):Nat:=match sgi s (k:Int)with
 |some c=>c.toNat
 |none=>0
def W0z(c k:Nat):Bool := !(decide (97<=c)&&decide (c<=122))&&(decide (k=0) || !(decide (48<=c)&&decide (c<=57)))
def okN(s:BA):Nat->Nat->Bool
 |0,k=>true
 |d+1,k=>bif W0z (chB s k) k then false else okN s d (k+1)
def I08(s:BA):Bool:=inR 1 8 ((s.size:Nat):Int)&&okN s s.size 0
def P0s(a:BA)(h:a.size<=9223372036854775807):∀(d k fuel:Nat),k+d=a.size->d<fuel -> E00 a fuel (k:Int)=some (bif okN a d k then .inr ()else .inl false)
 |d,k,0,f,hf=>oM
 |0,k,fuel+1,f,hf=>by rw[E00.eq_2,iE (by simp;omega)];rfl
 |d+1,k,fuel+1,f,hf=>by
  have g:k<a.size:=oM;obtain⟨c,e⟩:=B0x g;have j:=P0s a h d (k+1) fuel oM oM;have i:chB a k=c.toNat:=by unfold chB;rw[e]
  rw[E00.eq_2,iP (by simp;omega),e];simp only[oB,okN,i,W0z,Z1 g h,j];have l:decide (((c.toNat:Nat):Int) ≥ 97)=decide (97<=c.toNat):=by congr 1;simp;omega
  have m:decide (((c.toNat:Nat):Int)<=122)=decide (c.toNat<=122):=by congr 1;simp;omega
  have n:decide (((c.toNat:Nat):Int) ≥ 48)=decide (48<=c.toNat):=by congr 1;simp;omega
  have o:decide (((c.toNat:Nat):Int)<=57)=decide (c.toNat<=57):=by congr 1;simp;omega
  have p:decide ((k:Int)=0)=decide (k=0):=by congr 1;simp
  rw[l,n,p];have fin:∀(b:Bool) (x y:Option (Bool ⊕ Unit)),(if b=true then x else y)=bif b then x else y:=λb x y=>by cases b<;>rfl
  cases h1:decide (97<=c.toNat)<;>cases h3:decide (48<=c.toNat)<;>cases h5:decide (k=0) <;>
   simp only[H1,O1,oB,m,o,cT,zF,bT,bF,Bool.false_and,Bool.true_and,Bool.true_or,Bool.false_or,Bool.and_true,fin] <;>
   cases decide (c.toNat<=122)<;>cases decide (c.toNat<=57)<;>cases okN a d (k+1)<;>rfl
def P0a(a:BA)(b:a.size<=9223372036854775807):c04 a=some (I08 a):=by
 unfold c04 I08;have h:=P0s a b a.size 0 P0 oM (by unfold P0;omega);rw[show((0:Nat):Int)=0 from rfl]at h;rw[d02,oB];cases inR 1 8 ((a.size:Nat):Int);·rfl
 rw[iE oS,h,oB];cases okN a a.size 0<;>simp[w9]
def C0x(r:Int)(l:T5)(k:Nat):Bool:=match l[k]? with
 |some e=>bif I08 e.1 then(bif K1 e.2 then(bif decide (e.2.1=r)then(bif decide (0<k)then(match l[k-1]? with
  |some a => !X0o a.1 e.1
  |none=>false)else false)else true)else true)else true
 |none=>false
def okL(r:Int)(l:T5):Nat->Nat->Bool
 |0,k=>true
 |d+1,k=>bif C0x r l k then false else okL r l d (k+1)
def k07(x:E3):Bool:=inR 1 3 x.1&&(decide (x.2.length<=16)&&okL x.1 x.2 x.2.length 0)
def r0r(l:T5):Prop:=l.length<=140737488355328/\∀ e∈l,e.1.size<=140737488355328/\e.2.2.2.length<=140737488355328
def D0x{r:Int}{l:T5}{k:Nat}{e:K0a}(b:l[k]?=some e):C0x r l k=bif I08 e.1 then(bif K1 e.2 then(bif decide (e.2.1=r)then(bif decide (0<k)then(match l[k-1]? with
  |some a => !X0o a.1 e.1
  |none=>false)else false)else true)else true)else true:=by unfold C0x;rw[b]
def R0v(r:Int)(l:T5)(j:r0r l):∀(d k fuel:Nat),k+d=l.length->d<fuel -> g8 l r fuel (k:Int)=some (bif okL r l d k then .inr ()else .inl false)
 |d,k,0,o,hf=>oM
 |0,k,fuel+1,o,hf=>by rw[g8.eq_2,iE (by simp;omega)];rfl
 |d+1,k,fuel+1,o,hf=>by
  have p:k<l.length:=oM;have c:=V3 p;have i:=j.2 _ (mG c);have w:=j.1;generalize l[k]=e at c i;obtain⟨nm,a,n,es⟩:=e;simp only at i;have s:=R0v r l j d (k+1) fuel oM oM;rw[g8.eq_2,iP (by simp;omega)];simp only[U1 c,oB,P0a nm oM,Z1 p (show l.length<=9223372036854775807 by omega),s,okL,D0x c];have m:=q00 (a,n,es) i.2;have fin:∀(b:Bool) (x y:Option (Bool ⊕ Unit)),(if b=true then x else y)=bif b then x else y:=λb x y=>by cases b<;>rfl
  have v:∀ b:Bool,(b || true):=λb=>by cases b<;>rfl
  cases hN:I08 nm;·simp only[bF,bT,Bool.and_false,O1,oB,cT,zF,if_true]
  by_cases hk0:k=0
  ·subst hk0;have f:decide (((0:Nat):Int)>0)=false:=rfl;have g:decide (0<0)=false:=rfl;simp only[f,g,bT,bF,Bool.false_and,O1,oB,cT,zF,fin];cases hR:decide (a=r);·simp only[bF,O1,bT,oB,cT,zF];cases K1 (a,n,es)<;>rfl
   simp only[bT,bF,H1,m,oB,cT,zF];cases K1 (a,n,es)<;>cases okL r l d (0+1)<;>rfl
  have q:k-1<l.length:=oM;have h:=V3 q;generalize l[k-1]=e' at h;obtain⟨t,A,z,u⟩:=e';have f:decide ((k:Int)>0):=dT oM;have g:decide (0<k):=dT oM;simp only[f,g,bT,bF,Bool.true_and,H1,K0d (show 0<k by omega) (show k<=9223372036854775807 by omega),U1 h,h,oB,cT,zF,fin];cases hS:X0o t nm;·simp only[bF,O1,bT,oB,cT,zF];cases K1 (a,n,es)<;>cases decide (a=r)<;>rfl
  cases hR:decide (a=r);·simp only[bF,O1,bT,oB,cT,zF];cases K1 (a,n,es)<;>rfl
  simp only[bT,bF,H1,m,oB,cT,zF];cases K1 (a,n,es)<;>cases okL r l d (k+1)<;>rfl
def d0b(x:E3)(a:r0r x.2):Z02 x=some (k07 x):=by
 obtain⟨r,l⟩:=x;have h:=R0v r l a l.length 0 P0 oM (j1 a.1);rw[show((0:Nat):Int)=0 from rfl]at h;unfold Z02 k07;simp only[d02,oB];have b:decide (((l.length:Nat):Int)>16) = !decide (l.length<=16):=by
  by_cases c:l.length<=16;·rw[dT c,dF oM];rfl
  rw[dF c,dT oM];rfl
 rw[b];cases inR 1 3 r;·rfl
 cases decide (l.length<=16);·rfl
 simp only[bT,zF,fT,if_false,h,oB,Bool.true_and];cases okL r l l.length 0<;>rfl
def N0j(l:T5):Prop:=l.length<=1048576/\∀ e∈l,e.1.size<=1048576/\e.2.2.2.length<=1048576
def N0j.ok{l:T5}(h:N0j l):r0r l:=⟨by have:=h.1;omega,λe a=>by have:=h.2 e a;omega⟩
def Q0s(l:T5)(b:N0j l)(r:Int):∀(d k fuel:Nat),k+d=l.length->d<fuel -> Y6 l fuel (k:Int) r (l.take k)=some (r,l)
 |d,k,0,c,hf=>oM
 |0,k,fuel+1,c,hf=>by rw[Y6.eq_2,iE (by simp;omega),List.take_of_length_le oM]
 |d+1,k,fuel+1,c,hf=>by have g:k<l.length:=oM;have a:=V3 g;have f:=b.2 _ (mG a);have h:=Q0l a;generalize l[k]=e at a f h;obtain⟨nm,j,n,es⟩:=e;simp only at f;have m:=b.1;have i:=Q0s l b r d (k+1) fuel oM oM;rw[Y6.eq_2,iP (by simp;omega)];simp only[U1 a,oB,N00 (j,n,es) (by simp only;omega)];rw[C0 (by simp only[List.length_take,lS];omega),oB,Z1 g oM,←h,i]
def R0s(x:E3)(a:N0j x.2):h02 x=some x:=by obtain⟨r,l⟩:=x;have h:=Q0s l a r l.length 0 P0 oM (j1 (by have:=a.1;simp only at this;omega));rw[show((0:Nat):Int)=0 from rfl,List.take_zero]at h;unfold h02;simp only[h,oB]
def fnd(s:BA)(l:T5):Nat->Nat->Option Nat
 |0,k=>none
 |d+1,k=>match l[k]? with
  |some e=>bif M7 e.1 s then some k else fnd s l d (k+1)
  |none=>none
def B09(x:E3)(s:BA):Option Nat:=fnd s x.2 x.2.length 0
def q0p{a:BA}{l:T5}:∀(d k i:Nat),fnd a l d k=some i->k<=i/\(∃ e,l[i]?=some e/\e.1=a)/\∀ j,k<=j->j<i->∀ e,l[j]?=some e->e.1≠a
 |0,k,i,h=>by cases h
 |d+1,k,i,h=>by
  unfold fnd at h;cases he:l[k]? with
  |none=>rw[he]at h;cases h
  |some e =>
   rw[he]at h;simp only at h;cases hb:M7 e.1 a
   ·rw[hb]at h;obtain⟨m,f,n⟩:=q0p d (k+1) i h;refine⟨oM,f,λj p o g b=>?_⟩;by_cases c:j=k;·subst c;rw[he]at b;cases b;intro h;rw[Z07.2 h]at hb;cases hb
    exact n j oM o g b
   rw[hb]at h;cases h;exact⟨Nat.le_refl _,⟨e,he,Z07.1 hb⟩,λj m f=>oM⟩
def S0v(l:T5)(a:BA)(g:l.length<=9223372036854775807):∀(d k fuel:Nat),k+d=l.length->d<fuel -> p6 l a fuel (k:Int)=some (match fnd a l d k with|some i => .inl (i:Int)|none => .inr ())
 |d,k,0,c,hf=>oM
 |0,k,fuel+1,c,hf=>by rw[p6.eq_2,iE (by simp;omega)];rfl
 |d+1,k,fuel+1,c,hf=>by have f:k<l.length:=oM;have b:=V3 f;generalize l[k]=e at b;obtain⟨nm,j,n,es⟩:=e;have h:=S0v l a g d (k+1) fuel oM oM;rw[p6.eq_2,iP (by simp;omega)];simp only[U1 b,oB,Z1 f g,h,fnd,b];cases M7 nm a<;>rfl
def s0r(x:E3)(a:BA)(b:x.2.length<=9223372036854775807):w00 x a=some (match B09 x a with|some i=>(i:Int)|none => -1):=by obtain⟨r,l⟩:=x;have h:=S0v l a b l.length 0 P0 oM (by unfold P0;simp only at b;omega);rw[show((0:Nat):Int)=0 from rfl]at h;unfold w00 B09;simp only[h,oB];cases fnd a l l.length 0<;>rfl
def E0x{x:E3}{b:BA}{i:Nat}(h:B09 x b=some i):i<x.2.length:=by obtain⟨_,⟨e,a,_⟩,_⟩:=q0p _ _ _ h;exact(gI.1 a).1
end Go.Proofs.YthakcafglempaaaGreat
