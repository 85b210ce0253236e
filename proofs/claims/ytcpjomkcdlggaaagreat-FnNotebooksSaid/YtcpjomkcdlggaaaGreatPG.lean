/- Plain laws: graphs: degrees, equality, edges put in order, sorted edges, copies. Plain laws: what is joined with a vertex, by either road. Plain laws: the graph of some vertices in their order, by either road. Plain laws: the canonical order and the canonical graph, by either road. Plain laws: vertices that no loop needs, cores, names, libraries, by either road. Plain laws: names and libraries, by either road. Plain laws: an entry dropped from a library, by either road. -/
import Derived.Test.YtcpjomkcdlggaaaGreatPart21
import Derived.Test.YtcpjomkcdlggaaaGreatPart29
import Derived.Test.YtcpjomkcdlggaaaGreatH36
import Derived.Test.YtcpjomkcdlggaaaGreatPart20
namespace Go.Proofs.YtcpjomkcdlggaaaGreat
set_option linter.all false
open Go.H
open IntKind (i64)
def k0v(v:Int)(e:O0):Nat:=(if e.1=v then 1 else 0)+(if e.2.2=v then 1 else 0)
def z06(v:Int):List O0->Nat
 | []=>0
 |e::r=>k0v v e+z06 v r
def S0w(v:Int)(e:O0):k0v v e<=2:=by unfold k0v;split<;>split<;>omega
theorem x0n(v:Int):∀ l,z06 v l<=2*l.length
 | []=>by simp[z06]
 |e::r=>by have:=S0w v e;have:=x0n v r;grind[z06,List.length_cons]
def V0j(es:List O0)(v:Int)(o:es.length<=1099511627776):∀(d k fuel acc:Nat),k+d=es.length->d<fuel->acc<=2*k ->
  G4 es v fuel (acc:Int) (k:Int)=some ((acc+z06 v (es.drop k):Nat):Int)
 |d,k,0,acc,i,hf,g=>by omega
 |0,k,fuel+1,acc,i,hf,g=>by
  rw[G4.eq_2,if_neg (by simp;omega),Z0 (by omega)];rfl
 |d+1,k,fuel+1,acc,i,hf,g=>by
  have j:k<es.length:=by omega
  have c:=U3 j
  generalize es[k]=e at c
  obtain⟨a,l,b⟩:=e
  have f:=λm h=>V0j es v o d (k+1) fuel m (by omega) (by omega) h
  have w1:i64.wrap ((acc:Int)+1)=((acc+1:Nat):Int):=by grind[w64]
  have p:i64.wrap (((acc+1:Nat):Int)+1)=((acc+2:Nat):Int):=by grind[w64]
  rw[G4.eq_2,if_pos (by simp;omega),Z1 c,I1 c]
  simp only[oB,z06,k0v,E2 j (show es.length<=9223372036854775807 by omega)]
  by_cases c1:a=v
  ·rw[if_pos (by simpa using c1),if_pos c1]
   by_cases c2:b=v
   ·rw[if_pos (by simpa using c2),if_pos c2,w1,p,f _ (by omega)];congr 2;omega
   ·rw[if_neg (by simpa using c2),if_neg c2,w1,f _ (by omega)];congr 2;omega
  ·rw[if_neg (by simpa using c1),if_neg c1]
   by_cases c2:b=v
   ·rw[if_pos (by simpa using c2),if_pos c2,w1,f _ (by omega)];congr 2;omega
   grind
theorem W0j(es:List O0)(v:Int):∀(fuel:Nat) (x y:Int),R6 es v fuel x y=G4 es v fuel x y
 |0,x,y=>rfl
 |fuel+1,x,y=>by
  rw[R6.eq_2,G4.eq_2]
  simp only[W0j es v fuel]
  by_cases c:(decide (y<((es.length:Nat):Int)))=true
  ·rw[if_pos c,if_pos c]
   cases hg:gi es y with
   |none=>rfl
   |some e=>grind
  grind
def c0m(g:z0)(v:Int)(a:g.2.2.length<=1099511627776):K02 g v=some ((z06 v g.2.2:Nat):Int):=by
 obtain⟨r,n,es⟩:=g
 unfold K02
 have h:=V0j es v a es.length 0 P0 0 (by omega) (X0 (by simp only at a;omega)) (Nat.zero_le _)
 grind
def O0t(g:z0)(v:Int)(a:g.2.2.length<=1099511627776):d04 g v=some ((z06 v g.2.2:Nat):Int):=by
 have h:=c0m g v a
 grind[d04,K02,W0j]
def f0e(g h:z0):Bool:=decide (g=h)
theorem c08(x y:O0):eqE x y=true↔x=y:=by simp[eqE]
def c0i(a b:List O0)(j:a.length=b.length)(i:a.length<=9223372036854775807):∀(d k fuel:Nat),k+d=a.length->d<fuel ->
  J2 a b fuel (k:Int)=some (if a.drop k=b.drop k then .inr ()else .inl false)
 |d,k,0,g,hf=>by omega
 |0,k,fuel+1,g,hf=>by
  simp_all[J2.eq_2,if_neg,Z0]
 |d+1,k,fuel+1,g,hf=>by
  have h:k<a.length:=by omega
  have l:k<b.length:=by omega
  have e:=U3 h
  have f:=U3 l
  generalize a[k]=x at e
  generalize b[k]=y at f
  have m:=c0i a b j i d (k+1) fuel (by omega) (by omega)
  rw[J2.eq_2,if_pos (by simp;omega),Z1 e,Z1 f,I1 e,I1 f]
  simp only[oB,E2 h i,m]
  by_cases c:x=y
  all_goals simp_all[if_neg,eqE,Bool.eq_false_iff,c08,if_pos]
def T0q(a b:List O0)(d:a.length<=9223372036854775807):I4 a b=some (decide (a=b)):=by
 unfold I4
 by_cases hab:a.length=b.length
 ·have h:=c0i a b hab d a.length 0 P0 (by omega) (by unfold P0;omega)
  rw[if_neg (by simp;omega),show(0:Int)=((0:Nat):Int) from rfl,h,dZ,dZ]
  by_cases c:a=b
  all_goals simp_all[if_pos,z9,if_neg]
 ·rw[if_pos (by simp;omega)]
  congr 1
  grind
theorem h0h(g h:z0)(b:g.2.2.length<=9223372036854775807):G9 g h=some (f0e g h):=by
 obtain⟨r,n,es⟩:=g
 obtain⟨d,c,a⟩:=h
 unfold G9 f0e
 simp only[Prod.mk.injEq]
 by_cases c1:r=d<;>by_cases c2:n=c<;>simp[c1,c2,E1,K1,T0q es a b]
def d0m(a b:List O0)(j:a.length=b.length)(i:a.length<=9223372036854775807):∀(d k fuel:Nat),k+d=a.length->d<fuel ->
  g7 a b fuel (k:Int)=some (if a.drop k=b.drop k then .inr ()else .inl false)
 |d,k,0,g,hf=>by omega
 |0,k,fuel+1,g,hf=>by
  simp_all[g7.eq_2,if_neg,Z0]
 |d+1,k,fuel+1,g,hf=>by
  have h:k<a.length:=by omega
  have l:k<b.length:=by omega
  have e:=U3 h
  have f:=U3 l
  generalize a[k]=x at e
  generalize b[k]=y at f
  have m:=d0m a b j i d (k+1) fuel (by omega) (by omega)
  rw[g7.eq_2,if_pos (by simp;omega),Z1 e,Z1 f,I1 e,I1 f]
  simp only[oB,E2 h i,m]
  by_cases c:x=y
  all_goals simp_all[if_neg,eqE,Bool.eq_false_iff,c08,if_pos]
def n0a(g h:z0)(b:g.2.2.length<=9223372036854775807):d8 g h=some (f0e g h):=by
 obtain⟨r,n,es⟩:=g
 obtain⟨f,d,a⟩:=h
 unfold d8 f0e
 by_cases c1:r=f
 ·by_cases c2:n=d
  ·by_cases hab:es.length=a.length
   ·have h:=d0m es a hab b es.length 0 P0 (by omega) (by grind[P0])
    simp only[c1,c2,hab,decide_true,bT,cF,Prod.mk.injEq,true_and]
    rw[if_neg (by simp),show(0:Int)=((0:Nat):Int) from rfl,h,dZ,dZ]
    by_cases c:es=a
    all_goals simp_all[if_pos,z9,if_neg]
   ·have j : ¬ es=a:=λe=>hab (by rw[e])
    have i:decide (((es.length:Nat):Int)=((a.length:Nat):Int))=false:=dF (by omega)
    simp_all
  ·simp[c1,c2]
 ·simp[c1]
def goE(x:O0):List O0->Bool×List O0
 | []=>(false,[])
 |y::l=>if V0 x y<0 then(true,x::y::l)else if V0 x y=0 then(true,y::l)else((goE x l).1,y::(goE x l).2)
def p0s(x:O0):∀ l,p02 V0 x l=bif(goE x l).1 then(goE x l).2 else(goE x l).2 ++ [x]
 | []=>rfl
 |y::l=>by
  have a:=p0s x l
  unfold p02 goE
  grind
def i0h(l:List O0)(w0 w1 i:Int)(m:l.length<=1099511627776):∀(d k fuel:Nat) (acc:List O0),k+d=l.length->d<fuel->acc.length<=k+1 ->
  L5 l w0 w1 i fuel true (k:Int) acc=some (true,acc++l.drop k)
 |d,k,0,acc,g,hf,f=>by omega
 |0,k,fuel+1,acc,g,hf,f=>by
  rw[L5.eq_2,if_neg (by simp;omega),Z0 (by omega),List.append_nil]
 |d+1,k,fuel+1,acc,g,hf,f=>by
  have h:k<l.length:=by omega
  have c:=U3 h
  generalize l[k]=e at c
  obtain⟨a,x,b⟩:=e
  have o:=i0h l w0 w1 i m d (k+1) fuel (acc ++ [(a,x,b)]) (by omega) (by omega) (by simp;omega)
  rw[L5.eq_2,if_pos (by simp;omega),I1 c]
  simp only[Z1 c,oB,X05,D0 (a0j _ _),E2 h (show l.length<=9223372036854775807 by omega),bT]
  have j:∀ b:Bool,(bif b then false else false)=false:=λb=>by cases b<;>rfl
  simp only[j,fT,if_false]
  grind[D0]
def X0j(l:List O0)(w0 w1 c:Int)(g:l.length<=1099511627776):∀(d k fuel:Nat) (acc:List O0),k+d=l.length->d<fuel->acc.length=k ->
  L5 l w0 w1 c fuel false (k:Int) acc=some ((goE (w0,w1,c) (l.drop k)).1,acc++(goE (w0,w1,c) (l.drop k)).2)
 |d,k,0,acc,i,hf,h=>by omega
 |0,k,fuel+1,acc,i,hf,h=>by
  simp_all[L5.eq_2,if_neg,Z0,goE]
 |d+1,k,fuel+1,acc,i,hf,h=>by
  have j:k<l.length:=by omega
  have f:=U3 j
  generalize l[k]=e at f
  obtain⟨a,x,b⟩:=e
  have m:=X0j l w0 w1 c g d (k+1) fuel (acc ++ [(a,x,b)]) (by omega) (by omega) (by simp;omega)
  have p:=i0h l w0 w1 c g d (k+1) fuel (acc ++ [(a,x,b)]) (by omega) (by omega) (by simp;omega)
  have o:=i0h l w0 w1 c g d (k+1) fuel ((acc ++ [(w0,w1,c)]) ++ [(a,x,b)]) (by omega) (by omega) (by simp;omega)
  rw[L5.eq_2,if_pos (by simp;omega),I1 f]
  simp only[Z1 f,oB,X05,D0 (a0j _ _),E2 j (show l.length<=9223372036854775807 by omega),bT,bF,goE]
  show _=_
  unfold P0j
  by_cases c1:V0 (w0,w1,c) (a,x,b)=0
  ·rw[if_pos (by simpa using c1),if_neg (by simp[c1]),if_neg (by omega),if_pos c1]
   grind[D0]
  ·rw[if_neg (by simpa using c1)]
   by_cases c2:V0 (w0,w1,c) (a,x,b)<0
   ·rw[if_pos (by simp[c2]),if_pos c2,D0 (by simp;omega),oB,D0 (by simp;omega),oB,o];simp
   ·rw[if_neg (by simp[c2]),if_neg c2,if_neg c1,D0 (by simp;omega),oB,m];simp
theorem d08(l:List O0)(e:O0)(b:l.length<=1099511627776):E8 l e=some (p02 V0 e l):=by
 obtain⟨w0,w1,a⟩:=e
 unfold E8
 have h:=X0j l w0 w1 a b l.length 0 P0 [] (by omega) (X0 (by omega)) rfl
 rw[show((0:Nat):Int)=0 from rfl,List.drop_zero,List.nil_append]at h
 simp only[h,oB,p0s]
 have c:∀ l:List O0,(goE (w0,w1,a) l).2.length<=l.length+1:=λl=>by
  induction l with
  |nil=>simp[goE]
  |cons y l d =>
   grind[goE,List.length_cons]
 have:=c l
 cases (goE (w0,w1,a) l).1 with
 |true=>rfl
 |false =>
  simp only[Bool.not_false,if_true,cond_false]
  rw[D0 (by simp;omega),oB]
theorem o0a(e:O0):∀ l:List O0,(p02 V0 e l).length<=l.length+1
 | []=>by simp[p02]
 |y::l=>by
  have:=o0a e l
  grind[p02,List.length_cons]
def X0f(es:List O0)(a:es.length<=1099511627776):b02 es=some (V4 V0 [] es):=by
 unfold b02
 rw[D0 (by simp;omega),oB,D0 (by simp;omega),oB,nA]
 exact congrArg some (d0p W7 c08 es es λ_=>Iff.rfl)
def P00(g:z0)(a:g.2.2.length<=1099511627776):V3 g=some g:=by
 obtain⟨r,n,es⟩:=g
 unfold V3
 simp only
 rw[D0 (by grind)];rfl
theorem i03(g:z0)(a:g.2.2.length<=1099511627776):W4 g=some g:=by
 obtain⟨r,n,es⟩:=g
 unfold W4
 simp only
 rw[D0 (by grind)];rfl
inductive Rch (es:List O0) (v:Int):Int->Prop
 |base:Rch es v v
 |fwd {e:O0}:e∈es->Rch es v e.1->Rch es v e.2.2
 |bwd {e:O0}:e∈es->Rch es v e.2.2->Rch es v e.1
def Rch.closed{es:List O0}{v:Int}:∀ e∈es,Rch es v e.1↔Rch es v e.2.2:=λe a=>⟨.fwd a,.bwd a⟩
def Rch.sub{es:List O0}{v:Int}{P:Int->Prop}(c:P v)(a:∀ e∈es,P e.1↔P e.2.2):∀ {x},Rch es v x->P x
 |_,.base=>c
 |_,.fwd b h=>(a _ b).1 (Rch.sub c a h)
 |_,.bwd b h=>(a _ b).2 (Rch.sub c a h)
def k03(S:List Bool)(i:Int):Bool:=S.getD i.toNat false
def stJ(S:List Bool)(e:O0):List Bool:=(S.set e.1.toNat true).set e.2.2.toNat true
def pJ:List O0->Bool->List Bool->Bool×List Bool
 | [],c,S=>(c,S)
 |e::r,c,S=>bif k03 S e.1 == k03 S e.2.2 then pJ r c S else pJ r true (stJ S e)
def cF:List Bool->Nat
 | []=>0
 |b::r=>(bif b then 0 else 1)+cF r
theorem U0q:∀(S:List Bool) (i:Nat),cF (S.set i true)<=cF S
 | [],i=>by simp[cF]
 |b::r,0=>by simp[cF]
 |b::r,i+1=>by have:=U0q r i;grind[cF]
def l0v:∀(S:List Bool) (i:Nat),S[i]?=some false->cF (S.set i true)<cF S
 | [],i,h=>by simp at h
 |b::r,0,h=>by grind[cF]
 |b::r,i+1,h=>by have:=l0v r i (by simpa using h);simp_all[List.set_cons_succ,cF]
theorem q0x:∀ S:List Bool,cF S<=S.length
 | []=>by simp[cF]
 |b::r=>by have:=q0x r;cases b<;>simp only[cF,List.length_cons,cond_true,cond_false]<;>omega
def inN(n:Nat)(es:List O0):Prop:=∀ e∈es,(0<=e.1/\e.1<(n:Int))/\(0<=e.2.2/\e.2.2<(n:Int))
theorem Y0f{S:List Bool}{i:Nat}(h:i<S.length)(x:Int):k03 (S.set i true) x=(decide (x.toNat=i) || k03 S x):=by
 unfold k03
 grind
theorem V0q:∀(es:List O0) (c:Bool) (S:List Bool),(pJ es c S).2.length=S.length
 | [],c,S=>rfl
 |e::r,c,S=>by
  unfold pJ
  cases k03 S e.1 == k03 S e.2.2
  ·simp only[cond_false];rw[V0q r];simp[stJ]
  ·simp only[cond_true];exact V0q r c S
theorem y0n{n:Nat}:∀(es:List O0) (c:Bool) (a:List Bool),a.length=n->inN n es->∀ x,k03 a x=true->k03 (pJ es c a).2 x=true
 | [],c,a,b,d,x,h=>h
 |e::r,c,a,b,d,x,h=>by
  have f:=d e mS
  have g:inN n r:=λe f=>d e (mC _ f)
  unfold pJ
  cases k03 a e.1 == k03 a e.2.2
  ·simp only[cond_false]
   refine y0n r _ _ (by simp[stJ,b]) g x ?_
   grind[stJ,Y0f,List.length_set]
  ·simp only[cond_true];exact y0n r c a b g x h
def Y0j{n:Nat}{P:Int->Prop}:∀(es:List O0) (c:Bool) (a:List Bool),a.length=n->inN n es->(∀ e∈es,P e.1↔P e.2.2)->(∀ x,0<=x->k03 a x=true->P x)->∀ x,0<=x->k03 (pJ es c a).2 x=true->P x
 | [],c,a,f,g,d,i,x,h0,h=>i x h0 h
 |e::r,c,a,f,g,d,i,x,h0,h=>by
  have b:=g e mS
  have k:inN n r:=λe b=>g e (mC _ b)
  have j:=λe b=>d e (mC _ b)
  have l:=d e mS
  unfold pJ at h
  cases hb:k03 a e.1 == k03 a e.2.2
  ·rw[hb]at h
   refine Y0j r true (stJ a e) (by simp[stJ,f]) k j (λy m h=>?_) x h0 h
   rw[stJ,Y0f (by grind),Y0f (by omega)]at h
   grind
  ·rw[hb]at h
   exact Y0j r c a f k j i x h0 h
theorem W0q{n:Nat}:∀(es:List O0) (c:Bool) (a:List Bool),a.length=n->inN n es->cF (pJ es c a).2<=cF a/\((pJ es c a).1=true->c=true∨cF (pJ es c a).2<cF a)/\((pJ es c a).1=false->c=false/\(pJ es c a).2=a/\∀ e∈es,k03 a e.1=k03 a e.2.2)
 | [],c,a,d,f=>⟨Nat.le_refl _,λh => .inl h,λh=>⟨h,rfl,λe b=>nomatch b⟩⟩
 |e::r,c,a,d,f=>by
  have b:=f e mS
  have i:inN n r:=λe b=>f e (mC _ b)
  unfold pJ
  cases hb:k03 a e.1 == k03 a e.2.2
  ·simp only[cond_false]
   obtain⟨k,l,m⟩:=W0q r true (stJ a e) (by simp[stJ,d]) i
   have q:cF (stJ a e)<cF a:=by
    have g:∀(x:Int),0<=x->x<n->k03 a x=false->a[x.toNat]?=some false:=λx s t p=>by
     grind[k03,List.getElem?_eq_getElem]
    cases g1:k03 a e.1
    ·have:=l0v a _ (g _ b.1.1 b.1.2 g1)
     grind[U0q,stJ]
    ·have o:k03 a e.2.2=false:=by
      grind
     have j:(a.set e.1.toNat true)[e.2.2.toNat]?=some false:=by
      grind
     have:=l0v _ _ j
     grind[U0q,stJ]
   grind
  ·simp only[cond_true]
   obtain⟨k,l,m⟩:=W0q r c a d i
   grind
theorem giB{a:List Bool}{n:Nat}(c:a.length=n){x:Int}(h0:0<=x)(b:x<n):gi a x=some (k03 a x):=by
 grind[gi,k03,b0h,List.getElem?_eq_getElem]
def e0m(es:List O0){n:Nat}(q:inN n es)(p:es.length<=9223372036854775807):∀(d k fuel:Nat) (c:Bool) (f:List Bool),f.length=n->k+d=es.length->d<fuel ->
  p5 es fuel c (k:Int) f=some (pJ (es.drop k) c f)
 |d,k,0,c,f,i,m,hf=>by omega
 |0,k,fuel+1,c,f,i,m,hf=>by
  rw[p5.eq_2,if_neg (by simp;omega),Z0 (by omega)];rfl
 |d+1,k,fuel+1,c,f,i,m,hf=>by
  have o:k<es.length:=by omega
  have j:=U3 o
  have g:=q _ (mG j)
  generalize es[k]=e at j g
  obtain⟨a,l,b⟩:=e
  have u:=λt s h=>e0m es q p d (k+1) fuel t s h (by omega) (by omega)
  rw[p5.eq_2,if_pos (by simp;omega),I1 j]
  simp only[Z1 j,oB,giB i g.1.1 g.1.2,giB i g.2.1 g.2.2,E2 o p,giB (show(f.set a.toNat true).length=n by simp[i]) g.2.1 g.2.2,pJ]
  cases hb:k03 f a == k03 f b
  ·simp only[bF,if_true,cF]
   exact u _ _ (by simp[i])
  grind
def f0m(es:List O0){n:Nat}(f:inN n es)(w:es.length<=9223372036854775806):∀(m fuel:Nat) (a:List Bool),a.length=n->cF a<=m->m+1<fuel ->
  ∃ b,w6 es fuel true a=some b/\b.length=n/\(∀ x,k03 a x=true->k03 b x=true)/\(∀ e∈es,k03 b e.1=k03 b e.2.2) /\
   ∀ P:Int->Prop,(∀ e∈es,P e.1↔P e.2.2)->(∀ x,0<=x->k03 a x=true->P x)->∀ x,0<=x->k03 b x=true->P x
 |m,0,a,d,z,hf=>by omega
 |m,fuel+1,a,d,z,hf=>by
  have h0:=e0m es f (by omega) es.length 0 P0 false a d (by omega) (by unfold P0;omega)
  rw[show((0:Nat):Int)=0 from rfl,dZ]at h0
  obtain⟨o,g,i⟩:=W0q es false a d f
  have y:=V0q es false a
  rw[w6.eq_2,if_pos rfl,h0,oB]
  have k:=y0n es false a d f
  have l:=λP=>Y0j (P:=P) es false a d f
  generalize pJ es false a=q at *
  obtain⟨c,b⟩:=q
  simp only at o g i y k l ⊢
  cases c with
  |true =>
   rcases g rfl with h|h
   ·cases h
   ·obtain⟨S2,p,s,t,u,v⟩:=f0m es f w (m-1) fuel b (by omega) (by omega) (by omega)
    exact⟨S2,p,s,λx C=>t x (k x C),u,λP j A=>v P j (l P j A)⟩
  |false =>
   obtain⟨_,e,D⟩:=i rfl
   subst e
   obtain _|fuel:=fuel
   ·omega
   ·rw[w6.eq_2,if_neg (by simp)]
    grind
def g0p(r:Int)(n:Nat)(es:List O0)(p:inN n es)(o:es.length<=9223372036854775806)(s:1<=n)(t:n<=140737488355328):
  ∃ a,R01 (r,(n:Int),es) 0=some a/\a.length=n/\∀ x,0<=x->x<(n:Int)->(k03 a x=true↔Rch es 0 x):=by
 unfold R01
 simp only[iN]
 have m:gi (List.replicate n (false:Bool)) 0=some false:=by
  rw[F0e (x:=false)];rw[List.getElem?_replicate,if_pos (by omega)]
 rw[D0 (by omega),oB,m,oB]
 have k:((List.replicate n (false:Bool)).set (0:Int).toNat true).length=n:=by simp
 obtain⟨b,d,f,g,i,j⟩:=f0m es p o n P0 _ k (by grind[q0x,List.replicate,set]) (by unfold P0;omega)
 rw[d]
 have c:∀ x,k03 ((List.replicate n (false:Bool)).set (0:Int).toNat true) x=decide (x.toNat=0):=λx=>by
  grind[Y0f,k03,List.replicate]
 refine⟨b,rfl,f,λx h0 q=>⟨λh=>?_,λh=>?_⟩⟩
 ·refine j (Rch es 0) Rch.closed (λy u h=>?_) x h0 h
  rw[c]at h
  have:y=0:=by simp at h;omega
  subst this;exact .base
 ·exact Rch.sub (P:=λx=>k03 b x=true) (g 0 (by rw[c];rfl)) (λe l=>by rw[i e l]) h
def r0x(l:List Int)(w:Int)(e:l.length<=9223372036854775807):∀(d k fuel:Nat),k+d=l.length->d<fuel ->
  l01 l w fuel (k:Int)=some (if w∈l.drop k then .inl true else .inr ())
 |d,k,0,b,hf=>by omega
 |0,k,fuel+1,b,hf=>by
  simp_all[l01.eq_2,if_neg,Z0]
 |d+1,k,fuel+1,b,hf=>by
  have c:k<l.length:=by omega
  have a:=U3 c
  generalize l[k]=x at a
  have f:=r0x l w e d (k+1) fuel (by omega) (by omega)
  rw[l01.eq_2,if_pos (by simp;omega),I1 a]
  simp only[Z1 a,oB,E2 c e,f,mE]
  grind
def q0d(l:List Int)(w:Int)(a:l.length<=9223372036854775807):d01 l w=some (decide (w∈l)):=by
 unfold d01
 have h:=r0x l w a l.length 0 P0 (by omega) (by unfold P0;omega)
 rw[show((0:Nat):Int)=0 from rfl,dZ]at h
 rw[h,oB]
 by_cases c:w∈l
 all_goals simp_all[if_pos,z9,if_neg]
def s1(u:List Int)(e:O0):List Int:=if e.1∈u then p02 W01 e.2.2 u else u
def s2(u:List Int)(e:O0):List Int:=if e.2.2∈u then p02 W01 e.1 u else u
def pS:List O0->List Int->List Int
 | [],u=>u
 |e::r,u=>pS r (s2 (s1 u e) e)
theorem Z0j{u:List Int}{e:O0}{x:Int}:x∈s1 u e↔x∈u∨(e.1∈u/\x=e.2.2):=by
 grind[s1,o0c,t05,absurd]
theorem a0k{u:List Int}{e:O0}{x:Int}:x∈s2 u e↔x∈u∨(e.2.2∈u/\x=e.1):=by
 grind[s2,o0c,t05,absurd]
theorem m0v(u:List Int)(e:O0):(s1 u e).length<=u.length+1:=by
 grind[s1,l0a]
theorem n0v(u:List Int)(e:O0):(s2 u e).length<=u.length+1:=by
 grind[s2,l0a]
theorem X0q:∀(es:List O0) (u:List Int),(pS es u).length<=u.length+2*es.length
 | [],u=>by simp[pS]
 |e::r,u=>by
  have:=X0q r (s2 (s1 u e) e)
  grind[n0v,s1,m0v,pS,List.length_cons]
theorem Z0f:∀(es:List O0) (u:List Int) (x:Int),x∈u->x∈pS es u
 | [],u,x,h=>h
 |e::r,u,x,h=>Z0f r _ x (a0k.2 (.inl (Z0j.2 (.inl h))))
def b0k{P:Int->Prop}:∀(es:List O0) (u:List Int),(∀ e∈es,P e.1↔P e.2.2)->(∀ x∈u,P x)->∀ x∈pS es u,P x
 | [],u,a,b=>b
 |e::r,u,a,b=>b0k r _ (λe c=>a e (mC _ c)) λx d=>by
  grind[List.mem_cons_self,s1,Z0j,a0k]
def h0p:∀(es:List O0) (u:List Int) (e:O0),e∈es->e.1∈u∨e.2.2∈u->e.1∈pS es u/\e.2.2∈pS es u
 |b::r,u,e,a,h=>by
  simp only[pS]
  rcases mE.1 a with rfl|a
  ·grind[s1,Z0j,Z0f,a0k]
  ·exact h0p r _ e a (h.imp (λh=>a0k.2 (.inl (Z0j.2 (.inl h)))) λh=>a0k.2 (.inl (Z0j.2 (.inl h))))
def act(es:List O0)(u:List Int):Nat:=es.countP λe=>decide (e.1∈u)&&decide (e.2.2∈u)
def clo(es:List O0)(u:List Int):Prop:=∀ e∈es,e.1∈u↔e.2.2∈u
theorem g0y(es:List O0)(u:List Int):act es u<=es.length:=List.countP_le_length
def g0m{c:Type}{p q:c->Bool}:∀ {l:List c},(∀ x∈l,p x=true->q x=true)->(∃ x∈l,p x=false/\q x=true)->l.countP p<l.countP q
 | [],_,⟨x,a,_⟩=>nomatch a
 |y::l,h,⟨x,a,d,e⟩=>by
  have f:l.countP p<=l.countP q:=List.countP_mono_left λz b=>h z (mC _ b)
  rcases mE.1 a with rfl|a
  ·grind
  ·have g:=g0m (l:=l) (λz b=>h z (mC _ b)) ⟨x,a,d,e⟩
   grind
def a0g{es:List O0}{u:List Int}(h:clo es u)(x:Int):x∈pS es u↔x∈u :=
 ⟨b0k (P:=λx=>x∈u) es u h (λ_ h=>h) x,Z0f es u x⟩
def o0v{es:List O0}{u:List Int}:clo es (pS es u)∨act es u<act es (pS es u):=by
 by_cases h:clo es u
 ·left
  intro e a
  rw[a0g h,a0g h];exact h e a
 ·right
  have:∃ e∈es,¬ (e.1∈u↔e.2.2∈u):=by
   refine Classical.byContradiction λb=>h λe a=>?_
   grind
  obtain⟨e,a,c⟩:=this
  refine g0m (λx f h=>?_) ⟨e,a,?_,?_⟩
  ·simp_all[aE,dE,Z0f]
  ·grind
  ·have d:e.1∈u∨e.2.2∈u:=by
    grind
   simp_all[h0p,aE,dE]
def itS(es:List O0):Nat->List Int->List Int
 |0,u=>u
 |j+1,u=>itS es j (pS es u)
def q0s(es:List O0):∀(j:Nat) (u:List Int),(itS es j u).length<=u.length+j*(2*es.length)
 |0,u=>by simp[itS]
 |j+1,u=>by have:=q0s es j (pS es u);have:=X0q es u;simp only[itS,Nat.add_mul,Nat.one_mul];omega
def r0s(es:List O0):∀(a:Nat) (u:List Int),clo es u->clo es (itS es a u)
 |0,u,h=>h
 |a+1,u,h=>r0s es a _ λe b=>by rw[a0g h,a0g h];exact h e b
theorem s0s(es:List O0):∀(a:Nat) (u:List Int),clo es (itS es a u)∨act es u+a<=act es (itS es a u)
 |0,u => .inr (Nat.le_refl _)
 |a+1,u=>by
  rcases o0v (es:=es) (u:=u)with h|h
  ·exact .inl (r0s es a _ h)
  ·rcases s0s es a (pS es u)with b|b
   all_goals grind[itS]
def i0p(es:List O0):∀(j:Nat) (u:List Int) (x:Int),x∈u->x∈itS es j u
 |0,u,x,h=>h
 |j+1,u,x,h=>i0p es j _ x (Z0f es u x h)
def h0m{P:Int->Prop}(es:List O0)(c:∀ e∈es,P e.1↔P e.2.2):∀(b:Nat) (u:List Int),(∀ x∈u,P x)->∀ x∈itS es b u,P x
 |0,u,a=>a
 |b+1,u,a=>h0m es c b _ (b0k es u c a)
def b0g(es:List O0)(v x:Int):x∈itS es (es.length+1) [v]↔Rch es v x:=by
 constructor
 ·exact h0m (P:=Rch es v) es Rch.closed _ _ (λy a=>by simp at a;subst a;exact .base) x
 ·have b:clo es (itS es (es.length+1) [v]):=by
   grind[s0s,g0y,itS]
  exact Rch.sub (P:=λx=>x∈itS es (es.length+1) [v]) (i0p _ _ _ _ (by simp)) b
def c0k(es:List O0)(p:es.length<=9223372036854775807):∀(d k fuel:Nat) (u:List Int),k+d=es.length->d<fuel->u.length+2*d<=1099511627776 ->
  C4 es fuel u (k:Int)=some (pS (es.drop k) u)
 |d,k,0,u,m,hf,q=>by omega
 |0,k,fuel+1,u,m,hf,q=>by
  rw[C4.eq_2,if_neg (by simp;omega),Z0 (by omega)];rfl
 |d+1,k,fuel+1,u,m,hf,q=>by
  have o:k<es.length:=by omega
  have i:=U3 o
  generalize es[k]=e at i
  obtain⟨a,l,b⟩:=e
  have v:=λt h=>c0k es p d (k+1) fuel t (by omega) (by omega) h
  have s:=m0v u (a,l,b)
  have j:=n0v (s1 u (a,l,b)) (a,l,b)
  rw[C4.eq_2,if_pos (by simp;omega),I1 i]
  simp only[Z1 i,oB,q0d u _ (by omega),E2 o p,pS]
  by_cases c:a∈u
  ·rw[if_pos (by simpa using c),Q0f _ _ (by omega),oB]
   have f:s1 u (a,l,b)=p02 W01 b u:=if_pos c
   rw[f]at s j ⊢
   rw[q0d _ _ (by omega),oB]
   by_cases c2:b∈p02 W01 b u
   ·rw[if_pos (by simpa using c2),Q0f _ _ (by omega),oB]
    have g:s2 (p02 W01 b u) (a,l,b)=p02 W01 a (p02 W01 b u):=if_pos c2
    grind
   ·rw[if_neg (by simpa using c2)]
    have g:s2 (p02 W01 b u) (a,l,b)=p02 W01 b u:=if_neg c2
    grind
  ·rw[if_neg (by simpa using c)]
   have f:s1 u (a,l,b)=u:=if_neg c
   rw[f]at j ⊢
   by_cases c2:b∈u
   ·rw[if_pos (by simpa using c2),Q0f _ _ (by omega),oB]
    have g:s2 u (a,l,b)=p02 W01 a u:=if_pos c2
    grind
   ·rw[if_neg (by simpa using c2)]
    have g:s2 u (a,l,b)=u:=if_neg c2
    grind
def d0k(es:List O0)(c:es.length<=120):∀(d k fuel:Nat) (u:List Int),k+d=es.length+1->d<fuel->u.length<=1+k*240 ->
  j7 es fuel u (k:Int)=some (itS es d u)
 |d,k,0,u,a,hf,b=>by omega
 |0,k,fuel+1,u,a,hf,b=>by
  rw[j7.eq_2,if_neg (by grind[w64])];rfl
 |d+1,k,fuel+1,u,a,hf,b=>by
  have h0:=c0k es (by omega) es.length 0 P0 u (by omega) (X0 (by omega)) (by omega)
  rw[show((0:Nat):Int)=0 from rfl,dZ]at h0
  have e:=d0k es c d (k+1) fuel (pS es u) (by omega) (by omega) (by grind[X0q])
  rw[j7.eq_2,if_pos (by grind[w64]),h0,oB,E2 (show k<1000 by omega) (by omega),e]
  rfl
def getI(P:List Int)(v:Int):Int:=P.getD v.toNat (-1)
def W03:List Int->Nat->List Int->List Int
 |A,k,[]=>A
 |A,k,v::r=>W03 (A.set v.toNat (k:Int)) (k+1) r
def plc(n:Nat)(o:List Int):List Int:=W03 (List.replicate n (-1)) 0 o
theorem e0k:∀(o:List Int) (k:Nat) (A:List Int),(W03 A k o).length=A.length
 | [],k,A=>rfl
 |v::r,k,A=>by rw[W03,e0k r];simp
def inV(n:Nat)(o:List Int):Prop:=∀ v∈o,0<=v/\v<(n:Int)
theorem giI{P:List Int}{n:Nat}(b:P.length=n){x:Int}(h0:0<=x)(a:x<n):gi P x=some (getI P x):=by
 grind[gi,getI,b0h,List.getElem?_eq_getElem]
def C07{A:List Int}{v x:Int}{y:Int}(h0:0<=v)(a:v.toNat<A.length)(b:0<=x):getI (A.set v.toNat y) x=if x=v then y else getI A x:=by
 unfold getI
 grind
theorem c0g{n:Nat}:∀(o:List Int) (k:Nat) (A:List Int),A.length=n->inV n o->(∀ x,0<=x -> -1<=getI A x/\getI A x<(k:Int))->∀ x,0<=x -> -1<=getI (W03 A k o) x/\getI (W03 A k o) x<((k+o.length:Nat):Int)
 | [],k,A,c,a,h,x,b=>h x b
 |v::r,k,A,c,a,h,x,b=>by
  have e:=a v mS
  have:=c0g r (k+1) (A.set v.toNat (k:Int)) (by simp[c]) (λw f=>a w (mC _ f)) (λy d=>by
   rw[C07 e.1 (by omega) d]
   have:=h y d
   split<;>omega) x b
  grind[W03,List.length_cons]
theorem q0c(n:Nat)(x:Int):getI (List.replicate n (-1)) x = -1:=by
 unfold getI
 rw[List.getD_eq_getElem?_getD,List.getElem?_replicate]
 split<;>rfl
def j0h{n:Nat}{o:List Int}(b:inV n o){x:Int}(a:0<=x): -1<=getI (plc n o) x/\getI (plc n o) x<(o.length:Int):=by
 have:=c0g o 0 (List.replicate n (-1)) (by simp) b (λx a=>by rw[q0c];omega) x a
 rw[Nat.zero_add]at this;exact this
def t0s(n:Nat)(o:List Int):(plc n o).length=n:=by grind[plc,e0k]
def pE(P:List Int):List O0->List O0
 | []=>[]
 |e::r=>bif decide (0<=getI P e.1)&&decide (0<=getI P e.2.2)then(getI P e.1,e.2.1,getI P e.2.2)::pE P r else pE P r
theorem z0n(P:List Int):∀ es,(pE P es).length<=es.length
 | []=>by simp[pE]
 |e::r=>by
  have:=z0n P r
  unfold pE
  cases decide (0<=getI P e.1)&&decide (0<=getI P e.2.2)<;>simp only[cond_true,cond_false,List.length_cons]<;>omega
theorem s0x{n:Nat}{o:List Int}(f:inV n o):∀(es:List O0),inN n es->inN o.length (pE (plc n o) es)
 | [],c=>λe a=>nomatch a
 |e::r,c=>by
  have g:=s0x f r λe a=>c e (mC _ a)
  have a:=c e mS
  unfold pE
  cases hb:decide (0<=getI (plc n o) e.1)&&decide (0<=getI (plc n o) e.2.2)
  ·grind
  ·simp only[cond_true]
   simp only[Bool.and_eq_true,decide_eq_true_eq]at hb
   intro d b
   rcases List.mem_cons.1 b with rfl|b
   ·simp_all[j0h]
   ·exact g d b
def G00(g:z0)(o:List Int):z0:=(g.1,(o.length:Int),V4 V0 [] (pE (plc g.2.1.toNat o) g.2.2))
theorem Z02:∀(r l:List O0),(V4 V0 l r).length<=l.length+r.length
 | [],l=>by simp[V4]
 |e::r,l=>by have:=Z02 r (p02 V0 e l);grind[o0a,V4,List.length_cons]
theorem G0e(g:z0)(o:List Int):(G00 g o).2.2.length<=g.2.2.length:=by
 have:=Z02 (pE (plc g.2.1.toNat o) g.2.2) []
 grind[z0n,plc,G00,List.length_nil]
def i0m{n:Nat}{r:Int}{es:List O0}{o:List Int}(c:inV n o)(b:inN n es):inN o.length (G00 (r,(n:Int),es) o).2.2:=by
 intro e a
 simp only[G00,iN]at a
 rcases(J01 W7 e _ _).1 a with h|h
 ·cases h
 ·exact s0x c es b e h
def u0s(n:Nat)(c:n<=140737488355328):∀(d k fuel:Nat),k+d=n->d<fuel ->
  d02 n fuel (k:Int) (List.replicate k (-1)++List.replicate d 0)=some (List.replicate n (-1))
 |d,k,0,a,hf=>by omega
 |0,k,fuel+1,a,hf=>by
  simp_all[d02.eq_2,if_neg]
 |d+1,k,fuel+1,a,hf=>by
  have b:gi (List.replicate k (-1)++List.replicate (d+1) (0:Int)) (k:Int)=some 0:=by
   simp_all[b0h,List.getElem?_append_right]
  have f:=u0s n c d (k+1) fuel (by omega) (by omega)
  rw[d02.eq_2,if_pos (by simp;omega),b,oB,E2 (show k<n by omega) (by omega),iN]
  have e:(List.replicate k (-1)++List.replicate (d+1) (0:Int)).set k (-1)=List.replicate (k+1) (-1)++List.replicate d 0:=by
   rw[List.set_append_right _ _ (by simp),List.length_replicate,Nat.sub_self,List.replicate_succ,List.set_cons_zero,List.replicate_succ']
   simp
  rw[e,f]
def v0s(o:List Int){n:Nat}(h:inV n o)(g:o.length<=9223372036854775807):∀(d k fuel:Nat) (A:List Int),A.length=n->k+d=o.length->d<fuel ->
  c02 o fuel (k:Int) A=some (W03 A k (o.drop k))
 |d,k,0,A,a,e,hf=>by omega
 |0,k,fuel+1,A,a,e,hf=>by
  rw[c02.eq_2,if_neg (by simp;omega),Z0 (by omega)];rfl
 |d+1,k,fuel+1,A,a,e,hf=>by
  have f:k<o.length:=by omega
  have b:=U3 f
  have c:=h _ (mG b)
  generalize o[k]=v at b c
  have i:=v0s o h g d (k+1) fuel (A.set v.toNat (k:Int)) (by simp[a]) (by omega) (by omega)
  rw[c02.eq_2,if_pos (by simp;omega),I1 b,Z1 b,oB,giI a c.1 c.2,oB,E2 f g,i]
  rfl
theorem w0s(es:List O0){n:Nat}(p:inN n es)(t:es.length<=1099511627776)(P:List Int)(g:P.length=n)(r m:Int):∀(d k fuel:Nat) (acc:List O0),k+d=es.length->d<fuel->acc.length<=k ->
  e01 es P fuel (k:Int) r m acc=some (r,m,acc++pE P (es.drop k))
 |d,k,0,acc,j,hf,i=>by omega
 |0,k,fuel+1,acc,j,hf,i=>by
  simp_all[e01.eq_2,if_neg,Z0,pE]
 |d+1,k,fuel+1,acc,j,hf,i=>by
  have o:k<es.length:=by omega
  have f:=U3 o
  have c:=p _ (List.mem_of_getElem? f)
  generalize es[k]=e at f c
  obtain⟨a,l,b⟩:=e
  have q:=λs h=>w0s es p t P g r m d (k+1) fuel s (by omega) (by omega) h
  rw[e01.eq_2,if_pos (by simp;omega),I1 f]
  simp only[Z1 f,oB,giI g c.1.1 c.1.2,giI g c.2.1 c.2.2,E2 o (show es.length<=9223372036854775807 by omega),pE]
  by_cases c1:0<=getI P a
  ·simp only[show decide (getI P a ≥ 0)=true by simpa using c1,E1,oB,cond_true,show decide (0<=getI P a)=true by simpa using c1,Bool.true_and]
   by_cases c2:0<=getI P b
   ·rw[if_pos (by simpa using c2),D0 (by simp;omega),oB,q _ (by simp;omega)]
    simp[c2]
   grind
  ·simp only[show decide (getI P a ≥ 0)=false by simpa using c1,K1,oB,cond_false,show decide (0<=getI P a)=false by simpa using c1,Bool.false_and]
   rw[if_neg (by simp),q _ (by omega)]
def A0n(r:Int)(n:Nat)(es:List O0)(o:List Int)(d:inN n es)(e:inV n o)(g:n<=1000000)(c:es.length<=1099511627776)(f:o.length<=1099511627776):
  J04 (r,(n:Int),es) o=some (G00 (r,(n:Int),es) o):=by
 unfold J04
 have b:=u0s n (by omega) n 0 P0 (by omega) (X0 (by omega))
 have a:=v0s o e (by omega) o.length 0 P0 (List.replicate n (-1)) (by simp) (by omega) (X0 (by omega))
 have h0:=w0s es d c (plc n o) (t0s n o) r ((o.length:Nat):Int) es.length 0 P0 [] (by omega) (X0 (by omega)) (Nat.le_refl _)
 rw[show((0:Nat):Int)=0 from rfl]at h0 a b
 rw[List.replicate_zero,nA]at b
 rw[dZ]at a
 rw[dZ,nA]at h0
 simp only[iN]
 rw[D0 (by omega),oB,oB,List.length_replicate,D0 (by omega),oB,b,oB,a,oB]
 rw[show W03 (List.replicate n (-1)) 0 o=plc n o from rfl,h0]
 simp only[oB]
 rw[X0f _ (by grind[z0n,plc]),oB]
 rfl
def p0v(A:List Int)(i k:Nat):(A.map (·+1)).set i (((k+1:Nat):Int))=(A.set i (k:Int)).map (·+1):=by
 rw[List.map_set];rfl
theorem f0k{A:List Int}{n:Nat}(c:A.length=n){x:Int}(h0:0<=x)(a:x<n):gi (A.map (·+1)) x=some (getI A x+1):=by
 have d:x.toNat<A.length:=by omega
 have e:x=((x.toNat:Nat):Int):=by omega
 have b:gi (A.map (·+1)) ((x.toNat:Nat):Int)=some (getI A x+1):=by
  grind[b0h,List.getElem?_eq_getElem,getI]
 grind
def g0k{n:Nat}:∀(o:List Int) (k:Nat) (A:List Int) (x:Int),A.length=n->inV n o->0<=x->x ∉ o->getI (W03 A k o) x=getI A x
 | [],k,A,x,c,a,b,h=>rfl
 |v::r,k,A,x,c,a,b,h=>by
  have f:=a v mS
  rw[W03,g0k r _ _ x (by simp[c]) (λw g=>a w (mC _ g)) b (λd=>h (mC _ d)),C07 f.1 (by omega) b,if_neg (λe=>h (by grind))]
def q0v(r:Int)(n:Nat)(es:List O0)(o:List Int)(h:inV n o)(l:o.Nodup)(t:1<=n/\n<=1000000)(s:o.length<=1099511627776):∀(d k fuel:Nat) (A:List Int),A.length=n->(∀ x,0<=x -> -1<=getI A x/\getI A x<=1099511627776)->(∀ x∈o.drop k,getI A x = -1)->k+d=o.length->d<fuel ->
  M5 o (n:Int) r es fuel (k:Int) (A.map (·+1))=some (.inr ((W03 A k (o.drop k)).map (·+1)))
 |d,k,0,A,c,i,f,j,hf=>by omega
 |0,k,fuel+1,A,c,i,f,j,hf=>by
  rw[M5.eq_2,if_neg (by simp;omega),Z0 (by omega)];rfl
 |d+1,k,fuel+1,A,c,i,f,j,hf=>by
  have m:k<o.length:=by omega
  have a:=U3 m
  have b:=h _ (mG a)
  have g:=I1 a
  generalize o[k]=v at a b g
  have p:(o.drop k).Nodup:=l.sublist (List.drop_sublist _ _)
  rw[g]at p f
  have q:=f v mS
  have w:=q0v r n es o h l t s d (k+1) fuel (A.set v.toNat (k:Int)) (by simp[c]) (λx a=>by
   rw[C07 b.1 (by omega) a];have:=i x a;split<;>omega) (λx a=>by
   have u:=h x (List.mem_of_mem_drop a)
   rw[C07 b.1 (by omega) u.1,if_neg (λe=>(List.nodup_cons.1 p).1 (by rw[←e];exact a))]
   grind) (by omega) (by omega)
  rw[M5.eq_2,if_pos (by simp;omega),g,Z1 a]
  simp only[oB,J02,w64 (show -9223372036854775808<=(n:Int)-1 by omega) (show(n:Int)-1<=9223372036854775807 by omega),inR,show decide (0<=v)=true by simpa using b.1,show decide (v<=(n:Int)-1)=true by simp;omega,Bool.and_self,bT,bF,E1,f0k c b.1 b.2,q,cF]
  rw[if_neg (by decide),E2 m (by omega),p0v,w]
  rfl
theorem r0v(es:List O0){n:Nat}(q:inN n es)(t:es.length<=1099511627776)(P:List Int)(g:P.length=n)(i:∀ x,0<=x -> -1<=getI P x/\getI P x<=1099511627776)(r m:Int):∀(d k fuel:Nat) (acc:List O0),k+d=es.length->d<fuel->acc.length<=k ->
  S4 es (P.map (·+1)) fuel (k:Int) r m acc=some (r,m,V4 V0 acc (pE P (es.drop k)))
 |d,k,0,acc,o,hf,j=>by omega
 |0,k,fuel+1,acc,o,hf,j=>by
  rw[S4.eq_2,if_neg (by simp;omega),Z0 (by omega)];rfl
 |d+1,k,fuel+1,acc,o,hf,j=>by
  have p:k<es.length:=by omega
  have f:=U3 p
  have c:=q _ (List.mem_of_getElem? f)
  generalize es[k]=e at f c
  obtain⟨a,l,b⟩:=e
  have u:=λs h=>r0v es q t P g i r m d (k+1) fuel s (by omega) (by omega) h
  have v:=i a c.1.1
  have w:=i b c.2.1
  rw[S4.eq_2,if_pos (by simp;omega),I1 f]
  simp only[Z1 f,oB,f0k g c.1.1 c.1.2,f0k g c.2.1 c.2.2,E2 p (show es.length<=9223372036854775807 by omega),pE]
  by_cases c1:0<=getI P a
  ·simp only[show decide (getI P a+1>0)=true by simp;omega,E1,oB,cond_true,show decide (0<=getI P a)=true by simpa using c1,Bool.true_and]
   by_cases c2:0<=getI P b
   ·rw[if_pos (by simp;omega),w64 (by omega) (by omega),w64 (by omega) (by omega),show getI P a+1-1=getI P a by omega,show getI P b+1-1=getI P b by omega]
    grind[d08,o0a,getI,V4]
   grind
  ·simp only[show decide (getI P a+1>0)=false by simp;omega,K1,oB,cond_false,show decide (0<=getI P a)=false by simpa using c1,Bool.false_and]
   rw[if_neg (by simp),u _ (by omega)]
def H0e(r:Int)(n:Nat)(es:List O0)(o:List Int)(f:U0 (r,(n:Int),es)=true)(g:inV n o)(l:o.Nodup)(t:1<=o.length)(u:o.length<=n):
  g8 (r,(n:Int),es) o=some (G00 (r,(n:Int),es) o,true):=by
 obtain⟨h,p,q,s⟩:=V2 f
 simp only at p q s
 have m:inN n es:=λe d=>⟨(h e d).1,(h e d).2.1⟩
 have k:=t9 (r,(n:Int),es) (by simp only;omega)
 unfold g8
 have a:=q0v r n es o g l (by omega) (by omega) o.length 0 P0 (List.replicate n (-1)) (by simp) (λx b=>by rw[q0c];omega) (λx b=>q0c n x) (by omega) (X0 (by omega))
 have c:=r0v es m (by omega) (plc n o) (t0s n o) (λx b=>by have:=j0h g b;omega) r ((o.length:Nat):Int) es.length 0 P0 [] (by omega) (X0 (by omega)) (Nat.le_refl _)
 rw[show((0:Nat):Int)=0 from rfl,dZ]at c a
 rw[show(List.replicate n (-1:Int)).map (·+1)=List.replicate n 0 by simp]at a
 rw[show W03 (List.replicate n (-1)) 0 o=plc n o from rfl]at a
 have i:decide (((o.length:Nat):Int)=0)=false:=dF (by omega)
 have j:decide (((o.length:Nat):Int)>(n:Int))=false:=dF (by omega)
 simp only[k,f,oB,bT,cF,iN,i,j]
 rw[if_neg (by simp),D0 (by omega),oB,a]
 simp only[oB,z9,c]
 rfl
def o01:∀(n:Nat) (o:List Int),o.Nodup->inV n o->o.length<=n
 |0,[],_,_=>Nat.le_refl _
 |0,x::r,_,h=>by have:=h x mS;omega
 |n+1,o,a,h=>by
  have b:inV n (o.erase (n:Int)):=λx d=>by
   obtain⟨f,c⟩:=(List.Nodup.mem_erase_iff a).1 d
   have:=h x c;omega
  have e:=o01 n _ (a.erase _) b
  grind
def B7:Nat->Nat->List Int
 |0,_=>[]
 |d+1,i=>(i:Int) :: -(i:Int)::B7 d (i+1)
def v03:∀ d i,(B7 d i).length=2*d
 |0,i=>rfl
 |d+1,i=>by simp only[B7,lC,v03 d];omega
def B0n:∀(d i:Nat),i+d<=1000->∀ x∈B7 d i,j5 x
 |0,i,h,x,a=>nomatch a
 |d+1,i,h,x,a=>by
  simp only[B7,mE]at a
  rcases a with rfl|rfl|a
  ·exact⟨⟨by omega,by omega⟩,by omega⟩
  ·exact⟨⟨by omega,by omega⟩,by omega⟩
  ·exact B0n d (i+1) (by omega) x a
def s0v(R:Nat)(c:R<=900):∀(d i fuel:Nat) (acc:List Int),i+d=R+1->d<fuel->acc.length+2*d<=10000 ->
  O9 (R:Int) fuel (i:Int) acc=some (acc++B7 d i)
 |d,i,0,acc,b,hf,a=>by omega
 |0,i,fuel+1,acc,b,hf,a=>by
  rw[O9.eq_2,if_neg (by simp;omega)];simp[B7]
 |d+1,i,fuel+1,acc,b,hf,a=>by
  have e:=s0v R c d (i+1) fuel (acc ++ [(i:Int),-(i:Int)]) (by omega) (by omega) (by simp;omega)
  have w1:i64.wrap (0-(i:Int)) = -(i:Int):=by grind[w64]
  rw[O9.eq_2,if_pos (by simp;omega),w1,D0 (by simp;omega),oB,E2 (show i<1000 by omega) (by omega),e]
  simp[B7]
def t0v(R:Nat)(c:R<=900):∀(d i fuel:Nat) (acc:List Int),i+d=R+1->d<fuel->acc.length+2*d<=10000 ->
  i8 (R:Int) fuel (i:Int) acc=some (acc++B7 d i)
 |d,i,0,acc,b,hf,a=>by omega
 |0,i,fuel+1,acc,b,hf,a=>by
  rw[i8.eq_2,if_neg (by simp;omega)];simp[B7]
 |d+1,i,fuel+1,acc,b,hf,a=>by
  have e:=t0v R c d (i+1) fuel ((acc ++ [(i:Int)]) ++ [-(i:Int)]) (by omega) (by omega) (by simp;omega)
  have w1:i64.wrap (0-(i:Int)) = -(i:Int):=by grind[w64]
  rw[i8.eq_2,if_pos (by simp;omega),w1,D0 (by simp;omega),oB,D0 (by simp;omega),oB,E2 (show i<1000 by omega) (by omega),e]
  simp[B7]
theorem Y0q(R:Nat)(a:R<=900):m01 (R:Int)=some (B7 R 1):=by
 unfold m01
 rw[show(1:Int)=((1:Nat):Int) from rfl,s0v R a R 1 P0 [] (by omega) (X0 (by omega)) (by simp;omega)];rfl
theorem C0n(R:Nat)(a:R<=900):F8 (R:Int)=some (B7 R 1):=by
 unfold F8
 rw[show(1:Int)=((1:Nat):Int) from rfl,t0v R a R 1 P0 [] (by omega) (X0 (by omega)) (by simp;omega)];rfl
def C0b(u:List Int)(x:Int):List Int:=if 0<=x/\x ∉ u then u ++ [x]else u
def v05(g:z0)(v:Int):List Int->List Int->List Int
 | [],u=>u
 |x::r,u=>v05 g v r (C0b u (D1 g v x))
def p01(g:z0)(a:List Int):Nat->Nat->List Int->List Int
 |0,i,u=>u
 |f+1,i,u=>match u[i]? with
  |some v=>p01 g a f (i+1) (v05 g v a u)
  |none=>u
def gud(n:Nat)(u:List Int):Prop:=u.Nodup/\inV n u
def x0s{n:Nat}{u:List Int}{x:Int}(h:gud n u)(g:x = -1∨(0<=x/\x<(n:Int))):gud n (C0b u x):=by
 unfold C0b
 split
 ·rename_i f
  refine⟨List.nodup_append.2 ⟨h.1,by simp,λa d b e=>?_⟩,λy c=>?_⟩
  ·grind
  ·rcases List.mem_append.1 c with c|c
   ·exact h.2 y c
   grind
 ·exact h
def h0k(u:List Int)(x:Int):∃ t,C0b u x=u++t:=by
 unfold C0b;split
 all_goals simp_all
def i06(g:z0)(v:Int):∀(a u:List Int),∃ t,v05 g v a u=u++t
 | [],u=>⟨[],by simp[v05]⟩
 |x::r,u=>by
  obtain⟨d,b⟩:=h0k u (D1 g v x)
  obtain⟨e,c⟩:=i06 g v r (C0b u (D1 g v x))
  grind[v05,List.append_assoc]
theorem k08{r:Int}{n:Nat}{es:List O0}(a:inG (r,(n:Int),es))(v:Int):∀(b u:List Int),gud n u->gud n (v05 (r,(n:Int),es) v b u)
 | [],u,h=>h
 |x::l,u,h=>k08 a v l _ (x0s h (J05 a v x))
def i0k{r:Int}{n:Nat}{es:List O0}(a:inG (r,(n:Int),es))(b:List Int):∀(f i:Nat) (u:List Int),gud n u->gud n (p01 (r,(n:Int),es) b f i u)
 |0,i,u,h=>h
 |f+1,i,u,h=>by
  unfold p01
  split
  ·exact i0k a b f _ _ (k08 a _ _ _ h)
  ·exact h
def j0k(g:z0)(a:List Int):∀(f i:Nat) (u:List Int),u.length<=(p01 g a f i u).length
 |0,i,u=>Nat.le_refl _
 |f+1,i,u=>by
  unfold p01
  split
  ·rename_i v _
   obtain⟨t,e⟩:=i06 g v a u
   have:=j0k g a f (i+1) (v05 g v a u)
   grind
  ·exact Nat.le_refl _
def y0s(r:Int)(n:Nat)(es:List O0)(f:inG (r,(n:Int),es))(A:n<=40)(m:es.length<=1099511627776)(a:List Int)(p:∀ x∈a,j5 x)(z:a.length<=1000000)(i:Nat)(v:Int):∀(d k fuel:Nat) (u:List Int),gud n u->u[i]?=some v->k+d=a.length->d<fuel ->
  H4 a (i:Int) r (n:Int) es fuel (k:Int) u=some (v05 (r,(n:Int),es) v (a.drop k) u)
 |d,k,0,u,b,g,j,hf=>by omega
 |0,k,fuel+1,u,b,g,j,hf=>by
  rw[H4.eq_2,if_neg (by simp;omega),Z0 (by omega)];rfl
 |d+1,k,fuel+1,u,b,g,j,hf=>by
  have o:k<a.length:=by omega
  have c:=U3 o
  have q:=p _ (mG c)
  have l:=I1 c
  generalize a[k]=x at c q l
  have E:=o01 n u b.1 b.2
  have C:D1 (r,(n:Int),es) v x = -1∨(0<=D1 (r,(n:Int),es) v x/\D1 (r,(n:Int),es) v x<(n:Int)):=J05 f v x
  have s:=x0s b C
  have w:(C0b u (D1 (r,(n:Int),es) v x))[i]?=some v:=by
   obtain⟨t,e⟩:=h0k u (D1 (r,(n:Int),es) v x)
   grind
  have D:=y0s r n es f A m a p z i v d (k+1) fuel _ s w (by omega) (by omega)
  rw[H4.eq_2,if_pos (by simp;omega),l]
  simp only[Z1 g,Z1 c,oB,U03 (r,(n:Int),es) v x q m,D0 (V03 f (show(n:Int)<=40 by omega) v x),E2 o (show a.length<=9223372036854775807 by omega),v05]
  rw[←D]
  generalize D1 (r,(n:Int),es) v x=y at *
  unfold C0b
  by_cases c1:0<=y
  ·simp only[show decide (y ≥ 0)=true by simpa using c1,E1,q0d u y (by omega),oB,cT]
   by_cases c2:y∈u
   ·rw[if_neg (by simp[c2]),if_neg (by simp[c2])]
   ·rw[if_pos (by simp[c2]),if_pos ⟨c1,c2⟩,D0 (by simp;omega),oB]
  ·simp only[show decide (y ≥ 0)=false by simpa using c1,K1,oB,cF]
   rw[if_neg (by simp),if_neg (λh=>c1 h.1)]
def z0s(r:Int)(n:Nat)(es:List O0)(c:inG (r,(n:Int),es))(m:n<=40)(h:es.length<=1099511627776)(a:List Int)(l:∀ x∈a,j5 x)(k:a.length<=1000000):∀(f i fuel:Nat) (u:List Int),gud n u->i<=u.length->n+1<=i+f->f<fuel ->
  J6 a r (n:Int) es fuel (i:Int) u=some (p01 (r,(n:Int),es) a f i u)
 |f,i,0,u,b,j,g,hf=>by omega
 |0,i,fuel+1,u,b,j,g,hf=>by have:=o01 n u b.1 b.2;omega
 |f+1,i,fuel+1,u,b,j,g,hf=>by
  have p:=o01 n u b.1 b.2
  rw[J6.eq_2,oB,D0 (by omega),oB]
  by_cases hk:i<u.length
  ·have d:=U3 hk
   generalize u[i]=v at d
   have h0:=y0s r n es c m h a l k i v a.length 0 P0 u b d (by omega) (X0 (by omega))
   rw[show((0:Nat):Int)=0 from rfl,dZ]at h0
   obtain⟨t,e⟩:=i06 (r,(n:Int),es) v a u
   have o:=z0s r n es c m h a l k f (i+1) fuel _ (k08 c v a u b) (by grind) (by omega) (by omega)
   rw[if_pos (by simpa using hk),h0,oB,E2 hk (by omega),o]
   simp only[p01,d]
  simp_all[List.getElem?_eq_none,if_neg,p01]
def S7(g:z0):List Int:=p01 g (B7 g.1.toNat 1) (g.2.1.toNat+1) 0 [0]
def r0d{g:z0}(hf:N0 g=true):gud g.2.1.toNat (S7 g)/\1<=(S7 g).length:=by
 obtain⟨a,b,c,d⟩:=F1 hf
 obtain⟨r,n,es⟩:=g
 simp only at b c d
 obtain⟨N,rfl⟩:∃ N:Nat,n=(N:Int):=⟨n.toNat,by omega⟩
 refine⟨?_,?_⟩
 ·exact i0k a _ _ _ _ ⟨by simp,λx e=>by grind⟩
 ·exact j0k _ _ _ _ [0]
def j0p(g:z0)(hf:N0 g=true):H00 g=some (S7 g):=by
 obtain⟨a,b,c,d⟩:=F1 hf
 have e:=K6 g (by omega)
 obtain⟨r,n,es⟩:=g
 simp only at b c d
 obtain⟨N,rfl⟩:∃ N:Nat,n=(N:Int):=⟨n.toNat,by omega⟩
 obtain⟨R,rfl⟩:∃ R:Nat,r=(R:Int):=⟨r.toNat,by omega⟩
 unfold H00
 have h0:=z0s (R:Int) N es a (by omega) (by omega) (B7 R 1) (B0n R 1 (by omega)) (by rw[v03];omega) (N+1) 0 P0 [0] ⟨by simp,λx f=>by grind⟩ (by simp) (by omega) (X0 (by omega))
 simp only[e,hf,oB,bT,C0n R (by omega)]
 rw[show((0:Nat):Int)=0 from rfl]at h0
 rw[if_neg (by simp),h0]
 rfl
def A0s{a:List Int}(la:a.length<=1099511627776):B8 a=some a:=by
 grind[B8,D0]
def A9(W:List (Option (List Int)))(x:Int):Option (List Int):=W.getD x.toNat none
theorem giO{a:List (Option (List Int))}{n:Nat}(c:a.length=n){x:Int}(h0:0<=x)(b:x<n):gi a x=some (A9 a x):=by
 grind[gi,A9,b0h,List.getElem?_eq_getElem]
def w03{A:List (Option (List Int))}{v x:Int}{y:Option (List Int)}(h0:0<=v)(a:v.toNat<A.length)(b:0<=x):A9 (A.set v.toNat y) x=if x=v then y else A9 A x:=by
 unfold A9
 grind
structure WOk (n:Nat) (W:List (Option (List Int))) (u:List Int):Prop where
 len:W.length=n
 iff:∀ x,0<=x->x<(n:Int)->((A9 W x).isNone=true↔x ∉ u)
 short:∀ x,((A9 W x).getD []).length<=u.length
def B0s(r:Int)(n:Nat)(es:List O0)(l:inG (r,(n:Int),es))(G:n<=40)(s:es.length<=1099511627776)(f:List Int)(w:∀ x∈f,j5 x)(F:f.length<=1000000)(v:Int)(m:0<=v/\v<(n:Int)):∀(d k fuel:Nat) (b:List (Option (List Int))) (u:List Int),gud n u->WOk n b u->k+d=f.length->d<fuel ->
  ∃ i,l4 f r (n:Int) es v fuel (k:Int) b u=some (i,v05 (r,(n:Int),es) v (f.drop k) u)/\WOk n i (v05 (r,(n:Int),es) v (f.drop k) u)
 |d,k,0,b,u,g,a,p,hf=>by omega
 |0,k,fuel+1,b,u,g,a,p,hf=>by
  rw[l4.eq_2,if_neg (by simp;omega),Z0 (by omega)];exact⟨b,rfl,a⟩
 |d+1,k,fuel+1,b,u,g,a,p,hf=>by
  have t:k<f.length:=by omega
  have j:=U3 t
  have A:=w _ (mG j)
  have q:=I1 j
  generalize f[k]=x at j A q
  have J:=o01 n u g.1 g.2
  have H:D1 (r,(n:Int),es) v x = -1∨(0<=D1 (r,(n:Int),es) v x/\D1 (r,(n:Int),es) v x<(n:Int)):=J05 l v x
  have E:=x0s g H
  have C:=λi h=>B0s r n es l G s f w F v m d (k+1) fuel i _ E h (by omega) (by omega)
  rw[l4.eq_2,if_pos (by simp;omega),q]
  simp only[Z1 j,oB,M08 (r,(n:Int),es) v x A s,D0 (V03 l (show(n:Int)<=40 by omega) v x),E2 t (show f.length<=9223372036854775807 by omega),v05]
  generalize D1 (r,(n:Int),es) v x=y at *
  by_cases c1:0<=y
  ·have o:y<(n:Int):=by omega
   simp only[show decide (y ≥ 0)=true by simpa using c1,E1,giO a.len c1 o,oB,cT]
   by_cases c2:y∈u
   ·have : ¬ ((A9 b y).isNone=true):=λh=>(a.iff y c1 o).1 h c2
    simp_all[C0b,if_neg]
   ·have:(A9 b y).isNone=true:=(a.iff y c1 o).2 c2
    have e:C0b u y=u ++ [y]:=if_pos ⟨c1,c2⟩
    have K:=a.short v
    rw[if_pos this,giO a.len m.1 m.2,oB,A0s (by omega),oB,D0 (by simp;omega),oB,D0 (by simp;omega),oB]
    rw[e]at C ⊢
    refine C _ ⟨by simp[a.len],λz h0 D=>?_,λz=>?_⟩
    ·rw[w03 c1 (by have:=a.len;omega) h0]
     by_cases c:z=y
     ·rw[if_pos c];simp[c]
     ·rw[if_neg c,a.iff z h0 D];simp[c]
    ·by_cases hz:0<=z
     ·rw[w03 c1 (by have:=a.len;omega) hz]
      by_cases c:z=y
      ·grind
      ·rw[if_neg c];have:=a.short z;grind
     ·have I:A9 (b.set y.toNat (some ((A9 b v).getD [] ++ [x]))) z=A9 (b.set y.toNat (some ((A9 b v).getD [] ++ [x]))) 0:=by
       unfold A9;rw[show z.toNat=(0:Int).toNat by omega]
      rw[I,w03 c1 (by have:=a.len;omega) (iR 0)]
      by_cases c:(0:Int)=y
      ·grind
      ·rw[if_neg c];have:=a.short 0;grind
  ·have e:C0b u y=u:=if_neg λh=>c1 h.1
   simp only[show decide (y ≥ 0)=false by simpa using c1,K1,oB,cF]
   grind
def C0s(R n:Nat)(h:R<=900)(es:List O0)(c:inG ((R:Int),(n:Int),es))(m:n<=40)(k:es.length<=1099511627776):∀(f i fuel:Nat) (b:List (Option (List Int))) (u:List Int),gud n u->WOk n b u->i<=u.length->n+1<=i+f->f<fuel ->
  ∃ q,D6 (R:Int) (n:Int) es fuel (i:Int) b u=some (q,p01 ((R:Int),(n:Int),es) (B7 R 1) f i u)
 |f,i,0,b,u,a,d,l,j,hf=>by omega
 |0,i,fuel+1,b,u,a,d,l,j,hf=>by have:=o01 n u a.1 a.2;omega
 |f+1,i,fuel+1,b,u,a,d,l,j,hf=>by
  have x:=o01 n u a.1 a.2
  rw[D6.eq_2,oB,D0 (by omega),oB]
  by_cases hk:i<u.length
  ·have g:=U3 hk
   have o:=a.2 _ (mG g)
   generalize u[i]=v at g o
   obtain⟨s,h0,p⟩:=B0s (R:Int) n es c m k (B7 R 1) (B0n R 1 (by omega)) (by rw[v03];omega) v o (B7 R 1).length 0 P0 b u a d (by omega) (X0 (by rw[v03];omega))
   rw[show((0:Nat):Int)=0 from rfl,dZ]at h0
   rw[dZ]at p
   obtain⟨t,e⟩:=i06 ((R:Int),(n:Int),es) v (B7 R 1) u
   obtain⟨w,y⟩:=C0s R n h es c m k f (i+1) fuel s _ (k08 c v _ u a) p (by grind) (by omega) (by omega)
   rw[if_pos (by simpa using hk),Z1 g,oB,Y0q R h,oB,h0,oB]
   grind[E2,p01]
  simp_all[List.getElem?_eq_none,if_neg,p01]
def k0p(g:z0)(hf:N0 g=true):I00 g=some (S7 g):=by
 obtain⟨a,b,c,d⟩:=F1 hf
 have e:=n01 g (by omega)
 obtain⟨r,n,es⟩:=g
 simp only at b c d
 obtain⟨N,rfl⟩:∃ N:Nat,n=(N:Int):=⟨n.toNat,by omega⟩
 obtain⟨R,rfl⟩:∃ R:Nat,r=(R:Int):=⟨r.toNat,by omega⟩
 unfold I00
 have j:∀ x,A9 (List.replicate N (none:Option (List Int))) x=none:=λx=>by
  unfold A9
  rw[List.getD_eq_getElem?_getD,List.getElem?_replicate];split<;>rfl
 have f:WOk N ((List.replicate N (none:Option (List Int))).set (0:Int).toNat (some [])) [0]:=by
  refine⟨by simp,λx h0 a=>?_,λx=>?_⟩
  ·rw[w03 (iR 0) (by simp;omega) h0]
   grind
  ·by_cases hz:0<=x
   ·rw[w03 (iR 0) (by simp;omega) hz]
    grind
   ·have:A9 ((List.replicate N (none:Option (List Int))).set (0:Int).toNat (some [])) x=A9 ((List.replicate N (none:Option (List Int))).set (0:Int).toNat (some [])) 0:=by
     unfold A9;rw[show x.toNat=(0:Int).toNat by omega]
    rw[this,w03 (iR 0) (by simp;omega) (iR 0),if_pos rfl];simp
 obtain⟨i,h0⟩:=C0s R N (by omega) es a (by omega) (by omega) (N+1) 0 P0 _ [0] ⟨by simp,λx k=>by grind⟩ f (by simp) (by omega) (X0 (by omega))
 have h:gi (List.replicate N (none:Option (List Int))) 0=some none:=by
  rw[F0e (x:=none)];rw[List.getElem?_replicate,if_pos (by omega)]
 simp only[e,hf,oB,bT,d9,iN]
 rw[if_neg (by simp),D0 (by omega),oB,h,oB]
 rw[show((0:Nat):Int)=0 from rfl]at h0
 rw[h0]
 rfl
def A4(g:z0):z0:=G00 g (S7 g)
def r0c(g:z0)(hf:N0 g=true):p9 g=some (A4 g):=by
 obtain⟨b,d,f,h⟩:=F1 hf
 have i:=n01 g (by omega)
 have j:=k0p g hf
 obtain⟨a,m⟩:=r0d hf
 have k:=o01 _ _ a.1 a.2
 obtain⟨r,n,es⟩:=g
 simp only at d f h
 obtain⟨N,rfl⟩:∃ N:Nat,n=(N:Int):=⟨n.toNat,by omega⟩
 simp only[iN]at a k
 have l:=A0n r N es (S7 (r,(N:Int),es)) (λe c=>⟨(b e c).1,(b e c).2.1⟩) a.2 (by omega) (by omega) (by omega)
 unfold p9
 simp only[i,hf,oB,bT,j,l]
 rfl
def s0c(g:z0)(hf:N0 g=true):o9 g=some (A4 g):=by
 obtain⟨k,c,d,e⟩:=F1 hf
 have f:U0 g=true:=by
  simp_all[N0,aE]
 have h:=j0p g hf
 obtain⟨a,i⟩:=r0d hf
 have b:=o01 _ _ a.1 a.2
 obtain⟨r,n,es⟩:=g
 simp only at c d e
 obtain⟨N,rfl⟩:∃ N:Nat,n=(N:Int):=⟨n.toNat,by omega⟩
 simp only[iN]at a b
 have j:=H0e r N es (S7 (r,(N:Int),es)) f a.2 a.1 i b
 unfold o9
 simp only[oB,h,j]
 rw[if_neg (by grind)]
 rfl
def lf(a:Nat->Bool):Nat->Nat->Option Nat
 |0,v=>none
 |d+1,v=>bif a v then some v else lf a d (v+1)
def t0c{a:Nat->Bool}:∀(d v k:Nat),lf a d v=some k->v<=k/\k<v+d
 |0,v,k,h=>by cases h
 |d+1,v,k,h=>by
  unfold lf at h
  cases hb:a v
  ·rw[hb]at h;have:=t0c d (v+1) k h;omega
  grind
def k0k{a b:Nat->Bool}:∀(d v:Nat),(∀ k,v<=k->k<v+d->a k=b k)->lf a d v=lf b d v
 |0,v,h=>rfl
 |d+1,v,h=>by unfold lf;rw[h v (Nat.le_refl _) (by omega),k0k d (v+1) λk c e=>h k (by omega) (by omega)]
def P0t(es:List O0):List Int:=itS es (es.length+1) [0]
def k0h(es:List O0)(v:Nat):Bool:=decide (z06 (v:Int) es<2) || !decide ((v:Int)∈P0t es)
def N01(g:z0):Option Nat:=lf (k0h g.2.2) (g.2.1.toNat-1) 1
def Z0q(g:z0)(b:U0 g=true):r02 g 0=some (P0t g.2.2)/\(P0t g.2.2).length<=100000:=by
 obtain⟨h,c,d,a⟩:=V2 b
 have f:=t9 g (by omega)
 obtain⟨r,n,es⟩:=g
 simp only at c d a
 unfold r02 P0t
 have e:=d0k es a (es.length+1) 0 P0 [0] (by omega) (X0 (by omega)) (by simp)
 have i:=q0s es (es.length+1) [0]
 refine⟨?_,?_⟩
 ·rw[show((0:Nat):Int)=0 from rfl]at e
  simp only[f,b,oB,bT,bF,E1,J02,inR,w64 (show -9223372036854775808<=n-1 by omega) (show n-1<=9223372036854775807 by omega)]
  grind
 ·have:(es.length+1)*(2*es.length)<=121*240:=Nat.mul_le_mul (by omega) (by omega)
  grind
theorem u0v(r:Int)(n:Nat)(es:List O0)(e:es.length<=1000)(u:List Int)(g:u.length<=100000)(f:n<=40):∀(d v fuel:Nat),v+d=n∨(d=0/\n<=v)->v<=1000->d<fuel ->
  A00 (n:Int) r es u fuel (v:Int)=some (match lf (λv=>decide (z06 (v:Int) es<2) || !decide ((v:Int)∈u)) d v with|some k => .inl (k:Int)|none => .inr ())
 |d,v,0,b,c,hf=>by omega
 |0,v,fuel+1,b,c,hf=>by
  rw[A00.eq_2,if_neg (by simp;omega)];rfl
 |d+1,v,fuel+1,b,c,hf=>by
  have i:=u0v r n es e u g f d (v+1) fuel (by omega) (by omega) (by omega)
  have h:=x0n (v:Int) es
  rw[A00.eq_2,if_pos (by simp;omega),c0m (r,(n:Int),es) _ (by simp only;omega),oB,D0 (c64 (by simp only;omega) (by simp only;omega)),oB,E2 (show v<10000 by omega) (by omega)]
  unfold lf
  by_cases c1:z06 (v:Int) es<2
  ·have a:decide (((z06 (v:Int) es:Nat):Int)<2)=true:=decide_eq_true (by omega)
   simp only[a,Bool.not_true,K1,oB,cond_true,if_true,decide_eq_true c1,Bool.true_or]
  ·have a:decide (((z06 (v:Int) es:Nat):Int)<2)=false:=decide_eq_false (by omega)
   simp only[a,Bool.not_false,E1,q0d u _ (show u.length<=9223372036854775807 by omega),oB,cond_false,decide_eq_false c1,Bool.false_or]
   grind
def v0v(g:z0)(c:U0 g=true):s04 g=some (match N01 g with|some k=>(k:Int)|none => -1):=by
 obtain⟨a,b⟩:=Z0q g c
 obtain⟨i,d,e,f⟩:=V2 c
 obtain⟨r,n,es⟩:=g
 simp only at d e f a b
 obtain⟨N,rfl⟩:∃ N:Nat,n=(N:Int):=⟨n.toNat,by omega⟩
 unfold s04 N01
 have h:=u0v r N es (by omega) (P0t es) b (by omega) (N-1) 1 P0 (by omega) (by omega) (X0 (by omega))
 simp only[a,oB,iN]
 rw[show(1:Int)=((1:Nat):Int) from rfl,h]
 rw[show(λv:Nat=>decide (z06 (v:Int) es<2) || !decide ((v:Int)∈P0t es))=k0h es from rfl]
 cases lf (k0h es) (N-1) 1<;>rfl
theorem D0n(r:Int)(n:Nat)(es:List O0)(m:es.length<=1000)(a:List Bool)(g:a.length=n)(p:n<=40):∀(d v fuel:Nat),1<=v->v+d=n∨(d=0/\n<=v)->v<=1000->d+1<fuel ->
  l5 (n:Int) r es a fuel 0 (v:Int)=some (match lf (λv=>decide (z06 (v:Int) es<2) || !k03 a (v:Int)) d v with|some k=>(k:Int)|none=>0)
 |d,v,0,f,h,i,hf=>by omega
 |0,v,fuel+1,f,h,i,hf=>by
  have e:decide ((v:Int)<(n:Int))=false:=decide_eq_false (by omega)
  rw[l5.eq_2,if_neg (by rw[e];simp)];rfl
 |d+1,v,fuel+1,f,h,i,hf=>by
  have s:=D0n r n es m a g p d (v+1) fuel (by omega) (by omega) (by omega) (by omega)
  have q:=x0n (v:Int) es
  have e:decide ((v:Int)<(n:Int))=true:=decide_eq_true (by omega)
  have o:∀ w:Int,l5 (n:Int) r es a fuel (v:Int) w=some (v:Int):=λw=>by
   obtain _|fuel:=fuel
   ·omega
   ·have j:decide ((v:Int)=0)=false:=decide_eq_false (by omega)
    have l:∀ b:Bool,(bif b then false else false)=false:=λb=>by cases b<;>rfl
    rw[l5.eq_2,if_neg (by rw[j,l];simp)]
  rw[l5.eq_2,if_pos (by rw[e];rfl),O0t (r,(n:Int),es) _ (by simp only;omega),oB,D0 (c64 (by simp only;omega) (by simp only;omega)),oB,E2 (show v<10000 by omega) (by omega)]
  unfold lf
  by_cases c1:z06 (v:Int) es<2
  ·have c:decide (((z06 (v:Int) es:Nat):Int)<2)=true:=decide_eq_true (by omega)
   simp only[c,Bool.not_true,K1,oB,cond_true,if_true,decide_eq_true c1,Bool.true_or,o]
  ·have c:decide (((z06 (v:Int) es:Nat):Int)<2)=false:=decide_eq_false (by omega)
   simp only[c,Bool.not_false,E1,giB g (show(0:Int)<=(v:Int) by omega) (show(v:Int)<(n:Int) by omega),oB,cond_false,decide_eq_false c1,Bool.false_or]
   grind
def wo(g:Nat):Nat->Nat->List Int
 |0,k=>[]
 |d+1,k=>if k=g then wo g d (k+1)else(k:Int)::wo g d (k+1)
def l0k(g:Nat):∀(d k:Nat),(wo g d k).length=d-(if k<=g/\g<k+d then 1 else 0)
 |0,k=>by simp[wo]
 |d+1,k=>by
  have a:=l0k g d (k+1)
  unfold wo
  grind
theorem l0p(g n:Nat):∀(d k:Nat),k+d<=n->inV n (wo g d k)
 |0,k,h=>λx a=>nomatch a
 |d+1,k,h=>by
  have b:=l0p g n d (k+1) (by omega)
  unfold wo
  split
  ·exact b
  ·intro x a
   rcases mE.1 a with rfl|a
   ·omega
   ·exact b x a
def E0n(n g:Nat)(j:n<=1000):∀(d k fuel:Nat) (acc:List Int),k+d=n->d<fuel->acc.length<=k ->
  t7 (n:Int) (g:Int) fuel (k:Int) acc=some (acc++wo g d k)
 |d,k,0,acc,b,hf,a=>by omega
 |0,k,fuel+1,acc,b,hf,a=>by
  simp_all[t7.eq_2,if_neg,wo]
 |d+1,k,fuel+1,acc,b,hf,a=>by
  have f:=λi h=>E0n n g j d (k+1) fuel i (by omega) (by omega) h
  rw[t7.eq_2,if_pos (by simp;omega),E2 (show k<10000 by omega) (by omega)]
  unfold wo
  by_cases c:k=g
  ·have e:decide ((k:Int)=(g:Int))=true:=dT (by omega)
   rw[e,if_neg (by simp),if_pos c,f _ (by omega)]
  ·have e:decide ((k:Int)=(g:Int))=false:=dF (by omega)
   rw[e,if_pos (show(!false)=true from rfl),if_neg c,D0 (by simp;omega),oB,f _ (by simp;omega)]
   simp
def F0n(n:Nat)(f:n<=1000):∀(d k fuel:Nat) (acc:List Int),k+d=n->d<fuel->acc.length=k ->
  ∃ u,j8 (n:Int) fuel (k:Int) acc=some u/\u.length=n
 |d,k,0,acc,b,hf,a=>by omega
 |0,k,fuel+1,acc,b,hf,a=>by
  simp_all[j8.eq_2,if_neg]
 |d+1,k,fuel+1,acc,b,hf,a=>by
  obtain⟨u,c,e⟩:=F0n n f d (k+1) fuel (acc ++ [(k:Int)]) (by omega) (by omega) (by simp;omega)
  rw[j8.eq_2,if_pos (by simp;omega),E2 (show k<10000 by omega) (by omega),D0 (by simp;omega),oB,c]
  exact⟨u,rfl,e⟩
theorem p0a{a:Type}{xs:List a}{k:Nat}(h:k<=xs.length):y07 xs 0 (k:Int)=some (xs.take k):=by
 simp_all[y07,if_pos]
def D0s:∀(n fuel:Nat) (left:List Int) (r:Int) (es:List O0),1<=n->n<=40->inN n es->es.length<=120->left.length=n->n<fuel ->
  ∃(a:z0) (d:List Int),w7 fuel left r (n:Int) es=some (.inl (a,d))/\a.2.1<=(n:Int)/\(a.2.1=(n:Int)↔lf (k0h es) (n-1) 1=none)
 |n,0,left,r,es,e,f,b,t,u,hf=>by omega
 |n,fuel+1,left,r,es,e,f,b,t,u,hf=>by
  obtain⟨c,p,lS,q⟩:=g0p r n es b (by omega) e (by omega)
  have m:=D0n r n es (by omega) c lS f (n-1) 1 P0 (Nat.le_refl _) (by omega) (by omega) (X0 (by omega))
  have s:lf (λv=>decide (z06 (v:Int) es<2) || !k03 c (v:Int)) (n-1) 1=lf (k0h es) (n-1) 1:=k0k _ _ λk D E=>by
   unfold k0h
   have:=q (k:Int) (by omega) (by omega)
   have g:=b0g es 0 (k:Int)
   congr 2
   cases hb:k03 c (k:Int)
   ·symm;exact dF λh=>by rw[this.2 (g.1 h)]at hb;cases hb
   ·symm;exact dT (g.2 (this.1 hb))
  rw[s]at m
  rw[w7.eq_2,p,oB,show(1:Int)=((1:Nat):Int) from rfl,m,oB]
  cases hlf:lf (k0h es) (n-1) 1 with
  |none =>
   grind
  |some k =>
   have A:=t0c _ _ _ hlf
   have o:decide ((k:Int)=0)=false:=dF (by omega)
   have j:=l0p k n n 0 (by omega)
   have i:=l0k k n 0
   rw[if_pos (by omega)]at i
   have l:=E0n n k (by omega) n 0 P0 [] (by omega) (X0 (by omega)) (Nat.le_refl _)
   rw[show((0:Nat):Int)=0 from rfl,nA]at l
   have w:=A0n r n es (wo k n 0) b j (by omega) (by omega) (by omega)
   have x:=G0e (r,(n:Int),es) (wo k n 0)
   have C:=i0m (r:=r) j b
   have y:i64.wrap ((k:Int)+((1:Nat):Int))=((k+1:Nat):Int):=by grind[w64]
   obtain⟨a,d,z,F,G⟩:=D0s (n-1) fuel (left.take k++left.drop (k+1)) r (G00 (r,(n:Int),es) (wo k n 0)).2.2 (by omega) (by omega) (by grind) (by simp only at x;omega) (by grind) (by omega)
   refine⟨a,d,?_,by omega,?_⟩
   ·simp only[o,fT,if_false,l,oB,w]
    rw[show G00 (r,(n:Int),es) (wo k n 0)=(r,((n-1:Nat):Int),(G00 (r,(n:Int),es) (wo k n 0)).2.2) by rw[←i];rfl]
    simp only[y]
    rw[p0a (by omega),oB,K04 (by omega),oB,D0 (by grind),oB,z]
   grind
theorem a0r(g:z0)(k:U0 g=true):∃(a:z0) (b:List Int),P9 g=some (a,b)/\(a.2.1=g.2.1↔N01 g=none):=by
 obtain⟨c,i,j,d⟩:=V2 k
 have p:=f01 g (by omega)
 have o:=i03 g (by omega)
 obtain⟨r,n,es⟩:=g
 simp only at i j d
 obtain⟨N,rfl⟩:∃ N:Nat,n=(N:Int):=⟨n.toNat,by omega⟩
 have l:inN N es:=λe f=>⟨(c e f).1,(c e f).2.1⟩
 obtain⟨u,m,h⟩:=F0n N (by omega) N 0 P0 [] (by omega) (X0 (by omega)) rfl
 obtain⟨a,b,q,s,t⟩:=D0s N P0 u r es (by omega) (by omega) l d h (X0 (by omega))
 refine⟨a,b,?_,?_⟩
 ·unfold P9
  simp_all[oB,Bool.not_true,Bool.false_eq_true,if_false,z9]
 grind[N01,Int.toNat_natCast]
def D2(g:z0):Bool:=N0 g&&((N01 g).isNone&&f0e (A4 g) g)
theorem C3{g:z0}(h:N0 g=true):U0 g=true:=by
 simp_all[N0,aE]
theorem l0h{g:z0}(hf:N0 g=true):(A4 g).2.2.length<=120:=by
 have:=G0e g (S7 g)
 have:=(F1 hf).2.2.2
 unfold A4;omega
theorem a03(g:z0)(i:g.2.2.length<=140737488355328):G7 g=some (D2 g):=by
 have h:=n01 g i
 unfold D2
 by_cases hf:N0 g=true
 ·obtain⟨d,t,b,a⟩:=a0r g (C3 hf)
  have e:=r0c g hf
  have f:=h0h (A4 g) g (by grind[l0h])
  obtain⟨r,n,es⟩:=g
  obtain⟨u,l,q⟩:=d
  unfold G7
  simp only at a
  generalize A4 (r,n,es)=C at *
  obtain⟨m,o,p⟩:=C
  simp only[h,hf,oB,Bool.not_true,Bool.false_eq_true,if_false,b,e]
  by_cases c:l=n
  ·have:=a.1 c
   simp only[decide_eq_true c,E1,oB,f,cond_true,this,Option.isNone_none,Bool.true_and]
  ·have j:(N01 (r,n,es)).isNone=false:=by
    cases hq:N01 (r,n,es)with
    |none=>grind
    |some k=>rfl
   simp only[decide_eq_false c,K1,oB,cond_false,j,Bool.false_and,Bool.and_false]
 ·have s:N0 g=false:=Bool.eq_false_iff.2 hf
  simp_all[G7,oB,Bool.not_false,if_true,Bool.false_and]
theorem a0b(g:z0)(hl:g.2.2.length<=140737488355328):h03 g=some (D2 g):=by
 have hF:=K6 g hl
 unfold D2
 by_cases hf:N0 g=true
 ·have hL:=v0v g (C3 hf)
  have hC:=s0c g hf
  have hE:=n0a (A4 g) g (by grind[l0h])
  obtain⟨h1,h2,h3,h4⟩:=F1 hf
  obtain⟨r,n,es⟩:=g
  unfold h03
  generalize A4 (r,n,es)=C at *
  obtain⟨c1,c2,c3⟩:=C
  simp only[hF,hf,oB,E1,hL,cond_true]
  cases hq:N01 (r,n,es)with
  |none =>
   simp only[D0 (show F0 (-1) by decide),oB,show decide ((-1:Int)<0)=true from rfl,E1,hC,hE,cond_true,Option.isNone_none,Bool.true_and]
  |some k =>
   have hk:=t0c _ _ _ hq
   simp only at h3
   simp only at hk
   have e0:decide ((k:Int)<0)=false:=decide_eq_false (by omega)
   simp only[D0 (show F0 (k:Int) from c64 (by omega) (by omega)),oB,e0,K1,cond_false,Option.isNone_some,Bool.false_and,Bool.and_false]
 ·have hf':N0 g=false:=Bool.eq_false_iff.2 hf
  obtain⟨r,n,es⟩:=g
  unfold h03
  simp only[hF,hf',oB,K1,D0 (show F0 0 by decide),cond_false,Bool.false_and]
end Go.Proofs.YtcpjomkcdlggaaaGreat
