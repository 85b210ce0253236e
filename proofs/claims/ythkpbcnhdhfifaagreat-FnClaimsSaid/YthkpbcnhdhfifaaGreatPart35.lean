/- Texts of the claim, joined: Graphs that lie in a graph: what trimming and moving the bas and others. -/
import Derived.Test.YthkpbcnhdhfifaaGreatPart34
import Derived.Test.YthkpbcnhdhfifaaGreatPart32
import Derived.Test.YthkpbcnhdhfifaaGreatPart33
import Derived.Test.YthkpbcnhdhfifaaGreatPart21
import Derived.Test.YthkpbcnhdhfifaaGreatH36
import Derived.Test.YthkpbcnhdhfifaaGreatPart22
import Derived.Test.YthkpbcnhdhfifaaGreatPart29
namespace Go.Proofs.YthkpbcnhdhfifaaGreat
set_option linter.all false
open Go.H
open IntKind (i64)
structure Hom (x t:B0) (g:Int->Int):Prop where
 rng:∀ v,0<=v->v<x.2.1->0<=g v/\g v<t.2.1
 step:∀ v l,0<=v->v<x.2.1->0<=S0 x v l->S0 t (g v) l=g (S0 x v l)
structure Emb (c t:B0) (E:Int->Int):Prop where
 fc:H0 c=true
 hom:Hom c t E
 inj:∀ x y,0<=x->x<c.2.1->0<=y->y<c.2.1->E x=E y->x=y
 full:∀ x y l,0<=x->x<c.2.1->0<=y->y<c.2.1->S0 t (E x) l=E y->S0 c x l=y
def f08{g:B0}(hf:H0 g){v l:Int}(h:0<=S0 g v l):S0 g v l<g.2.1:=by rcases B03 (P0 hf).1 v l with e|e<;>omega
def Emb.comp{a b c:B0}{k j:Int->Int}(e:Emb a b k)(d:Emb b c j):Emb a c (λx=>j (k x)) where
 fc:=e.fc
 hom:=⟨λv h0 f=>d.hom.rng _ (e.hom.rng v h0 f).1 (e.hom.rng v h0 f).2,λv l h0 f h=>by
  have n:=e.hom.step v l h0 f h
  have m:=e.hom.rng v h0 f
  have o:=e.hom.rng _ h (f08 e.fc h)
  show S0 c (j (k v)) l=j (k (S0 a v l))
  rw[d.hom.step _ l m.1 m.2 (by rw[n];exact o.1),n]⟩
 inj:=λx y h0 f g i h=>e.inj x y h0 f g i (d.inj _ _ (e.hom.rng x h0 f).1 (e.hom.rng x h0 f).2 (e.hom.rng y g i).1 (e.hom.rng y g i).2 h)
 full:=λx y l h0 f g i h=>e.full x y l h0 f g i (d.full _ _ l (e.hom.rng x h0 f).1 (e.hom.rng x h0 f).2 (e.hom.rng y g i).1 (e.hom.rng y g i).2 h)
def I0r{g:B0}{a v l:Int}(h:0<=S0 g v l):Rch g.2.2 a v↔Rch g.2.2 a (S0 g v l):=by grind[d03,Rch.closed]
def Hom.rch{x t:B0}{g:Int->Int}(m:Hom x t g)(hf:H0 x){a b:Int}(h:Rch x.2.2 a b):Rch t.2.2 (g a) (g b):=by refine Rch.sub (P:=λz=>Rch t.2.2 (g a) (g z)) .base (λe d=>?_) h;have c:=(P0 hf).1 e d;have f:=(D9 hf d).1;have i:=m.step e.1 e.2.1 c.1.1 c.1.2 (by rw[f];exact c.2.1.1);rw[f]at i;have:=I0r (g:=t) (a:=g a) (v:=g e.1) (l:=e.2.1) (by rw[i];exact(m.rng _ c.2.1.1 c.2.1.2).1);grind
def Hom.comp{a b c:B0}{g k:Int->Int}(e:Hom a b g)(d:Hom b c k)(hf:H0 a):Hom a c (λx=>k (g x)) where
 rng:=λv h0 f=>d.rng _ (e.rng v h0 f).1 (e.rng v h0 f).2
 step:=λv l h0 f h=>by
  have j:=e.step v l h0 f h
  have i:=e.rng v h0 f
  have m:=e.rng _ h (f08 hf h)
  show S0 c (k (g v)) l=k (g (S0 a v l))
  rw[d.step _ l i.1 i.2 (by rw[j];exact m.1),j]
def Hom.lift{x c t:B0}{g i:Int->Int}(m:Hom x t g)(hf:H0 x)(e:Emb c t i)(h:∀ v,0<=v->v<x.2.1->∃ w,(0<=w/\w<c.2.1)/\i w=g v):∃ f,Hom x c f/\∀ v,0<=v->v<x.2.1->i (f v)=g v:=by
 have o:∀ v:Int,∃ w:Int,0<=v->v<x.2.1->(0<=w/\w<c.2.1)/\i w=g v:=λv=>by
  by_cases k:0<=v/\v<x.2.1;·grind
  exact⟨0,λh0 d=>absurd ⟨h0,d⟩ k⟩
 let f:Int->Int:=λv=>Classical.choose (o v)
 have j:∀ v,0<=v->v<x.2.1->(0<=f v/\f v<c.2.1)/\i (f v)=g v:=λv=>Classical.choose_spec (o v);refine⟨f,⟨λv h0 d=>(j v h0 d).1,λv l h0 d n=>?_⟩,λv h0 d=>(j v h0 d).2⟩;have p:=f08 hf n;have a:=j v h0 d;have b:=j _ n p;exact e.full _ _ l a.1.1 a.1.2 b.1.1 b.1.2 (by rw[a.2,b.2];exact m.step v l h0 d n)
theorem N0b{o:List Int}{i:Nat}{v:Int}(h:o[i]?=some v):getI o (i:Int)=v:=by simp_all[getI,List.getD_eq_getElem?_getD]
theorem l0y(P:List Int):∀(es:List Q0) (a:Q0),a∈es->0<=getI P a.1->0<=getI P a.2.2->((getI P a.1,a.2.1,getI P a.2.2):Q0)∈pE P es
 |b::r,a,h,c,d=>by
  unfold pE;rcases mE.1 h with rfl|h;·grind
  have e:=l0y P r a h c d;grind
def G0l{t:B0}{o:List Int}{a:Q0}:a∈(A6 t o).2.2↔∃ e∈t.2.2,a=(getI (plc t.2.1.toNat o) e.1,e.2.1,getI (plc t.2.1.toNat o) e.2.2)/\0<=getI (plc t.2.1.toNat o) e.1/\0<=getI (plc t.2.1.toNat o) e.2.2:=by
 show a∈H4 X0 [] _↔_;rw[O4 Q3];constructor;·grind[Z0k]
 rintro⟨e,d,rfl,b,c⟩;grind[l0y]
def T0u{n:Nat}{o:List Int}(b:inV n o)(d:o.Nodup){x:Int}(e:0<=x)(h:0<=getI (plc n o) x):getI o (getI (plc n o) x)=x:=by have j:=(b0e b e).2;have g:(getI (plc n o) x).toNat<o.length:=oM;have a:=V3 g;generalize k:o[(getI (plc n o) x).toNat]=v at a;have i:=W0c b d a;have f:=S0g b d e (b v (mG a)).1 h oM;have c:=N0b a;rw[show(((getI (plc n o) x).toNat:Nat):Int)=getI (plc n o) x by omega]at c;rw[c,f]
def m0y{o:List Int}{x:Int}(h0:0<=x)(a:x<(o.length:Int)):o[x.toNat]?=some (getI o x):=by grind[V3,N0b]
def m0d{t:B0}(hf:H0 t){o:List Int}(s:o.Nodup)(n:inV t.2.1.toNat o)(C:1<=o.length)(D:o.length<=40):Emb (A6 t o) t (getI o):=by
 have q:=f05 hf n s C D;obtain⟨I,N,O,P⟩:=P0 hf;have k:∀ x:Int,0<=x->x<(o.length:Int)->(0<=getI o x/\getI o x<t.2.1)/\getI (plc t.2.1.toNat o) (getI o x)=x:=λx a b=>by have F:=m0y a b;have:=n _ (mG F);grind[W0c]
 refine⟨q,⟨λv a b=>(k v a b).1,λv l a b h=>?_⟩,λx y a b c d h=>?_,λx y l a b c d h=>?_⟩;·obtain⟨_,J,E,_,u⟩:=d03 h;obtain⟨e,j,rfl,G,H⟩:=G0l.1 E;have z:=I e j;have K:=D9 hf j;have L:=T0u n s z.1.1 G;have M:=T0u n s z.2.1.1 H;grind
 ·rw[←(k x a b).2,h,(k y c d).2]
 have p:=k x a b;have m:=k y c d;obtain⟨_,e,j,_,u⟩:=d03 (g:=t) (v:=getI o x) (x:=l) (by rw[h];exact m.1.1);rw[h]at u;rcases u with⟨_,A,f,i⟩|⟨_,A,f,i⟩;·have w:((x,e.2.1,y):Q0)∈(A6 t o).2.2:=G0l.2 ⟨e,j,by rw[f,i,p.2,m.2],by rw[f,p.2];exact a,by rw[i,m.2];exact c⟩;have:=(D9 q w).1;grind
 have w:((y,e.2.1,x):Q0)∈(A6 t o).2.2:=G0l.2 ⟨e,j,by rw[f,i,p.2,m.2],by rw[i,m.2];exact c,by rw[f,p.2];exact a⟩;have:=(D9 q w).2;grind
structure x0B (x:B0) (p:Int):Prop where
 fx:H0 x=true
 pr:0<=p/\p<x.2.1
 two:∀ v,0<=v->v<x.2.1->v≠p->∀ z,∃ l,l≠z/\0<=S0 x v l
 con:∀ v,0<=v->v<x.2.1->Rch x.2.2 p v
def Z0e(c t:B0)(E:Int->Int):Prop:=∀(x:B0) (p:Int) (g:Int->Int),x0B x p->Hom x t g->(∃ w,(0<=w/\w<c.2.1)/\E w=g p)->∀ v,0<=v->v<x.2.1->∃ w,(0<=w/\w<c.2.1)/\E w=g v
def Z0e.comp{a b c:B0}{h i:Int->Int}(e:Emb a b h)(d:Emb b c i)(z:Z0e a b h)(A:Z0e b c i):Z0e a c (λx=>i (h x)):=by rintro x p g f m ⟨w,k,q⟩;have j:=e.hom.rng w k.1 k.2;obtain⟨l,n,t⟩:=m.lift f.fx d (A x p g f m ⟨h w,j,q⟩);have o:=n.rng p f.pr.1 f.pr.2;have y:h w=l p:=d.inj _ _ j.1 j.2 o.1 o.2 (by rw[t p f.pr.1 f.pr.2];exact q);intro v h0 s;obtain⟨u,C,D⟩:=z x p l f n ⟨w,k,y⟩ v h0 s;grind
def O0b{c t:B0}{a:Int->Int}(h:∀ v,0<=v->v<t.2.1->∃ w,(0<=w/\w<c.2.1)/\a w=v):Z0e c t a:=λx p g e d _ v h0 b=>h _ (d.rng v h0 b).1 (d.rng v h0 b).2
def j0h{v:Int}:∀ {es:List Q0} {e:Q0},e∈es->g08 v e<=Z02 v es
 |x::r,e,h=>by
  simp only[Z02];rcases mE.1 h with a|a;·rw[a];omega
  have:=j0h (v:=v) a;omega
def L0n{v:Int}:∀ {es:List Q0} {e d:Q0},e∈es->d∈es->e≠d->g08 v e+g08 v d<=Z02 v es
 |x::r,e,d,h,k,c=>by
  simp only[Z02];rcases mE.1 h with b|b;·rcases mE.1 k with a|a;all_goals simp_all[absurd,j0h]
  rcases mE.1 k with a|a;·have:=j0h (v:=v) b;rw[a];omega
  have:=L0n (v:=v) b a c;omega
def U0u{g:B0}(hf:H0 g){v:Int}(h:∀ z,∃ l,l≠z/\0<=S0 g v l):2<=Z02 v g.2.2:=by
 obtain⟨l,_,j⟩:=h 0;obtain⟨k,q,i⟩:=h l;obtain⟨_,e,a,n,p⟩:=d03 j;obtain⟨_,d,f,m,s⟩:=d03 i;by_cases c:e=d
 ·subst c;have:=j0h (v:=v) a;have b:e.1=v/\e.2.2=v:=by grind
  simp_all[g08,iP]
 have:=L0n (v:=v) a f c;have o:1<=g08 v e:=by unfold g08;grind
 have b:1<=g08 v d:=by unfold g08;grind
 omega
def Hom.two{x t:B0}{g:Int->Int}(m:Hom x t g)(hf:H0 x){v:Int}(h0:0<=v)(b:v<x.2.1)(h:∀ z,∃ l,l≠z/\0<=S0 x v l):∀ z,∃ l,l≠z/\0<=S0 t (g v) l:=λz=>by obtain⟨l,c,a⟩:=h z;exact⟨l,c,by rw[m.step v l h0 b a];exact(m.rng _ a (f08 hf a)).1⟩
theorem n0t(g:Nat):∀(d k:Nat),(g:Int) ∉ wo g d k
 |0,k,h=>nomatch h
 |d+1,k,h=>by
  unfold wo at h;by_cases c:k=g;·rw[iP c]at h;exact n0t g d (k+1) h
  rw[iE c]at h;rcases mE.1 h with h|h;·omega
  exact n0t g d (k+1) h
def n0y{a:Nat->Bool}:∀(d v k:Nat),lf a d v=some k->a k
 |0,v,k,h=>by cases h
 |d+1,v,k,h=>by
  unfold lf at h;cases hb:a v;·rw[hb]at h;exact n0y d (v+1) k h
  grind
def J0r:∀(d:Nat) {h:B0},H0 h->(∀ w,0<=w->w<(T8 d h).2.1->Rch (T8 d h).2.2 0 w)->∃ s,Emb (T8 d h) h s/\s 0=0/\Z0e (T8 d h) h s
 |0,h,hf,o=>⟨id,⟨hf,⟨λv a b=>⟨a,b⟩,λv l a b k=>rfl⟩,λx y _ _ _ _ e=>e,λx y l _ _ _ _ e=>e⟩,rfl,O0b λv a b=>⟨v,⟨a,b⟩,rfl⟩⟩
 |d+1,h,hf,o=>by
  unfold T8 at o ⊢;cases e:J9 h with
  |none=>exact⟨id,⟨hf,⟨λv a b=>⟨a,b⟩,λv l a b k=>rfl⟩,λx y _ _ _ _ e=>e,λx y l _ _ _ _ e=>e⟩,rfl,O0b λv a b=>⟨v,⟨a,b⟩,rfl⟩⟩
  |some k =>
   rw[e]at o;obtain⟨ac,ad,ae,af⟩:=P0 hf;obtain⟨s1,s2,J,K⟩:=L08 (Y1 hf) e;have Y:=d0e e;have q:=n0y _ _ _ e;have H:=T06 k h.2.1.toNat 0;have C:=m0d hf H s1 J K;have S:=f05 hf s1 H J K;simp only at o ⊢;obtain⟨s,A,L,M⟩:=J0r d S o;have V:getI (wo k h.2.1.toNat 0) 0=0:=by obtain⟨m,Q⟩:∃ m,h.2.1.toNat=m+1:=⟨h.2.1.toNat-1,oM⟩;rw[Q,wo,iE oM];rfl
   have F:=A.comp C;refine⟨_,F,by rw[L];exact V,?_⟩;rintro x p g f z ⟨w,t,U⟩;have E:=A.hom.rng w t.1 t.2;have T:Rch h.2.2 0 (g p):=by have:=F.hom.rch A.fc (o w t.1 t.2);grind
   have Z:∀ u,0<=u->u<(A6 h (wo k h.2.1.toNat 0)).2.1->getI (wo k h.2.1.toNat 0) u≠(k:Int):=λu W X c=>by have:=mG (m0y W X);grind[n0t]
   have R:∀ v,0<=v->v<x.2.1->g v≠(k:Int):=λv j n c=>by
    by_cases cp:v=p;·grind
    unfold N0a at q;simp only[Bool.or_eq_true,dE,Bool.not_eq_true',decide_eq_false_iff_not]at q;rcases q with q|q;·have:=U0u hf (z.two f.fx j n (f.two v j n cp));rw[c]at this;omega
    refine q ((Q06 _ _ _).2 ?_);rw[←c];exact Rch.tr T (z.rch f.fx (f.con v j n))
   obtain⟨D,G,N⟩:=z.lift f.fx C λv j n=>by have o:=z.rng v j n;have:=Y0h k h.2.1.toNat 0 (g v).toNat (Nat.zero_le _) oM (λc=>R v j n oM);rw[show(((g v).toNat:Nat):Int)=g v by omega]at this;obtain⟨i,P⟩:=List.getElem?_of_mem this;refine⟨(i:Int),⟨oM,?_⟩,N0b P⟩;show(i:Int)<(((wo k h.2.1.toNat 0).length:Nat):Int);grind
   have I:=G.rng p f.pr.1 f.pr.2;have O:s w=D p:=C.inj _ _ E.1 E.2 I.1 I.2 (by rw[N p f.pr.1 f.pr.2];exact U);intro v j n;obtain⟨u,aa,ab⟩:=M x p D f G ⟨w,t,O⟩ v j n;grind
def H0l{h:B0}(hf:H0 h):∃ b,Emb (S03 h) h b/\b 0=0/\Z0e (S03 h) h b:=by
 have p:=Y1 hf;obtain⟨C,D,E,F⟩:=P0 hf;have e:=m01 40 hf;have k:=o09 40 p oM;obtain⟨x,y,z,A⟩:=P0 e;have a:=z05 e;have o:∀ w,0<=w->w<(T8 40 h).2.1->w∈l3 (T8 40 h):=λw h0 d=>S0a e k h0 d;have s:∀ w,0<=w->w<(T8 40 h).2.1->Rch (T8 40 h).2.2 0 w:=λw h0 d=>by
  by_cases c:w=0;·rw[c];exact .base
  have:=F0b k w.toNat oM oM;unfold N0a at this;simp only[Bool.or_eq_false_iff,Bool.not_eq_false',dE]at this;have j:=this.2;rw[show((w.toNat:Nat):Int)=w by omega]at j;exact(Q06 _ _ _).1 j
 obtain⟨b,f,l,m⟩:=J0r 40 hf s;have g:=m0d e a.1.1 a.1.2 a.2 (Nat.le_trans (I9 _ _ a.1.1 a.1.2) oM);have u:getI (l3 (T8 40 h)) 0=0:=by obtain⟨t,n⟩:=q09 (T8 40 h);rw[n];rfl
 refine⟨_,g.comp f,by rw[u];exact l,Z0e.comp g f (O0b λv h0 d=>?_) m⟩;obtain⟨i,q⟩:=List.getElem?_of_mem (o v h0 d);refine⟨(i:Int),⟨oM,?_⟩,N0b q⟩;show(i:Int)<(((l3 (T8 40 h)).length:Nat):Int);grind
def K0r{a:B0}(hf:H0 a){v:Int}(e:0<=v/\v<a.2.1):∃ b,Emb (o6 a v) a b/\b 0=v/\Z0e (o6 a v) a b:=by obtain⟨o,p,q,s⟩:=P0 hf;obtain⟨h,j,n⟩:=Y0c hf e;have c:=m0d hf j h oM oM;obtain⟨b,d,f,g⟩:=H0l c.fc;refine⟨_,d.comp c,by rw[f];rfl,Z0e.comp d c g (O0b λu l m=>?_)⟩;obtain⟨i,k⟩:=List.getElem?_of_mem (K0n e.1 u l m);refine⟨(i:Int),⟨oM,?_⟩,N0b k⟩;show(i:Int)<(((s08 a v).length:Nat):Int);grind
structure o0a (x t:B0) (g:Int->Int):Prop where
 rng:∀ v,0<=v->v<x.2.1->0<=g v/\g v<t.2.1
 edge:∀ e∈x.2.2,((g e.1,e.2.1,g e.2.2):Q0)∈t.2.2
def o0a.hom{x t:B0}{g:Int->Int}(m:o0a x t g)(b:H0 t):Hom x t g where
 rng:=m.rng
 step:=λv l h0 c h=>by
  obtain⟨_,e,a,_,d⟩:=d03 h
  have f:=D9 b (m.edge e a)
  grind
def Hom.ehom{x t:B0}{g:Int->Int}(m:Hom x t g)(h:H0 x):o0a x t g where
 rng:=m.rng
 edge:=λe b=>by
  have a:=(P0 h).1 e b
  have c:=(D9 h b).1
  have f:=m.step e.1 e.2.1 a.1.1 a.1.2 (by rw[c];exact a.2.1.1)
  rw[c]at f
  have i:=m.rng _ a.2.1.1 a.2.1.2
  obtain⟨_,d,k,j,l⟩:=d03 (g:=t) (v:=g e.1) (x:=e.2.1) (by rw[f];exact i.1)
  grind
def o0a.comp{a b c:B0}{g k:Int->Int}(e:o0a a b g)(d:o0a b c k):o0a a c (λx=>k (g x)) where
 rng:=λv h0 f=>d.rng _ (e.rng v h0 f).1 (e.rng v h0 f).2
 edge:=λz h=>d.edge _ (e.edge z h)
def c0w{a b:Q0}{f:K6}(h:f∈M09 a b):a.2.1=b.2.1/\((a.1=b.1/\((f.1=a.2.2/\f.2=b.2.2)∨(f.1=b.2.2/\f.2=a.2.2)))∨(a.2.2=b.2.2/\((f.1=a.1/\f.2=b.1)∨(f.1=b.1/\f.2=a.1)))):=by unfold M09 at h;grind
theorem M0n{a:Q0}{f:K6}:∀ {l:List Q0},f∈Q04 a l->∃ b∈l,f∈M09 a b
 | [],h=>by simp[Q04]at h
 |b::r,h=>by
  rcases List.mem_append.1 (show f∈M09 a b++Q04 a r from h)with h|h;·grind
  obtain⟨c,d,hf⟩:=M0n h;grind
def N0n{f:K6}:∀ {l:List Q0},f∈O9 l->∃ a∈l,∃ b∈l,f∈M09 a b
 | [],h=>by simp[O9]at h
 |a::r,h=>by
  rcases List.mem_append.1 (show f∈Q04 a r++O9 r from h)with h|h;·grind[M0n,List.mem_cons_self,mC]
  obtain⟨c,e,b,d,hf⟩:=N0n h;grind
def m0z{x t:B0}{g:Int->Int}(m:o0a x t g)(c:H0 t){f:K6}(hf:f∈O9 x.2.2):g f.1=g f.2:=by obtain⟨a,d,b,e,h⟩:=N0n hf;obtain⟨k,l⟩:=c0w h;have i:=D9 c (m.edge a d);have j:=D9 c (m.edge b e);grind
structure Fol (x y:B0) (q:Int->Int):Prop where
 hom:o0a x y q
 base:q 0=0
 onto:∀ u,0<=u->u<y.2.1->∃ v,(0<=v/\v<x.2.1)/\q v=u
 uni:∀(t:B0) (g:Int->Int),H0 t=true->o0a x t g->∃ g',o0a y t g'/\∀ v,0<=v->v<x.2.1->g' (q v)=g v
def Fol.refl(x:B0):Fol x x id :=
 ⟨⟨λv h0 a=>⟨h0,a⟩,λe b=>b⟩,rfl,λu h0 a=>⟨u,⟨h0,a⟩,rfl⟩,λt g _ m=>⟨g,m,λ_ _ _=>rfl⟩⟩
def Fol.comp{x y z:B0}{q p:Int->Int}(a:Fol x y q)(b:Fol y z p):Fol x z (λv=>p (q v)) where
 hom:=a.hom.comp b.hom
 base:=by rw[a.base,b.base]
 onto:=λu h0 c=>by
  obtain⟨v,f,e⟩:=b.onto u h0 c
  obtain⟨w,s,o⟩:=a.onto v f.1 f.2
  grind
 uni:=λt g d m=>by
  obtain⟨j,l,h⟩:=a.uni t g d m
  obtain⟨k,n,i⟩:=b.uni t j d l
  exact⟨k,n,λv h0 c=>by rw[i _ (a.hom.rng v h0 c).1 (a.hom.rng v h0 c).2,h v h0 c]⟩
def d0w{x:B0}{f:K6}(k:W0 x)(hf:f∈O9 x.2.2):Fol x (p04 x f) (mvV f):=by
 obtain⟨n,f2,f3⟩:=R06 k f hf;refine⟨⟨λv h0 a=>?_,λe b=>(O4 Q3 _ _ _).2 (.inr (List.mem_map.2 ⟨e,b,rfl⟩))⟩,?_,λu h0 a=>?_,λt g j m=>?_⟩;·show 0<=mvV f v/\mvV f v<x.2.1-1;grind[mvV]
 ·unfold mvV;rw[iE oM,iE oM]
 ·have a:u<x.2.1-1:=a;by_cases c:u<f.2;·refine⟨u,⟨h0,oM⟩,?_⟩;unfold mvV;rw[iE oM,iE oM]
  refine⟨u+1,⟨oM,oM⟩,?_⟩;unfold mvV;grind
 have b:=m0z m j hf;have l:∀ v,(if mvV f v<f.2 then g (mvV f v)else g (mvV f v+1))=g v:=λv=>by unfold mvV;grind
 refine⟨λu=>if u<f.2 then g u else g (u+1),⟨λu h0 a=>?_,λe b=>?_⟩,λv _ _=>l v⟩
 ·have a:u<x.2.1-1:=a;show 0<=(if u<f.2 then g u else g (u+1))/\(if u<f.2 then g u else g (u+1))<t.2.1;split;·exact m.rng u h0 oM
  exact m.rng (u+1) oM oM
 rcases(O4 Q3 _ _ _).1 b with h|h;·cases h
 obtain⟨d,i,rfl⟩:=List.mem_map.1 h;have:=m.edge d i;show(((if mvV f d.1<f.2 then g (mvV f d.1)else g (mvV f d.1+1)),d.2.1,(if mvV f d.2.2<f.2 then g (mvV f d.2.2)else g (mvV f d.2.2+1))):Q0)∈t.2.2;grind
theorem O0n:∀(n:Nat) {g:B0},W0 g->∃ q,Fol g (z03 n g).1 q
 |0,g,h=>⟨id,Fol.refl g⟩
 |n+1,g,h=>by
  unfold z03;cases e:O9 g.2.2 with
  |nil=>exact⟨id,Fol.refl g⟩
  |cons f r =>have a:f∈O9 g.2.2:=oG;obtain⟨q,b⟩:=O0n n (Z07 h (R06 h f a));exact⟨_,(d0w h a).comp b⟩
def n0d{g:B0}(h:W0 g):∃ q,Fol g (N8 g).1 q:=by grind[O0n,N8]
def Rd(x:B0):Int->List Int->Int->Prop
 |u,[],v=>u=v
 |u,l::w,v=>∃ z,stp u l z∈x.2.2/\Rd x z w v
def t0p(g:Int->Int)(u l z:Int):((g (stp u l z).1,(stp u l z).2.1,g (stp u l z).2.2):Q0)=stp (g u) l (g z):=by unfold stp;split<;>rfl
def Rd.map{x t:B0}{g:Int->Int}(m:o0a x t g):∀ {w:List Int} {u v:Int},Rd x u w v->Rd t (g u) w (g v)
 | [],u,v,h=>congrArg g h
 |l::w,u,v,⟨z,a,h⟩=>⟨g z,by rw[←t0p];exact m.edge _ a,Rd.map m h⟩
def I0l{t:B0}(a:H0 t){u l z:Int}(h:stp u l z∈t.2.2):S0 t u l=z/\0<=z:=by have c:=D9 a h;have b:=(P0 a).1 _ h;unfold stp at c b;grind
def Rd.rdw{t:B0}(a:H0 t):∀ {w:List Int} {u v:Int},Rd t u w v->rdw t u w=some v
 | [],u,v,h=>congrArg some h
 |l::w,u,v,⟨z,c,h⟩=>by have b:=I0l a c;unfold Go.Proofs.YthkpbcnhdhfifaaGreat.rdw;rw[b.1,iE oM];exact Rd.rdw a h
theorem Rd.of{t:B0}:∀ {w:List Int} {u v:Int},Go.Proofs.YthkpbcnhdhfifaaGreat.rdw t u w=some v->Rd t u w v
 | [],u,v,h=>oJ h
 |l::w,u,v,h=>by
  unfold Go.Proofs.YthkpbcnhdhfifaaGreat.rdw at h;by_cases c:S0 t u l<0;·grind
  rw[iE c]at h;obtain⟨_,e,b,a,_⟩:=d03 (g:=t) (v:=u) (x:=l) oM;exact⟨_,by rw[←a];exact b,Rd.of h⟩
def Rd.mono{x y:B0}(h:∀ e∈x.2.2,e∈y.2.2):∀ {w:List Int} {u v:Int},Rd x u w v->Rd y u w v
 | [],u,v,k=>k
 |l::w,u,v,⟨z,a,k⟩=>⟨z,h _ a,Rd.mono h k⟩
theorem p0e{g:B0}{u v:Int}{w:List Int}(h:(T1 g u w v).2):w≠[]/\(T1 g u w v).1=(g.1,g.2.1+((w.length-1:Nat):Int),H4 X0 g.2.2 (h02 v w u g.2.1)):=by unfold T1 at h ⊢;grind
def J0l{x:B0}(v:Int):∀(w:List Int) (u n:Int),w≠[]->(∀ e∈h02 v w u n,e∈x.2.2)->Rd x u w v
 | [],u,n,h,_=>absurd rfl h
 | [l],u,n,_,h=>⟨v,h _ mS,rfl⟩
 |l::y::r,u,n,_,h=>⟨n,h _ mS,J0l v (y::r) n (n+1) (λe=>by cases e) λe a=>h e (mC _ a)⟩
def u0p{t:B0}{u l:Int}(h:0<=S0 t u l):stp u l (S0 t u l)∈t.2.2:=by grind[d03]
def L0r{t:B0}(i:H0 t)(v:Int):∀(w:List Int) (u n:Int) (G:Int->Int),w≠[]->u<n->v<n->rdw t (G u) w=some (G v) -> ∃ d:Int->Int,(∀ z,z<n->d z=G z)/\(∀ e∈h02 v w u n,((d e.1,e.2.1,d e.2.2):Q0)∈t.2.2)/\∀ z,n<=z->z<n+((w.length-1:Nat):Int)->0<=d z/\d z<t.2.1
 | [],u,n,G,h,_,_,_=>absurd rfl h
 | [l],u,n,G,_,p,x,h=>by
  refine⟨G,λz _=>rfl,λe f=>?_,λz h0 o=>?_⟩
  ·obtain rfl:e=stp u l v:=by simpa [h02] using f
   obtain⟨z,g,j⟩:=Rd.of h;obtain rfl:z=G v:=j;rw[t0p];exact g
  simp at o;omega
 |l::y::r,u,n,G,_,p,x,h=>by
  obtain⟨z,g,j⟩:=Rd.of h;have s:=(P0 i).1 _ g;have C:0<=z/\z<t.2.1:=by unfold stp at s;grind
  obtain⟨d,a,b,c⟩:=L0r i v (y::r) n (n+1) (λk=>if k=n then z else G k) (λe=>by cases e) oM oM (by show rdw t (if n=n then z else G n) (y::r)=some (if v=n then z else G v);rw[iP rfl,iE oM];exact Rd.rdw i j);have q:d n=z:=oG;have m:∀ k,k<n->d k=G k:=λk A=>oG;refine⟨d,m,λe f=>?_,λk h0 o=>?_⟩
  ·rcases mE.1 (show e∈stp u l n::h02 v (y::r) n (n+1) from f)with rfl|f;·rw[t0p,q,m u p];exact g
   exact b e f
  grind
def i0i{x:B0}{u v:Int}{w:List Int}(h:(T1 x u w v).2):o0a x (T1 x u w v).1 id:=by obtain⟨a,b⟩:=p0e h;rw[b];exact⟨λz h0 a=>⟨h0,oG⟩,λe c=>(O4 Q3 _ _ _).2 (.inl c)⟩
def N0j{x:B0}{u v:Int}{w:List Int}(h:(T1 x u w v).2):Rd (T1 x u w v).1 u w v:=by obtain⟨a,b⟩:=p0e h;rw[b];exact J0l v w u x.2.1 a λe c=>(O4 Q3 _ _ _).2 (.inr c)
def o0y{x t:B0}{u v:Int}{w:List Int}(s:W0 x)(p:u<x.2.1)(q:v<x.2.1)(h:(T1 x u w v).2)(o:H0 t){g:Int->Int}(m:o0a x t g)(n:rdw t (g u) w=some (g v)): ∃ j,o0a (T1 x u w v).1 t j/\∀ z,z<x.2.1->j z=g z:=by
 obtain⟨i,l⟩:=p0e h;obtain⟨G,a,b,c⟩:=L0r o v w u x.2.1 g i p q n;refine⟨G,?_,a⟩;rw[l];refine⟨λz h0 i=>?_,λe f=>?_⟩
 ·have i:z<x.2.1+((w.length-1:Nat):Int):=i;by_cases d:z<x.2.1;·rw[a z d];exact m.rng z h0 d
  simp_all
 rcases(O4 Q3 _ _ _).1 f with f|f;·have k:=(P2 s).1 e f;rw[a _ k.1.2,a _ k.2.1.2];exact m.edge e f
 exact b e f
def P0n:∀(ws:List (List Int)) (g:B0),o0a g (a08 ws g) id
 | [],g=>⟨λv h0 a=>⟨h0,a⟩,λe b=>b⟩
 |w::r,g=>by
  have c:=P0n r (T1 g 0 w 0).1;cases h:(T1 g 0 w 0).2;·grind[T1,decide,a08,id]
  exact(i0i h).comp c
theorem V0u:∀(ws:List (List Int)) (g:B0),0<=g.2.1->g.2.1+(tot ws:Int)<=40->g.2.2.length+tot ws<=120->∀ w∈ws,Rd (a08 ws g) 0 w 0
 | [],g,h0,d,e,w,b=>by cases b
 |a::r,g,h0,d,e,w,b=>by
  have f:tot (a::r)=a.length+tot r:=rfl;rw[f]at d e;rcases mE.1 b with rfl|b
  ·by_cases c:w = [];·rw[c];exact rfl
   have j:0<w.length:=List.length_pos_iff.2 c;have h:(T1 g 0 w 0).2:=by unfold T1;grind
   exact(N0j h).mono (P0n r (T1 g 0 w 0).1).edge
  have i:(T1 g 0 a 0).1.2.1<=g.2.1+a.length/\(T1 g 0 a 0).1.2.2.length<=g.2.2.length+a.length/\0<=(T1 g 0 a 0).1.2.1:=by
   cases h:(T1 g 0 a 0).2;·grind[T1,decide]
   grind[p0e,r02,h02,P0a]
  exact V0u r (T1 g 0 a 0).1 oM oM oM w b
theorem e0w{r:Int}{ws:List (List Int)}(h:O2 r ws):tot ws<40:=by simp_all[O2,aE,dE]
theorem f0w{r:Int}{ws:List (List Int)}(h:O2 r ws=true):∀ w∈ws,Rd (a08 ws (r,1,[])) 0 w 0:=by
 grind[e0w,V0u,List.length_nil]
def Cmp(t:B0):Prop:=∀ v,0<=v->v<t.2.1->∀ l,l≠0 -> -t.1<=l->l<=t.1->0<=S0 t v l
def Q0n{g:B0}{v:Int}:∀ {b:List Int},p08 g v b = []->∀ x∈b,0<=S0 g v x
 | [],_,x,a=>by cases a
 |y::b,h,x,a=>by
  unfold p08 at h;obtain⟨d,c⟩:=List.append_eq_nil_iff.1 h;rcases mE.1 a with rfl|a;·grind
  exact Q0n c x a
def R0n{g:B0}:∀ {d k:Nat},N09 g d k = []->∀ v:Nat,k<=v->v<k+d->∀ x∈Y5 g.1.toNat 1,0<=S0 g (v:Int) x
 |0,k,_,v,f,i,x,e=>oM
 |d+1,k,h,v,f,i,x,e=>by
  unfold N09 at h;obtain⟨a,b⟩:=List.append_eq_nil_iff.1 h;by_cases c:v=k;·subst c;exact Q0n a x e
  exact R0n b v oM oM x e
def p0y{r l:Int}(h0:l≠0)(a : -r<=l)(b:l<=r):l∈Y5 r.toNat 1:=by
 by_cases c:0<l;·have:=(p09 r.toNat 1 l.toNat oM oM).1;rwa [show((l.toNat:Nat):Int)=l by omega]at this
 have:=(p09 r.toNat 1 (-l).toNat oM oM).2;rwa [show -(((-l).toNat:Nat):Int)=l by omega]at this
def M0r{g:B0}(h:L01 g = []):Cmp g:=λv h0 d l c a b=>by have:=R0n h v.toNat (Nat.zero_le _) oM l (p0y c a b);rwa [show((v.toNat:Nat):Int)=v by omega]at this
def W0u{g:B0}(h:t04 g):Cmp g:=by simp_all[t04,aE,dE,M0r,List.length_eq_zero_iff]
theorem k0h(g:B0):(S03 g).1=g.1:=by
 have h:∀(d:Nat) (g:B0),(T8 d g).1=g.1:=by
  intro d;induction d with
  |zero=>intro g;rfl
  |succ d a =>
   intro g;unfold T8;cases J9 g with
   |none=>rfl
   |some k=>exact a _
 exact h 40 g
def K0l{c x:B0}{a:Int->Int}(d:Emb c x a)(k:c.1=x.1)(g:H0 x)(f:Cmp c):∀ {w:List Int} {v z:Int},0<=v->v<c.2.1->rdw x (a v) w=some z->∃ u,(0<=u/\u<c.2.1)/\rdw c v w=some u/\a u=z
 | [],v,z,h0,b,h=>⟨v,⟨h0,b⟩,rfl,oJ h⟩
 |l::w,v,z,h0,b,h=>by
  unfold rdw at h;by_cases c1:S0 x (a v) l<0;·grind
  rw[iE c1]at h;obtain⟨o,p,C,D⟩:=P0 g;have j:=h0r o p.1 (show 0<=S0 x (a v) l by omega);obtain⟨s,t,y,A⟩:=Q0a _ _ _ j;have e:=f v h0 b l oM oM oM;have m:=d.hom.step v l h0 b e;rw[m]at h;obtain⟨u,n,q,i⟩:=K0l d k g f e (f08 d.fc e) h;refine⟨u,n,?_,i⟩;simp_all[rdw,iE]
def N0r{a b:B0}{f k:Int->Int}(m:Mor a b f)(n:Mor b a k)(h:∀ v,0<=v->v<a.2.1->k (f v)=v):a.2.1.toNat<=b.2.1.toNat:=by
 have:=a0p a.2.1.toNat ((List.range b.2.1.toNat).map λi:Nat=>k (i:Int)) λi c=>by have d:=m.rng (i:Int) oM oM;exact List.mem_map.2 ⟨(f (i:Int)).toNat,List.mem_range.2 oM,oG⟩
 simpa using this
def O0r{a b:B0}(i:D1 a){f k:Int->Int}(m:Mor a b f)(n:Mor b a k):∀ v,0<=v->v<a.2.1->k (f v)=v:=λv h0 l=>by have hf:=y02 i;refine Rch.sub (P:=λz=>k (f z)=z) (by rw[m.base,n.base]) (λe j=>?_) (H0r i h0 l);have c:=(P0 hf).1 e j;have d:=D9 hf j;have s1:=m.step e.1 e.2.1 c.1.1 c.1.2 oG;have s2:=m.step e.2.2 (-e.2.1) c.2.1.1 c.2.1.2 (by rw[d.2];exact c.1.1);rw[d.1]at s1;rw[d.2]at s2;have g:=m.rng _ c.1.1 c.1.2;have h:=m.rng _ c.2.1.1 c.2.1.2;have o:=n.step (f e.1) e.2.1 g.1 g.2 (by rw[s1];exact h.1);have p:=n.step (f e.2.2) (-e.2.1) h.1 h.2 (by rw[s2];exact g.1);grind
def Mor.toHom{a b:B0}{f:Int->Int}(m:Mor a b f):Hom a b f:=⟨m.rng,m.step⟩
theorem N0A{a b:B0}(o:D1 a)(q:D1 b)(u:b.1=a.1){f k:Int->Int}(m:Mor a b f)(n:Mor b a k):a=b:=by
 have g:=y02 o;have i:=y02 q;have d:=O0r o m n;have p:=O0r q n m;have s1:=N0r m n d;have s2:=N0r n m p;have z:=(P0 g).2.2.1;have A:=(P0 i).2.2.1;have s:=m.toHom.ehom g;have t:=n.toHom.ehom i;have iso:Iso a b f a.2.1.toNat := {
  rank:=u
  nt:=oM
  nc:=oM
  ft:=g
  fc:=i
  rng:=λx h0 d=>by
   have:=m.rng x h0 oM
   omega
  inj:=λx y v C w D h=>by rw[←d x v oM,←d y w oM,h]
  mem:=λc=>by
   constructor
   ·intro j
    have l:=(P0 i).1 c j
    exact⟨_,t.edge c j,by
     show c=(f (k c.1),c.2.1,f (k c.2.2))
     rw[p _ l.1.1 l.1.2,p _ l.2.1.1 l.2.1.2]⟩
   ·rintro⟨e,j,rfl⟩
    exact s.edge e j }
 have:=iso.canon m.base λx h0 d=>R0i g (H0r o h0 oM);grind[F0l]
def Rdc:List Int->Prop
 |x::y::r=>y ≠ -x/\Rdc (y::r)
 |_=>True
def Rdc.tail{x:Int}{w:List Int}(h:Rdc (x::w)):Rdc w:=by
 cases w with
 |nil=>exact trivial
 |cons y r=>exact h.2
def j0i:∀ {w:List Int},(∀ x∈w,C3 x/\x≠0)->Red w.reverse->Rdc w
 | [],_,_=>trivial
 | [x],_,_=>trivial
 |x::y::r,d,h=>by rw[List.reverse_cons]at h;obtain⟨a,_,b⟩:=(I0b _ _).1 h;refine⟨λc=>?_,j0i (λz e=>d z (mC _ e)) a⟩;have:=b y x oS rfl;grind[List.mem_cons_self,j05]
def L0l{r:Int}{w:List Int}(h:O1 r w):Rdc w:=by obtain⟨_,b⟩:=w00 h;refine j0i (λx a=>⟨(b x a).1,(b x a).2.1⟩) ?_;have:=J0a w [] rfl;rwa [←List.reverse_reverse (Z8 [] w),U06 h]at this
def M0l{c t:B0}{b:Int->Int}(d:Emb c t b)(g:H0 t)(m:∀ y,0<=y->y<t.2.1->(∃ u,(0<=u/\u<c.2.1)/\b u=y)∨Z02 y t.2.2<2 ∨ ¬ Rch t.2.2 0 y): ∀(w:List Int) (v z:Int),Rdc w->0<=v->v<c.2.1->0<=z->z<c.2.1->Rch t.2.2 0 (b v)->rdw t (b v) w=some (b z)->rdw c v w=some z
 | [],v,z,_,i,j,k,l,_,h=>congrArg some (d.inj v z i j k l (oJ h))
 |x::w,v,z,p,i,j,k,l,C,h=>by
  unfold rdw at h;by_cases c1:S0 t (b v) x<0;·grind
  rw[iE c1]at h;have f:0<=S0 t (b v) x:=oM;have n:=(I0r (a:=0) f).1 C;have fin:∀ u,0<=u->u<c.2.1->b u=S0 t (b v) x->rdw c v (x::w)=some z:=λu q s e=>by have hf:=d.full v u x i j q s e.symm;unfold rdw;rw[hf,iE oM];rw[←e]at h n;exact M0l d g m w u z p.tail q s k l n h
  rcases m _ f (f08 g f)with⟨u,o,e⟩|E;·exact fin u o.1 o.2 e
  cases w with
  |nil=>exact fin z k l (oJ h).symm
  |cons A w =>
   have D:0<=S0 t (S0 t (b v) x) A:=by unfold rdw at h;grind
   have F:=I00 g rfl f;have G:=(d.hom.rng v i j).1;have:=U0u g (v:=S0 t (b v) x) λy=>by
    by_cases c3:y = -x;·exact⟨A,by rw[c3];exact p.1,D⟩
    grind
   grind
theorem S0n:∀(d:Nat) {h:B0},H0 h->∀ w,Rdc w->rdw h 0 w=some 0->rdw (T8 d h) 0 w=some 0
 |0,h,hf,w,e,a=>a
 |d+1,h,hf,w,e,a=>by
  unfold T8;cases hl:J9 h with
  |none=>exact a
  |some k =>
   obtain⟨v,x,z,A⟩:=P0 hf;have u:=d0e hl;obtain⟨q,C,s,t⟩:=L08 (Y1 hf) hl;have g:=m0d hf (T06 k h.2.1.toNat 0) q s t;have f:getI (wo k h.2.1.toNat 0) 0=0:=by obtain⟨n,p⟩:∃ n,h.2.1.toNat=n+1:=⟨h.2.1.toNat-1,oM⟩;rw[p];unfold wo;rw[iE oM];rfl
   have j:(0:Int)<(A6 h (wo k h.2.1.toNat 0)).2.1:=by show(0:Int)<(((wo k h.2.1.toNat 0).length:Nat):Int);omega
   refine S0n d g.fc w e (M0l g hf (λy D E=>?_) w 0 0 e (iR _) j (iR _) j (by rw[f];exact .base) (by rw[f];exact a));by_cases c:y.toNat=k;·have b:=n0y _ _ _ hl;unfold N0a at b;rw[←c,show((y.toNat:Nat):Int)=y by omega,Bool.or_eq_true,(dE),Bool.not_eq_true',decide_eq_false_iff_not]at b;refine .inr (b.imp id λl m=>l ((Q06 _ _ _).2 m))
   have:=Y0h k h.2.1.toNat 0 y.toNat (Nat.zero_le _) oM c;rw[show((y.toNat:Nat):Int)=y by omega]at this;obtain⟨i,o⟩:=List.getElem?_of_mem this;refine .inl ⟨(i:Int),⟨oM,?_⟩,N0b o⟩;show(i:Int)<(((wo k h.2.1.toNat 0).length:Nat):Int);grind
def k0i{h:B0}(hf:H0 h){w:List Int}(j:Rdc w)(n:rdw h 0 w=some 0):rdw (S03 h) 0 w=some 0:=by
 have e:=Y1 hf;obtain⟨u,v,x,z⟩:=P0 hf;have b:=m01 40 hf;have g:=o09 40 e oM;obtain⟨o,p,q,s⟩:=P0 b;have a:=z05 b;have c:=m0d b a.1.1 a.1.2 a.2 (Nat.le_trans (I9 _ _ a.1.1 a.1.2) oM);have k:getI (l3 (T8 40 h)) 0=0:=by obtain⟨t,d⟩:=q09 (T8 40 h);rw[d];rfl
 have h0:(0:Int)<(A6 (T8 40 h) (l3 (T8 40 h))).2.1:=by show(0:Int)<(((l3 (T8 40 h)).length:Nat):Int);omega
 refine M0l c b (λy l m=>?_) w 0 0 j (iR _) h0 (iR _) h0 (by rw[k];exact .base) (by grind[S0n]);obtain⟨i,f⟩:=List.getElem?_of_mem (S0a b g l m);refine .inl ⟨(i:Int),⟨oM,?_⟩,N0b f⟩;show(i:Int)<(((l3 (T8 40 h)).length:Nat):Int);grind
def g0w{r:Int}{ws:List (List Int)}(h:O2 r ws):∀ w∈ws,S4 (O3 r ws).1 w:=λw d=>by obtain⟨g,f,e⟩:=x07 h;have a:=B07 h;obtain⟨q,b⟩:=n0d a;have hf:=H02 a;have c:=((f0w h w d).map b.hom).rdw hf;rw[b.base]at c;have:=k0i hf (L0l (e w d)) c;unfold O3;rw[h];exact(f00 _ _).2 this
def Rd.app{x:B0}:∀ {a b:List Int} {u v z:Int},Rd x u a v->Rd x v b z->Rd x u (a++b) z
 | [],b,u,v,z,h,k=>by obtain rfl:u=v:=h;exact k
 |l::a,b,u,v,z,⟨y,c,h⟩,k=>⟨y,c,Rd.app h k⟩
def I0f(g:B0):∀(w:List Int) (v:Int) (x:Int) (r:List Int),w.drop (A2 g v w).2=x::r->S0 g (A2 g v w).1 x<0
 | [],v,x,r,h=>by simp[A2]at h
 |y::w,v,x,r,h=>by
  unfold A2 at h ⊢;by_cases c:S0 g v y<0;·grind
  rw[iE c]at h ⊢;exact I0f g w _ x r h
def l0i(g:B0)(w:List Int):rdw g 0 (w.take (A2 g 0 w).2)=some (A2 g 0 w).1:=by grind[k03,X0h,M0b,List.length_take]
def NC(es:List Q0):Prop:=∀ a∈es,∀ b∈es,a≠b->F06 a b=false
def q0y{es:List Q0}{u x z:Int}(h0:x≠0)(h:NC es)(k:∀ e∈es,e.1≠z/\e.2.2≠z)(q:∀ y,stp u x y ∉ es):NC (stp u x z::es):=by
 have s:∀ b∈es,F06 (stp u x z) b=false:=λb f=>by
  refine Bool.eq_false_iff.2 λd=>?_;unfold F06 at d;simp only[aE,Bool.or_eq_true,dE]at d;have i:=k b f;obtain⟨l,m,n⟩:=b;unfold stp at d;by_cases c:x<0;·rw[iP c]at d;simp only at d i;rcases d.2 with e|e;all_goals simp_all[stp,iP]
  rw[iE c]at d;simp only at d i;rcases d.2 with e|e;all_goals simp_all[stp,iE]
 intro a g b f j;rcases mE.1 g with o|g;·grind
 rcases mE.1 f with p|f;·grind[X0d]
 exact h a g b f j
def o0t{a b:List Q0}(h:NC a)(c:∀ e∈b,e∈a):NC b:=λx d y g f=>h x (c x d) y (c y g) f
theorem K04{u x z:Int}:((stp u x z).1=u/\(stp u x z).2.2=z)∨((stp u x z).1=z/\(stp u x z).2.2=u):=by grind[stp]
def X0u{v:Int}:∀(w:List Int) (u n:Int) (es:List Q0),NC es->(∀ x∈w,x≠0)->Rdc w->(∀ e∈es,(e.1≠v/\e.2.2≠v)/\e.1<n/\e.2.2<n)->v<n->u<n->u≠v->(∀ x r,w=x::r->∀ y,stp u x y ∉ es)->NC (es++h02 v w u n)
 | [],u,n,es,h,_,_,_,_,_,_,_=>by show NC (es ++ []);grind
 | [x],u,n,es,h,h0,_,g,p,m,o,i=>by refine o0t (q0y (z:=v) (h0 x mS) h (λe d=>(g e d).1) (i x [] rfl)) λe d=>?_;grind[mC,stp,h02,List.mem_cons_self]
 |x::y::r,u,n,es,h,h0,j,g,p,m,o,i=>by
  have k:=q0y (z:=n) (h0 x mS) h (λe d=>by have:=g e d;omega) (i x (y::r) rfl);have l:=X0u (v:=v) (y::r) n (n+1) (stp u x n::es) k (λz s=>h0 z (mC _ s)) j.2 (λe d=>?_) oM oM oM (λz t e q f=>?_)
  ·refine o0t l λe d=>?_;rcases List.mem_append.1 d with d|d;·grind
   grind[stp,h02,List.mem_cons_self]
  ·grind[K04]
  obtain⟨rfl,rfl⟩:=List.cons.inj e;rcases mE.1 f with f|f
  ·rcases D05 f with⟨a,b,c⟩|⟨a,b,c⟩;·omega
   exact j.1 a
  grind[K04]
theorem r0y{g:B0}(hf:H0 g=true):(g.2.2.length:Int)<=g.2.1*g.1:=by
 obtain⟨d,q,s,t⟩:=P0 hf
 have l:=M08 (B05 (Y1 hf))
 have o:=(w07 (Y1 hf)).1 hf
 have c:g.1=1∨g.1=2∨g.1=3:=by omega
 have k:(g.2.2.map λe=>e.1*g.1+(e.2.1-1)).Nodup:=by
  rw[List.Nodup,List.pairwise_map]
  refine List.Pairwise.imp_of_mem (λ{a b} h i p e=>?_) l
  have f:=d a h
  have n:=d b i
  grind[F06,decide_eq_true]
 have:=I9 (g.2.1*g.1).toNat _ k λx m=>by
  obtain⟨e,j,rfl⟩:=List.mem_map.1 m
  have f:=d e j
  rcases c with c|c|c<;>rw[c]at f ⊢<;>omega
 grind
theorem p0t{g:B0}(hf:H0 g=true){w:List Int}(l:S4 g w=false)(h:(o8 g w).2=true):
  o0a g (o8 g w).1 id/\(o8 g w).1.1=g.1/\∃ n,n≠0/\Rd (o8 g w).1 0 w n:=by
 obtain⟨o,p,q,s⟩:=P0 hf
 have j:=l0i g w
 have m:=k03 g w 0
 unfold o8 at h ⊢
 cases hc:decide ((A2 g 0 w).2<w.length)with
 |false =>
  rw[cond_false]
  refine⟨⟨λv h0 a=>⟨h0,a⟩,λe b=>b⟩,rfl,(A2 g 0 w).1,λc=>?_,?_⟩
  ·grind[A2,of_decide_eq_false,S4,decide_eq_true]
  grind[A2,of_decide_eq_false,List.take_length,Rd.of]
 |true =>
  rw[hc]at h
  rw[cond_true]at h ⊢
  cases ha:(M2 g).2 with
  |false=>rw[ha]at h;cases h
  |true =>
   rw[ha]at h
   rw[cond_true]at h ⊢
   rw[(n03 ha).1]at h ⊢
   have a:=i0i h
   have f:=N0j h
   have d:o0a g (T1 (g.1,g.2.1+1,g.2.2) (A2 g 0 w).1 (w.drop (A2 g 0 w).2) g.2.1).1 id:=by
    refine⟨λv k t=>?_,λe b=>a.edge e b⟩
    exact a.rng v k (by grind)
   refine⟨d,q04 _ _ _ _,g.2.1,by omega,?_⟩
   have i:Rd (T1 (g.1,g.2.1+1,g.2.2) (A2 g 0 w).1 (w.drop (A2 g 0 w).2) g.2.1).1 0 (w.take (A2 g 0 w).2) (A2 g 0 w).1:=Rd.mono (x:=g) (λe b=>a.edge e b) (Rd.of j)
   have:=i.app f
   rwa [List.take_append_drop]at this
def n0z{g:B0}{w:List Int}(h:(Y06 g w).2):D1 (Y06 g w).1/\(Y06 g w).1.1=g.1/\S4 (Y06 g w).1 w=false/\S4 g w=false/\∀ u,S4 g u->S4 (Y06 g w).1 u:=by
 unfold Y06 at h ⊢;cases hc:(D1 g&&(O1 g.1 w && !S4 g w));·rw[hc]at h;cases h
 rw[hc]at h;rw[(cT)]at h ⊢;simp only[aE,Bool.not_eq_true']at hc;cases hh:(o8 g w).2;·rw[hh]at h;cases h
 rw[hh]at h;rw[(cT)]at h ⊢;cases hp:(X06 (o8 g w).1).2;·rw[hp]at h;cases h
 rw[(cT)];have hf:=V1 hc.1;obtain⟨q,s,n,F,v⟩:=p0t hf hc.2.2 hh;obtain⟨_,l,m,C⟩:=K0j hp;rw[C];have a:=f0d l m;have fin:=Z0x l m;obtain⟨D,b,c,_⟩:=H0l a;have t:m03 (a04 (o8 g w).1)=S03 (a04 (o8 g w).1):=by show S03 (N8 (a04 (o8 g w).1)).1=_;rw[E0b a]
 have f:=k0h (a04 (o8 g w).1);have i:(0:Int)<(S03 (a04 (o8 g w).1)).2.1:=by have:=P0 b.fc;omega
 have k:∀ e∈(o8 g w).1.2.2,e∈(a04 (o8 g w).1).2.2:=λe d=>s09.2 (.inl d);show D1 (m03 (a04 (o8 g w).1))/\(m03 (a04 (o8 g w).1)).1=g.1/\S4 (m03 (a04 (o8 g w).1)) w=false/\S4 g w=false/\∀ u,S4 g u->S4 (m03 (a04 (o8 g w).1)) u;rw[t];refine⟨f0e a,by rw[f];exact s,?_,hc.2.2,λu x=>?_⟩;·obtain⟨z,j,o,p⟩:=K0l b f a (W0u fin) (iR _) i (by rw[c];exact(v.mono k).rdw a);refine Bool.eq_false_iff.2 λE=>?_;grind[f00,oJ]
 have A:=((Rd.of ((f00 _ _).1 x)).mono (y:=(o8 g w).1) λe d=>q.edge e d).mono k;obtain⟨z,j,o,p⟩:=K0l b f a (W0u fin) (iR _) i (by rw[c];exact A.rdw a);refine(f00 _ _).2 ?_;rw[o,b.inj z 0 j.1 j.2 (iR _) i (by rw[p,c])]
theorem o0z{g:B0}(hf:H0 g=true){w:List Int}(p:O1 g.1 w=true)(l:(A2 g 0 w).2<w.length)(i:g.2.1+((w.length-(A2 g 0 w).2:Nat):Int)<=40):
  (M2 g).2=true/\(T1 (g.1,g.2.1+1,g.2.2) (A2 g 0 w).1 (w.drop (A2 g 0 w).2) g.2.1).2=true/\H0 (T1 (g.1,g.2.1+1,g.2.2) (A2 g 0 w).1 (w.drop (A2 g 0 w).2) g.2.1).1=true /\
   (T1 (g.1,g.2.1+1,g.2.2) (A2 g 0 w).1 (w.drop (A2 g 0 w).2) g.2.1).1.2.1=g.2.1+((w.length-(A2 g 0 w).2:Nat):Int):=by
 have n:=Y1 hf
 obtain⟨q,J,K,L⟩:=P0 hf
 obtain⟨wl,M⟩:=w00 p
 have I:g.1=1∨g.1=2∨g.1=3:=by omega
 have G:=r0y hf
 have j:(M2 g).2=true:=by
  grind[M2,decide_eq_true]
 have h:=b08 q w 0 ⟨iR _,by omega⟩
 have b:=I0f g w 0
 have f:(w.drop (A2 g 0 w).2).length=w.length-(A2 g 0 w).2:=List.length_drop ..
 have a:=V0a p (A2 g 0 w).2
 generalize A2 g 0 w=R at h b f a l i ⊢
 obtain⟨v,k⟩:=R
 simp only at h b f a l i ⊢
 have s:W0 (g.1,g.2.1+1,g.2.2)=true:=by
  have:=Y01 n
  rwa [(n03 j).1]at this
 generalize w.drop k=d at b f a
 have H:d≠[]:=λc=>by grind
 have o:(T1 (g.1,g.2.1+1,g.2.2) v d g.2.1).2=true:=by
  unfold T1
  grind
 have C:=(p0e o).2
 have t:=r00 s (u:=v) (v:=g.2.1) (w:=d) ⟨h.1,by grind⟩ ⟨by omega,by grind⟩ a
 refine⟨j,o,(w07 t).2 ?_,?_⟩
 ·rw[C]
  have A:=X0u (v:=g.2.1) d v (g.2.1+1) g.2.2 ((w07 n).1 hf) (λx D=>((w00 a).2 x D).2.1) (L0l a) (λe m=>by have:=q e m;omega) (by omega) (by omega) (by omega) (λx r e y z=>by
   have E:=b x r e
   have F:=I0l hf z
   omega)
  refine o0t A λe m=>?_
  grind[O4,Q3]
 grind
def p0z{bs:List (List Int)}(a:∀ w∈bs,Lw w){k:Int}(b:C3 k):exP bs (ng k)=inv (exP bs k):=by
 rw[i05 b];have c:∀ n:Nat,n<bs.length->inv (inv (bs.getD n []))=bs.getD n []:=λn h=>U0g (a _ (W06 h)).nm;unfold exP exO;by_cases c1:0<k/\k<=(bs.length:Int);·grind
 by_cases c2:k<0 /\ -(bs.length:Int)<=k;·grind
 rw[iE oM,iE oM,iE c1,iE c2];rfl
def q0t{bs:List (List Int)}(a:∀ w∈bs,Lw w)(k:Int):Lw (exP bs k):=by
 unfold exP exO;by_cases c1:0<k/\k<=(bs.length:Int);·grind
 by_cases c2:k<0 /\ -(bs.length:Int)<=k;·rw[iE c1,iP c2];exact(a _ (W06 oM)).inv
 simp_all[iE,Lw.nil]
theorem T0n{g:B0}(b:D1 g){v:Int}(h0:0<=v)(a:v<g.2.1):Lw (tw g 0 v):=A07 b h0 a
def q0z{g:B0}(hf:H0 g){e:Q0}(a:e∈g.2.2):Lw [e.2.1]:=by have b:=(P0 hf).1 e a;have c:=(P0 hf).2.1;exact Lw.one ⟨⟨oM,oM⟩,oM⟩ oM
def s0y{g:B0}(a:D1 g){e:Q0}(c:e∈g.2.2):Lw (bw g e):=by have b:=(P0 (V1 a)).1 e c;exact((T0n a b.1.1 b.1.2).app (q0z (V1 a) c)).app (T0n a b.2.1.1 b.2.1.2).inv
def o0d{g:B0}(a:D1 g):∀ w∈U6 g,Lw w:=λw c=>by obtain⟨e,b,rfl⟩:=List.mem_map.1 c;exact λx d=>(Lw.nil.red (s0y a (U03.1 b).1)) x (List.mem_reverse.1 d)
def P0r{e:Q0}:∀ {l:List Q0} {k i:Nat},A06 e l k=some i->k<=i/\l[i-k]?=some e
 | [],k,i,h=>by cases h
 |x::l,k,i,h=>by
  unfold A06 at h;split at h;·grind
  obtain⟨a,b⟩:=P0r h;grind
def U0n{e:Q0}:∀ {l:List Q0} {k:Nat},A06 e l k=none->e ∉ l
 | [],k,h=>oS
 |x::l,k,h=>by
  unfold A06 at h;split at h;·cases h
  rename_i c;intro b;rcases mE.1 b with a|a;·exact c a
  exact U0n h a
def r0z{g:B0}(i:D1 g){v x n:Int}(G:0<=v/\v<g.2.1)(m:C3 x)(h0:x≠0)(j:S0 g v x=n)(w:0<=n): Eqv (tw g 0 v ++ [x]) (((A06 (stp v x n) (C4 g) 0).toList.map (sgK x)).flatMap (exP (U6 g))++tw g 0 n):=by
 have hf:=V1 i;have S:n<g.2.1:=by rw[←j];rw[←j]at w;rcases B03 (P0 hf).1 v x with e|e<;>omega
 obtain⟨_,e,P,A,_⟩:=d03 (g:=g) (v:=v) (x:=x) (by rw[j];exact w);rw[j]at A;have R:stp v x n∈g.2.2:=by rw[←A];exact P
 have p:=T0n i G.1 G.2;have d:=T0n i w S;have o:=Lw.one m h0;have T:Lw [-x]:=Lw.one (s04 m) oM;have back:Eqv ([-x] ++ [x]) []:=by have:=Y0u (s04 m) (show -x≠0 by omega);rwa [i05 (s04 m),show -(-x)=x by omega]at this
 cases hk:A06 (stp v x n) (C4 g) 0 with
 |none =>
  have O:stp v x n∈W02 g:=by have:=U0n hk;grind[stp,W02,absurd,U03]
  obtain⟨z,Z,q,Y,l,X,U,I,J⟩:=(T0a hf).1 O;show Eqv (tw g 0 v ++ [x]) ([]++tw g 0 n);rw[(nA)];rcases D05 J with⟨K,y,s⟩|⟨K,y,s⟩;·grind[Eqv.refl]
  rw[y,s,I,show l = -x by omega,List.append_assoc];rw[s]at d;have f:=(Eqv.refl d).app back;rwa [List.append_nil]at f
 |some k =>
  obtain⟨_,F⟩:=P0r hk;rw[Nat.sub_zero]at F;have W:k<(C4 g).length:=(gI.1 F).1;have E:(U6 g).getD k []=(Z8 [] (bw g (stp v x n))).reverse:=by grind[U6]
  have V:(U6 g).length=(C4 g).length:=List.length_map ..;have Q:=s0y i R;have a:=v0p Q;show Eqv (tw g 0 v ++ [x]) (([sgK x k]:List Int).flatMap (exP (U6 g))++tw g 0 n);simp only[List.flatMap_cons,List.flatMap_nil,List.append_nil];by_cases c:0<x
  ·have t:exP (U6 g) (sgK x k)=(Z8 [] (bw g (stp v x n))).reverse:=by unfold sgK exP exO;rw[iP c,iP oM,←E,show((k:Int)+1).toNat-1=k by omega];rfl
   rw[t];have u:bw g (stp v x n)=tw g 0 v ++ [x]++inv (tw g 0 n):=by unfold bw stp;rw[iE oM]
   rw[u]at a ⊢;have f:=a.app (Eqv.refl d);have h:=(Eqv.refl (p.app o)).app (m0h d);rw[List.append_nil,←List.append_assoc]at h;exact(f.trans h).symm
  have t:exP (U6 g) (sgK x k)=inv (Z8 [] (bw g (stp v x n))).reverse:=by unfold sgK exP exO;rw[iE c,iE oM,iP oM,←E,show(-(-(k:Int)-1)).toNat-1=k by omega];rfl
  rw[t];have u:bw g (stp v x n)=tw g 0 n ++ [-x]++inv (tw g 0 v):=by unfold bw stp;rw[iP oM]
  rw[u]at a ⊢;generalize (Z8 [] (tw g 0 n ++ [-x]++inv (tw g 0 v))).reverse=b at a;have H:=a.l;have f:=a.app (Eqv.refl (p.app o));have h:=(Eqv.refl d).app ((Eqv.refl T).app ((m0h p).app (Eqv.refl o)));have C:=(Eqv.refl d).app back;rw[List.append_nil]at C;have M:Eqv (b++(tw g 0 v ++ [x])) (tw g 0 n):=by refine f.trans ?_;have L:tw g 0 n ++ [-x]++inv (tw g 0 v)++(tw g 0 v ++ [x])=tw g 0 n++([-x]++(inv (tw g 0 v)++tw g 0 v ++ [x])):=oS;rw[L];exact h.trans C
  have N:=(Eqv.refl H.inv).app M;have D:=(m0h H).app (Eqv.refl (p.app o));rw[List.append_assoc,(nA)]at D;exact D.symm.trans N
def Z0u{g:B0}(a:D1 g):∀(w:List Int) (v u:Int),0<=v->v<g.2.1->Lw w->rdw g v w=some u -> Eqv (tw g 0 v++w) ((rwL g (C4 g) v w).flatMap (exP (U6 g))++tw g 0 u)
 | [],v,u,h0,b,_,h=>by obtain rfl:=oJ h;show Eqv (tw g 0 v ++ []) ([]++tw g 0 v);grind[Eqv.refl,T0n]
 |x::w,v,u,h0,b,f,h=>by
  unfold rdw at h;by_cases c:S0 g v x<0;·grind
  rw[iE c]at h;have j:=f x mS;have i:Lw w:=λy o=>f y (mC _ o);have l:S0 g v x<g.2.1:=by rcases B03 (P0 (V1 a)).1 v x with e|e<;>omega
  have p:=Z0u a w _ u oM l i h;have m:=r0z a ⟨h0,b⟩ j.1 j.2 (n:=S0 g v x) rfl oM;unfold rwL;rw[List.flatMap_append,List.append_assoc];have d:=m.app (Eqv.refl i);rw[List.append_assoc,List.append_assoc]at d;have k:Lw (((A06 (stp v x (S0 g v x)) (C4 g) 0).toList.map (sgK x)).flatMap (exP (U6 g))):=Lw.flat λy _=>q0t (o0d a) y;exact d.trans ((Eqv.refl k).app p)
def O0A(g:B0)(a:List Q0)(d:a.length<=1000):∀(w:List Int) (v:Int),Lw (rwL g a v w):=λw v x b=>by
 have c:=m0p g a d w v x b;refine⟨⟨⟨oM,oM⟩,oM⟩,?_⟩;clear c;induction w generalizing v with
 |nil=>cases b
 |cons y w e =>grind[rwL,sgK]
def P0A{g:B0}(a:D1 g){w:List Int}(f:O1 g.1 w)(h:S4 g w):W0a (U6 g) (g0d g w).1=w:=by
 have hf:=V1 a;obtain⟨o,q,s,t⟩:=P0 hf;obtain⟨wl,i⟩:=w00 f;have k:Lw w:=λx b=>⟨(i x b).1,(i x b).2.1⟩;have n:=(k0e hf).1;have l:tw g 0 0 = []:=(N01 hf (p:=0) ⟨oM,oM⟩).z;have c:=Z0u a w 0 0 (iR _) oM k ((f00 _ _).1 h);rw[l,(nA),List.append_nil]at c;have d:=N0l (φ:=exP (U6 g)) (λx b h0=>⟨q0t (o0d a) x,p0z (o0d a) b⟩) (rwL g (C4 g) 0 w) [] Lw.nil (O0A g _ oM w 0);rw[List.reverse_nil,List.flatMap_nil,(nA)]at d;have j:=(d.trans c.symm).e [] rfl Lw.nil;have m:=(A0r hf w).1;have e:(g0d g w).1=(Z8 [] (rwL g (C4 g) 0 w)).reverse:=by grind[g0d]
 unfold W0a;rw[List.take_of_length_le oM,e,j,U06 f]
def a0v{t c:B0}{P:Int->Int}{n:Nat}(a:Iso t c P n):∀(w:List Int) (v u:Int),0<=v->v<(n:Int)->rdw t v w=some u->rdw c (P v) w=some (P u)
 | [],v,u,_,_,h=>by cases h;rfl
 |x::w,v,u,h0,g,h=>by
  unfold rdw at h ⊢;rcases a.next v x h0 g with⟨e,_⟩|⟨⟨b,d⟩,f⟩;·grind
  rw[iE oM]at h;have:=a.rng _ b d;rw[f,iE oM];exact a0v a w _ u b d h
def P0b{c t:B0}{a:Int->Int}(hf:H0 c)(e:Hom c t a):∀(w:List Int) (v u:Int),0<=v->v<c.2.1->rdw c v w=some u->rdw t (a v) w=some (a u)
 | [],v,u,_,_,h=>by cases h;rfl
 |x::w,v,u,h0,d,h=>by
  unfold rdw at h ⊢;by_cases k:S0 c v x<0;·grind
  rw[iE k]at h;have b:=f08 hf (v:=v) (l:=x) oM;have:=e.rng _ oM b;rw[e.step v x h0 d oM,iE oM];exact P0b hf e w _ u oM b h
def q0e{x:B0}(hf:H0 x){v:Int}(b:0<=v/\v<x.2.1){w:List Int}(d:Rdc w)(h:rdw x v w=some v):rdw (o6 x v) 0 w=some 0:=by obtain⟨P,a,c⟩:=M0A hf b;have e:=a.nt;have:=a0v a w v v b.1 oM h;rw[c]at this;exact k0i a.fc d this
def V0n{x:B0}(hf:H0 x){v:Int}(c:0<=v/\v<x.2.1){w:List Int}(h:rdw (o6 x v) 0 w=some 0):rdw x v w=some v:=by obtain⟨d,a,b,_⟩:=K0r hf c;have:=P0b a.fc a.hom w 0 0 (iR _) (by have:=P0 a.fc;omega) h;rwa [b]at this
def HP(T:B0)(v N:Int):List Int->Int->Int->Int->Prop
 | [],u,_,y=>N<=u/\∀ l,0<=S0 T u l->l = -y
 |x::d,u,n,y=>N<=u/\(∀ l,0<=S0 T u l->l = -y∨(l=x/\S0 T u l=if d = []then v else n))/\HP T v N d (if d = []then v else n) (n+1) x
def O0l{b:B0}{v N:Int}:∀(d:List Int) (u n y:Int),HP b v N d u n y->∀(w:List Int) (z:Int),Rdc (y::w)->rdw b u w=some z->N<=z
 | [],u,n,y,h,[],z,_,a=>by cases a;exact h.1
 | [],u,n,y,h,l::w,z,f,a=>by
  unfold rdw at a;by_cases c:S0 b u l<0;·grind
  exact absurd (h.2 l oM) f.1
 |x::d,u,n,y,h,[],z,_,a=>by cases a;exact h.1
 |x::d,u,n,y,h,l::w,z,f,a=>by
  unfold rdw at a;by_cases c:S0 b u l<0;·grind
  rw[iE c]at a;rcases h.2.1 l oM with e|⟨rfl,e⟩;·exact absurd e f.1
  rw[e]at a;exact O0l d _ _ l h.2.2 w z f.2 a
def J0f(v:Int):∀(d:List Int) (u n:Int),∀ e∈h02 v d u n,(e.1=u∨e.1=v∨n<=e.1)/\(e.2.2=u∨e.2.2=v∨n<=e.2.2)
 | [],u,n,e,a=>nomatch a
 | [x],u,n,e,a=>by rw[List.mem_singleton.1 a];rcases @K04 u x v with⟨b,c⟩|⟨b,c⟩<;>rw[b,c]<;>simp
 |x::y::r,u,n,e,a=>by
  rcases mE.1 a with rfl|a;·rcases @K04 u x n with⟨b,c⟩|⟨b,c⟩<;>rw[b,c]<;>simp
  have:=J0f v (y::r) n (n+1) e a;omega
def d0A{k:B0}{v N:Int}(H:N<=v):∀(d:List Int) (u n y p:Int) (A:List Q0),(∀ e,e∈k.2.2->e∈A∨e∈h02 v d u n)->N<=u->v<n->u<n->N<=n->(d≠[]->u≠v) -> (∀ e∈A,(e.1=u∨e.2.2=u)->e=stp p y u)->p≠u->(∀ e∈A,e.1<n/\e.2.2<n)->(d≠[]->∀ e∈A,e.1≠v/\e.2.2≠v)->HP k v N d u n y:=by
 have back:∀ {u l z p y:Int} {A:List Q0},(∀ e∈A,(e.1=u∨e.2.2=u)->e=stp p y u)->p≠u->stp u l z∈A->l = -y:=λ{u l z p y A} f i K=>by grind[K04,D05,absurd]
 intro d;induction d with
 |nil =>
  intro u n y p A b j I G o q f i D E;refine⟨j,λl g=>?_⟩;rcases b _ (u0p g)with h|h;·exact back f i h
  cases h
 |cons x d t =>
  intro u n y p A b j I G o q f i D E;have s:=q oS;cases d with
  |nil =>
   refine⟨j,λl g=>?_,?_⟩
   ·rcases b _ (u0p g)with h|h;·exact .inl (back f i h)
    rcases D05 (List.mem_singleton.1 h)with⟨_,c,m⟩|⟨_,c,_⟩;·exact .inr ⟨c,m⟩
    exact absurd c s
   refine t v (n+1) x u (stp u x v::A) (λe a=>?_) H oM oM oM (λh=>absurd rfl h) (λe a F=>?_) s (λe a=>?_) (λh=>absurd rfl h)
   ·rcases b e a with h|h;·grind
    rw[List.mem_singleton.1 h];exact .inl mS
   ·grind
   grind[K04]
  |cons J r =>
   refine⟨j,λl g=>?_,?_⟩
   ·rcases b _ (u0p g)with h|h;·exact .inl (back f i h)
    rcases mE.1 h with h|h
    ·rcases D05 h with⟨_,c,m⟩|⟨_,c,_⟩;·grind
     omega
    have:=J0f v (J::r) n (n+1) _ h;rcases @K04 u l (S0 k u l)with⟨w,C⟩|⟨w,C⟩<;>omega
   rw[iE oS];refine t n (n+1) x u (stp u x n::A) (λe a=>?_) o oM oM oM (λ_=>oM) (λe a F=>?_) oM (λe a=>?_) (λ_ e a=>?_)
   ·rcases b e a with h|h;·exact .inl (mC _ h)
    rcases mE.1 h with h|h;·grind
    exact .inr h
   ·grind
   ·grind[K04]
   grind[K04]
def W0n{g f:B0}(hf:H0 g){p:Int}(t:p<g.2.1):∀ {d:List Int},(∀ e,e∈f.2.2->e∈g.2.2∨e∈h02 g.2.1 d p (g.2.1+1)) -> ∀(w:List Int) (z:Int),Rdc w->0<=z->z<g.2.1->rdw f z w=some 0->rdw g z w=some 0
 |d,i,[],z,_,h0,m,h=>h
 |d,i,l::w,z,o,h0,m,h=>by
  obtain⟨A,E,F,G⟩:=P0 hf;unfold rdw at h ⊢;by_cases c:S0 f z l<0;·grind
  rw[iE c]at h;rcases i _ (u0p (u:=z) (l:=l) oM)with b|b;·obtain⟨j,C⟩:=I0l hf b;have:=f08 hf (v:=z) (l:=l) oM;rw[j,iE oM];exact W0n hf t i w _ (Rdc.tail o) oM oM h
  exfalso;have D:∀ e∈g.2.2,(e.1<g.2.1/\e.2.2<g.2.1):=λe a=>by have:=A e a;omega
  cases d with
  |nil=>cases b
  |cons x d =>
   cases d with
   |nil =>
    rcases D05 (List.mem_singleton.1 b)with⟨rfl,rfl,k⟩|⟨_,j,_⟩
    ·have n:HP f g.2.1 g.2.1 [] g.2.1 (g.2.1+1) l:=by
      refine d0A (iR _) [] _ _ _ z (stp z l g.2.1::g.2.2) (λe a=>?_) (iR _) oM oM oM (λh=>absurd rfl h) (λe a y=>?_) oM (λe a=>?_) (λh=>absurd rfl h)
      ·rcases i e a with h|h;·grind
       rw[List.mem_singleton.1 h];grind
      all_goals grind[K04]
     rw[k]at h;have:=O0l _ _ _ _ n w 0 o h;omega
    omega
   |cons q r =>
    rcases mE.1 b with b|b
    ·rcases D05 b with⟨rfl,rfl,k⟩|⟨_,j,_⟩
     ·have n:HP f g.2.1 g.2.1 (q::r) (g.2.1+1) (g.2.1+1+1) l:=by
       refine d0A (iR _) (q::r) _ _ _ z (stp z l (g.2.1+1)::g.2.2) (λe a=>?_) oM oM oM oM (λ_=>oM) (λe a y=>?_) oM (λe a=>?_) (λ_ e a=>?_)
       ·rcases i e a with h|h;·grind
        rcases mE.1 h with h|h;all_goals grind
       all_goals grind[K04]
      rw[k]at h;have:=O0l _ _ _ _ n w 0 o h;omega
     omega
    have:=J0f g.2.1 (q::r) (g.2.1+1) (g.2.1+1+1) _ b;rcases @K04 z l (S0 f z l)with⟨m,s⟩|⟨m,s⟩<;>omega
structure y0B (g:B0) (w:List Int) (x:B0) (v:Int):Prop where
 fx:H0 x=true
 rk:x.1=g.1
 rng:0<=v/\v<x.2.1
 rd:rdw x 0 w=some v
 up:∀ l,rdw g 0 l=some 0->rdw x 0 l=some 0
 keep:∀ l,Rdc l->rdw x 0 l=some 0->rdw g 0 l=some 0
def Q0r{x:B0}{v:Int}(h:(E05 x v).2):H0 x/\(0<=v/\v<x.2.1)/\(E05 x v).1=o6 x v:=by
 unfold E05 at h ⊢;cases c:H0 x&&inR 0 (x.2.1-1) v;·rw[c]at h;cases h
 rw[(aE)]at c;have:=c.2;unfold inR at this;grind
def r0e{g:B0}{w:List Int}(h:(G3 g w).2):D1 g/\O1 g.1 w/\∃ x v,y0B g w x v/\(G3 g w).1=o6 x v:=by
 unfold G3 at h ⊢;cases hc:D1 g&&O1 g.1 w;·rw[hc]at h;cases h
 rw[hc,(cT)]at h;rw[(cT)];rw[(aE)]at hc;refine⟨hc.1,hc.2,?_⟩;have hf:=V1 hc.1;obtain⟨u,A,C,D⟩:=P0 hf;have b:=l0i g w;have y:=k03 g w 0;cases hd:decide ((A2 g 0 w).2<w.length)
 ·rw[hd,(zF)]at h;rw[(zF)];obtain⟨_,f,i⟩:=Q0r h;have s:(A2 g 0 w).2=w.length:=by grind
  rw[s,List.take_length]at b;exact⟨g,_,⟨hf,rfl,f,b,λ_ h=>h,λ_ _ h=>h⟩,i⟩
 rw[hd,(cT)]at h;rw[(cT)];cases ha:(M2 g).2;·rw[ha]at h;cases h
 rw[ha,(cT),(n03 ha).1]at h;rw[(cT),(n03 ha).1];have q:=b08 u w 0 ⟨iR _,oM⟩;cases hp:(T1 (g.1,g.2.1+1,g.2.2) (A2 g 0 w).1 (w.drop (A2 g 0 w).2) g.2.1).2;·grind
 simp only at h ⊢;rw[hp,(cT)]at h;rw[(cT)];obtain⟨c,f,i⟩:=Q0r h;have n:=i0i hp;have o:=N0j hp;have z:=(p0e hp).2;have m:∀ e∈g.2.2,e∈(T1 (g.1,g.2.1+1,g.2.2) (A2 g 0 w).1 (w.drop (A2 g 0 w).2) g.2.1).1.2.2:=λe j=>n.edge e j;refine⟨_,_,⟨c,q04 _ _ _ _,f,?_,λl a=>?_,λl a t=>?_⟩,i⟩;·have k:=(Rd.mono m (Rd.of b)).app o;rw[List.take_append_drop]at k;exact k.rdw c
 ·exact(Rd.mono m (Rd.of a)).rdw c
 refine W0n hf (p:=(A2 g 0 w).1) q.2 (d:=w.drop (A2 g 0 w).2) (λe j=>?_) l 0 a (iR _) oM t;grind[O4,Q3]
def s0e(x:B0)(v:Int):(o6 x v).1=x.1:=k0h _
def Rw(l:List Int):Prop:=Lw l/\(Z8 [] l).reverse=l
def Rw.rdc{l:List Int}(h:Rw l):Rdc l:=j0i h.1 (by have:=J0a l [] rfl;rw[←h.2,List.reverse_reverse];exact this)
def w0p{l:List Int}(h:Lw l):Rdc (Z8 [] l).reverse:=j0i (λx a=>Lw.red Lw.nil h x (List.mem_reverse.1 a)) (by rw[List.reverse_reverse];exact J0a l [] rfl)
def Lw.all{l:List Int}(h:Lw l):i07 l:=λx a=>(h x a).1.1
def Lw.rev{l:List Int}(h:Lw l):Lw l.reverse:=λx a=>h x (List.mem_reverse.1 a)
def P0l{w l:List Int}(b:Lw w)(c:Rw l):(Z8 [] (w++((Z8 [] (inv w++(l++w))).reverse++inv w))).reverse=l:=by
 have h:Lw (inv w++(l++w)):=b.inv.app (c.1.app b);have d:Eqv (w++((Z8 [] (inv w++(l++w))).reverse++inv w)) (w++((inv w++(l++w))++inv w)):=(Eqv.refl b).app ((v0p h).app (Eqv.refl b.inv));have f:Eqv (w++((inv w++(l++w))++inv w)) l:=by have a:=((l0h b).app (Eqv.refl c.1)).app (l0h b);grind
 have g:=(d.trans f).e [] rfl Lw.nil;rw[g,c.2]
def O0j{x:B0}{a b c:List Int}{v u:Int}(d:rdw x v a=some u)(e:rdw x u b=some u)(f:rdw x u c=some v):rdw x v (a++(b++c))=some v:=by rw[n01,d,oB,n01,e,oB,f]
theorem X0n{g:B0}{w:List Int}(h:(G3 g w).2)(P:(G3 (G3 g w).1 (inv w)).2):(G3 (G3 g w).1 (inv w)).1=g:=by
 obtain⟨z,R,x,v,i,e⟩:=r0e h;obtain⟨Q,U,y,u,c,N⟩:=r0e P;obtain⟨_,J⟩:=w00 R;have j:Lw w:=λa I=>⟨(J a I).1,(J a I).2.1⟩;rw[N];rw[e]at Q c;have C:=U0a c.fx c.rng;have V:=P0 i.fx;have W:=P0 c.fx;have K:=E08 i.fx w 0 v j.nm (iR _) i.rd;have F:=E08 c.fx (inv w) 0 u j.inv.nm (iR _) c.rd;rw[U0g j.nm]at F;have O:∀ l,Rw l->rdw g 0 l=some 0->rdw (o6 y u) 0 l=some 0:=λl m E=>by have n:Lw (inv w++(l++w)):=j.inv.app (m.1.app j);have s:=G0b i.fx n.all (O0j K (i.up l E) i.rd);have t:=c.up _ (q0e i.fx i.rng (w0p n) s);have D:Lw (w++((Z8 [] (inv w++(l++w))).reverse++inv w)):=j.app ((Lw.red Lw.nil n).rev.app j.inv);have o:=G0b c.fx D.all (O0j F t c.rd);rw[P0l j m]at o;exact q0e c.fx c.rng m.rdc o
 have M:∀ l,Rw l->rdw (o6 y u) 0 l=some 0->rdw g 0 l=some 0:=λl m E=>by have n:Lw (inv w++(l++w)):=j.inv.app (m.1.app j);have s:=G0b c.fx n.all (O0j c.rd (V0n c.fx c.rng E) F);have t:=V0n i.fx i.rng (c.keep _ (w0p n) s);have D:Lw (w++((Z8 [] (inv w++(l++w))).reverse++inv w)):=j.app ((Lw.red Lw.nil n).rev.app j.inv);have o:=G0b i.fx D.all (O0j i.rd t K);rw[P0l j m]at o;exact i.keep _ m.rdc o
 have S:∀ a:B0,Mor a a id:=λa=>⟨rfl,λ_ h0 q=>⟨h0,q⟩,λ_ _ _ _ _=>rfl⟩;have G:∀ {a b:B0},D1 a->D1 b->(∀ l,Rw l->rdw a 0 l=some 0->rdw b 0 l=some 0)->∃ f,Mor a b f:=λ{a b} p L m=>Q0v p L λd A=>by have q:=x0n p (S a) A;have H:=J0b p A;rw[H.1]at q ⊢;exact(f00 _ _).2 (m _ ⟨s0y p (U03.1 A).1,H.2⟩ ((f00 _ _).1 q))
 obtain⟨f,T⟩:=G z C O;obtain⟨k,mk⟩:=G C z M;exact N0A C z (by rw[s0e,c.rk,s0e,i.rk]) mk T
def t0y:∀ {w:List Int} {i:Nat} {x y:Int},Rdc w->w[i]?=some y->w[i+1]?=some x->x ≠ -y
 | [],i,x,y,_,h,_=>by cases h
 | [a],i,x,y,_,_,h=>by simp at h
 |a::b::r,0,x,y,c,h,k=>by obtain rfl:=oJ h;obtain rfl:=oJ k;exact c.1
 |a::b::r,i+1,x,y,c,h,k=>t0y (w:=b::r) c.2 h k
def s0z{r:Int}(l:1<=r/\r<=3){w:List Int}(h:w.length<=24)(c:A0s r w)(g:Rdc w):O1 r w:=by
 unfold O1;rw[show inR 1 3 r=true by simp[inR];omega,dT h,b0i λi _ k=>?_];·rfl
 have a:=V3 (show i<w.length by omega);have d:=c _ (mG a);unfold g09;rw[a];simp only;generalize w[i]=x at a d;have e:(x == 0)=false:=by simpa using d.1
 have f:inR (-r) r x:=by simp[inR];omega
 rw[e,f];cases i with
 |zero=>rfl
 |succ i =>have b:=V3 (show i<w.length by omega);have j:=c _ (mG b);have:=t0y g b a;rw[show i+1-1=i from rfl,b];generalize w[i]=y at b j this;simp only[bT,Bool.false_or,Bool.and_eq_false_iff,beq_eq_false_iff_ne];grind[w64]
def u0y(g:B0):O06 g g:=dT rfl
theorem z0B{r:Int}{l:List (List Int)}{w:List Int}(h:(O3 r l).2)(a:O2 r l)(e:O1 r w)(c:S4 (O3 r l).1 w):N9 (1,r,l,w,(g0d (O3 r l).1 w).1,(O3 r l).1,0):=by obtain⟨b,d⟩:=h0d h;show y00 1 r l w (g0d (O3 r l).1 w).1 (O3 r l).1 0;unfold y00 m05;simp_all[u0y,P0A,dT,iP,eqW]
def Q0A{r:Int}{l:List (List Int)}{w:List Int}(h:(O3 r l).2)(b:O2 r l)(e:O1 r w)(a:(Y06 (O3 r l).1 w).2):N9 (2,r,l,w,[],(Y06 (O3 r l).1 w).1,0):=by obtain⟨c,d⟩:=h0d h;obtain⟨s1,s2,f,_,g⟩:=n0z a;show y00 2 r l w [] (Y06 (O3 r l).1 w).1 0;unfold y00;simp_all[dT,iE,iP,List.all_eq_true,g0w]
def Rw.of{l:List Int}(h:Lw l)(k:Red l.reverse):Rw l:=⟨h,by have:=Q0h l.reverse k;rw[List.reverse_reverse]at this;rw[this,List.reverse_reverse]⟩
def Rw.red{l:List Int}(h:Rw l):Red l.reverse:=by have:=J0a l [] rfl;rwa [←List.reverse_reverse (Z8 [] l),h.2]at this
def Rw.take{l:List Int}(h:Rw l)(k:Nat):Rw (l.take k):=Rw.of (λx a=>h.1 x (List.mem_of_mem_take a)) (by have:=h.red;grind[List.take_append_drop,List.reverse_append,I0b])
def x0p{x:B0}(hf:H0 x){v:Int}(f:0<=v/\v<x.2.1){u:List Int}(g:Rw u){c:Int->Int}(a:Emb (o6 x v) x c)(l:c 0=v){q:Int}(h0:0<=q)(j:q<(o6 x v).2.1)(h:rdw x v u=some (c q)):rdw (o6 x v) 0 u=some q:=by have k:=U0a hf f;obtain⟨y,z,A,C⟩:=P0 a.fc;have lt:=T0n k h0 j;have d:=(N01 a.fc (p:=0) ⟨oM,oM⟩).rd a.fc ⟨oM,oM⟩ (r09 k h0 j);generalize tw (o6 x v) 0 q=t at lt d;have i:=P0b a.fc a.hom t 0 q oM oM d;rw[l]at i;have m:=E08 hf t v _ lt.nm f.1 i;have b:=g.1.app lt.inv;have n:=q0e hf f (w0p b) (G0b hf b.all (by rw[n01,h,oB,m]));have w:=(Lw.red Lw.nil b).rev;have o:=G0b a.fc (w.app lt).all (by rw[n01,n,oB,d]);have s:Eqv ((Z8 [] (u++inv t)).reverse++t) u:=((v0p b).app (Eqv.refl lt)).trans (by simpa [List.append_assoc] using (Eqv.refl g.1).app (m0h lt));rwa [s.e [] rfl Lw.nil,g.2]at o
def b0v{x:B0}{v z:Int}{w:List Int}(h:rdw x v w=some z)(i:Nat):∃ y,rdw x v (w.take i)=some y:=by
 rw[←List.take_append_drop i w,n01]at h;cases c:rdw x v (w.take i)with
 |none=>rw[c]at h;cases h
 |some y=>exact⟨y,rfl⟩
def R0r{x:B0}{v y a:Int}{w:List Int}(h:rdw x v (w ++ [a])=some y):∃ s,rdw x v w=some s/\S0 x s a=y/\0<=y:=by
 rw[n01]at h;cases c:rdw x v w with
 |none=>rw[c]at h;cases h
 |some s =>
  rw[c,oB]at h;unfold rdw at h;by_cases k:S0 x s a<0;·grind
  rw[iE k]at h;have e:S0 x s a=y:=oJ h;grind
def i0w{x:B0}(hf:H0 x){v z:Int}(u:0<=v/\v<x.2.1){w:List Int}(g:Rw w)(L:rdw x v w=some z){E:Int->Int}(f:Emb (o6 x v) x E)(m:E 0=v){k:Nat}{p:Int}(s:rdw (o6 x v) 0 (w.take k)=some p) (S:∀ i,k<i->i<=w.length->rdw (o6 x v) 0 (w.take i)=none):∀ i d,k<=i->i<d->d<=w.length->rdw x v (w.take i)≠rdw x v (w.take d):=by
 have C:(0:Int)<(o6 x v).2.1:=by have:=P0 f.fc;omega
 intro i;induction i with
 |zero =>intro d H I J h;obtain rfl:k=0:=oM;have j:=z07 (P0 f.fc).1 _ 0 p ⟨iR _,C⟩ s;have e:=P0b f.fc f.hom _ 0 p (iR _) C s;rw[m,h]at e;have:=x0p hf u (g.take d) f m j.1 j.2 e;grind
 |succ i T =>
  intro d H I J h;by_cases c:k=i+1;·subst c;have j:=z07 (P0 f.fc).1 _ 0 p ⟨iR _,C⟩ s;have e:=P0b f.fc f.hom _ 0 p (iR _) C s;rw[m,h]at e;have:=x0p hf u (g.take d) f m j.1 j.2 e;grind
  obtain⟨d,rfl⟩:∃ n,d=n+1:=⟨d-1,oM⟩;have F:=List.take_append_getElem (l:=w) (i:=i) oM;have G:=List.take_append_getElem (l:=w) (i:=d) oM;obtain⟨y,A⟩:=b0v L (d+1);rw[A]at h;by_cases ab:w[i]' oM=w[d]' oM;·rw[←F]at h;rw[←G]at A;obtain⟨U,s1,s2,P⟩:=R0r h;obtain⟨t,V,W,X⟩:=R0r A;have Q:=I00 hf s2 P;grind[I00]
  have D:=(g.take (i+1)).1;have N:=E08 hf _ v y D.nm u.1 h;have M:rdw x v (w.take (d+1)++inv (w.take (i+1)))=some v:=by rw[n01,A,oB,N]
  have O:Rdc (w.take (d+1)++inv (w.take (i+1))):=by
   refine j0i ((g.take (d+1)).1.app D.inv) ?_;rw[List.reverse_append,d0p];refine(I0b _ _).2 ⟨e0p _ D (g.take (i+1)).red,(g.take (d+1)).red,λa b o q=>?_⟩;rw[←F,List.map_append]at o;rw[←G,List.reverse_append]at q;have o:ng (w[i]' oM)=a:=by simpa using o
   have q:w[d]' oM=b:=by simpa using q
   have K:=g.1 (w[i]' oM) (List.getElem_mem _);have R:=g.1 (w[d]' oM) (List.getElem_mem _);rw[←o,←q,i05 K.1];simp_all[Bool.eq_false_iff,j05]
  have r3:=q0e hf u O M;grind[n01]
def j0w{x:B0}(hf:H0 x){v z:Int}(h:0<=v/\v<x.2.1){w:List Int}(E:Rw w)(D:rdw x v w=some z):(o6 x v).2.1+((w.length-(A2 (o6 x v) 0 w).2:Nat):Int)<=40:=by
 obtain⟨F,c,m,_⟩:=K0r hf h;have M:(0:Int)<(o6 x v).2.1:=by have:=P0 c.fc;omega
 have I:=P0 hf;have g:=l0i (o6 x v) w;have A:=k03 (o6 x v) w 0;have j:=I0f (o6 x v) w 0;generalize A2 (o6 x v) 0 w=R at g A j ⊢;obtain⟨p,k⟩:=R;simp only at g A j ⊢;have H:∀ i,k<i->i<=w.length->rdw (o6 x v) 0 (w.take i)=none:=λi J K=>by
  have t:w.drop k=w[k]' oM::w.drop (k+1):=List.drop_eq_getElem_cons _;have e:w.take i=w.take k++(w[k]' oM::(w.drop (k+1)).take (i-k-1)):=by rw[←List.take_append_drop k (w.take i),List.take_take,List.drop_take,t,Nat.min_eq_left oM];congr 1;obtain⟨n,C⟩:∃ n,i-k=n+1:=⟨i-k-1,oM⟩;rw[C];rfl
  rw[e,n01,g,oB];unfold rdw;rw[iP (j _ _ t)]
 have G:=i0w hf h E D c m g H;have d:∀ i,rdw x v (w.take i)=some ((rdw x v (w.take i)).getD 0):=λi=>by obtain⟨y,l⟩:=b0v D i;rw[l];rfl
 let f:Nat->Int:=λi=>if i<(o6 x v).2.1.toNat then F (i:Int)else(rdw x v (w.take (k+1+(i-(o6 x v).2.1.toNat)))).getD 0
 have C:=I9 x.2.1.toNat ((List.range ((o6 x v).2.1.toNat+(w.length-k))).map f) (by
  rw[List.Nodup,List.pairwise_map];refine List.Pairwise.imp_of_mem (λ{a b} o s L e=>?_) List.pairwise_lt_range;have o:=List.mem_range.1 o;have s:=List.mem_range.1 s;simp only[f]at e;by_cases c1:b<(o6 x v).2.1.toNat;·rw[iP c1,iP oM]at e;have:=c.inj a b oM oM oM oM e;omega
  ·rw[iE c1]at e;by_cases c2:a<(o6 x v).2.1.toNat;·rw[iP c2]at e;have q:=d (k+1+(b-(o6 x v).2.1.toNat));rw[←e]at q;have:=x0p hf h (E.take _) c m oM oM q;grind
   rw[iE c2]at e;refine G (k+1+(a-(o6 x v).2.1.toNat)) (k+1+(b-(o6 x v).2.1.toNat)) oM oM oM ?_;rw[d,e,←d]) λy l=>by
  obtain⟨i,u,rfl⟩:=List.mem_map.1 l;have u:=List.mem_range.1 u;simp only[f];by_cases c1:i<(o6 x v).2.1.toNat;·rw[iP c1];have:=c.hom.rng i oM oM;omega
  rw[iE c1];have:=z07 I.1 _ v _ h (d (k+1+(i-(o6 x v).2.1.toNat)));omega
 grind
def v0y{r:Int}{w:List Int}(h:O1 r w)(e:1<=r/\r<=3):O1 r (inv w):=by
 obtain⟨wl,d⟩:=w00 h;have c:Lw w:=λa b=>⟨(d a b).1,(d a b).2.1⟩;have g:Rw w:=⟨c,U06 h⟩;refine s0z e (by rw[J07];exact wl) (λy f=>?_) (j0i c.inv ?_);·obtain⟨a,b,rfl⟩:=List.mem_map.1 (List.mem_reverse.1 f);grind[i05]
 rw[d0p];exact e0p _ c g.red
def r0t{g:B0}{w:List Int}(h:(G3 g w).2):(G3 (G3 g w).1 (inv w)).2:=by
 obtain⟨p,l,x,v,b,e⟩:=r0e h;obtain⟨_,o⟩:=w00 l;have n:Lw w:=λa i=>⟨(o a i).1,(o a i).2.1⟩;have q:=(P0 (V1 p)).2.1;have d:=v0y l q;have A:Rw (inv w):=⟨n.inv,U06 d⟩;rw[e];have f:=U0a b.fx b.rng;have c:=V1 f;have k:(o6 x v).1=g.1:=by rw[s0e,b.rk]
 have s:=j0w b.fx b.rng A (E08 b.fx w 0 v n.nm (iR _) b.rd);generalize o6 x v=G at *;obtain⟨z,I,J,K⟩:=P0 c;have j:=b08 z (inv w) 0 ⟨iR _,oM⟩;have y:∀ {a:B0} {u:Int},H0 a->0<=u->u<a.2.1->(E05 a u).2:=λ{a u} C D E=>by grind[E05,inR]
 unfold G3;rw[f,k,d,Bool.and_self,(cT)];cases hd:decide ((A2 G 0 (inv w)).2<(inv w).length);·exact y c j.1 j.2
 obtain⟨m,t,F,H⟩:=o0z c (by rw[k];exact d) (of_decide_eq_true hd) s;rw[(cT),m,(cT),(n03 m).1,t,(cT)];grind
end Go.Proofs.YthkpbcnhdhfifaaGreat
