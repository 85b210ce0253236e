/- Texts of the claim, joined: Graphs that lie in a graph: what trimming and moving the bas and others. -/
import Derived.Test.YtmgikbbmpnbbjaaGreatPart27
import Derived.Test.YtmgikbbmpnbbjaaGreatPart21
import Derived.Test.YtmgikbbmpnbbjaaGreatPart20
import Derived.Test.YtmgikbbmpnbbjaaGreatH36
import Derived.Test.YtmgikbbmpnbbjaaGreatPart26
namespace Go.Proofs.YtmgikbbmpnbbjaaGreat
open Go.H
set_option linter.unusedVariables false
set_option linter.unusedSimpArgs false
structure Hom (x t:l0) (g:Int->Int):Prop where
 rng:∀ v,0<=v->v<x.2.1->0<=g v/\g v<t.2.1
 step:∀ v l,0<=v->v<x.2.1->0<=Q0 x v l->Q0 t (g v) l=g (Q0 x v l)
structure Emb (c t:l0) (E:Int->Int):Prop where
 fc:F0 c=true
 hom:Hom c t E
 inj:∀ x y,0<=x->x<c.2.1->0<=y->y<c.2.1->E x=E y->x=y
 full:∀ x y l,0<=x->x<c.2.1->0<=y->y<c.2.1->Q0 t (E x) l=E y->Q0 c x l=y
theorem i07{g:l0}(hf:F0 g=true){v l:Int}(h:0<=Q0 g v l):Q0 g v l<g.2.1:=by
 rcases Z02 (S0 hf).1 v l with e|e<;>omega
theorem Emb.comp{a b c:l0}{E j:Int->Int}(e:Emb a b E)(d:Emb b c j):Emb a c (λx=>j (E x)) where
 fc:=e.fc
 hom:=⟨λv h0 f=>d.hom.rng _ (e.hom.rng v h0 f).1 (e.hom.rng v h0 f).2,λv l h0 f h=>by
  have m:=e.hom.step v l h0 f h
  have k:=e.hom.rng v h0 f
  have n:=e.hom.rng _ h (i07 e.fc h)
  show Q0 c (j (E v)) l=j (E (Q0 a v l))
  rw[d.hom.step _ l k.1 k.2 (by rw[m];exact n.1),m]⟩
 inj:=λx y h0 f g i h=>e.inj x y h0 f g i (d.inj _ _ (e.hom.rng x h0 f).1 (e.hom.rng x h0 f).2 (e.hom.rng y g i).1 (e.hom.rng y g i).2 h)
 full:=λx y l h0 f g i h=>e.full x y l h0 f g i (d.full _ _ l (e.hom.rng x h0 f).1 (e.hom.rng x h0 f).2 (e.hom.rng y g i).1 (e.hom.rng y g i).2 h)
theorem y0l{g:l0}{a v l:Int}(h:0<=Q0 g v l):Rch g.2.2 a v↔Rch g.2.2 a (Q0 g v l):=by
 obtain⟨_,e,f,_,i⟩:=D02 h
 have b:=Rch.closed (v:=a) e f
 rcases i with⟨_,_,c,d⟩|⟨_,_,c,d⟩
 ·rw[c,d]at b;exact b
 ·rw[c,d]at b;exact b.symm
theorem Hom.rch{x t:l0}{g:Int->Int}(m:Hom x t g)(hf:F0 x=true){a b:Int}(h:Rch x.2.2 a b):Rch t.2.2 (g a) (g b):=by
 refine Rch.sub (P:=λz=>Rch t.2.2 (g a) (g z)) .base (λe f=>?_) h
 have c:=(S0 hf).1 e f
 have i:=(L8 hf f).1
 have d:=m.step e.1 e.2.1 c.1.1 c.1.2 (by rw[i];exact c.2.1.1)
 rw[i]at d
 have:=y0l (g:=t) (a:=g a) (v:=g e.1) (l:=e.2.1) (by rw[d];exact(m.rng _ c.2.1.1 c.2.1.2).1)
 rw[d]at this;exact this
theorem Hom.comp{a b c:l0}{g k:Int->Int}(e:Hom a b g)(d:Hom b c k)(hf:F0 a=true):Hom a c (λx=>k (g x)) where
 rng:=λv h0 f=>d.rng _ (e.rng v h0 f).1 (e.rng v h0 f).2
 step:=λv l h0 f h=>by
  have j:=e.step v l h0 f h
  have i:=e.rng v h0 f
  have m:=e.rng _ h (i07 hf h)
  show Q0 c (k (g v)) l=k (g (Q0 a v l))
  rw[d.step _ l i.1 i.2 (by rw[j];exact m.1),j]
theorem Hom.lift{x c t:l0}{g E:Int->Int}(m:Hom x t g)(hf:F0 x=true)(e:Emb c t E)(h:∀ v,0<=v->v<x.2.1->∃ w,(0<=w/\w<c.2.1)/\E w=g v):∃ f,Hom x c f/\∀ v,0<=v->v<x.2.1->E (f v)=g v:=by
 have n:∀ v:Int,∃ w:Int,0<=v->v<x.2.1->(0<=w/\w<c.2.1)/\E w=g v:=λv=>by
  by_cases k:0<=v/\v<x.2.1
  ·obtain⟨w,p⟩:=h v k.1 k.2
   exact⟨w,λ_ _=>p⟩
  ·exact⟨0,λh0 d=>absurd ⟨h0,d⟩ k⟩
 let f:Int->Int:=λv=>Classical.choose (n v)
 have i:∀ v,0<=v->v<x.2.1->(0<=f v/\f v<c.2.1)/\E (f v)=g v:=λv=>Classical.choose_spec (n v)
 refine⟨f,⟨λv h0 d=>(i v h0 d).1,λv l h0 d j=>?_⟩,λv h0 d=>(i v h0 d).2⟩
 have o:=i07 hf j
 have a:=i v h0 d
 have b:=i _ j o
 exact e.full _ _ l a.1.1 a.1.2 b.1.1 b.1.2 (by rw[a.2,b.2];exact m.step v l h0 d j)
theorem A09{o:List Int}{i:Nat}{v:Int}(h:o[i]?=some v):getI o (i:Int)=v:=by
 unfold getI
 simp[List.getD_eq_getElem?_getD,h]
theorem p0r(P:List Int):∀(es:List K0) (a:K0),a∈es->0<=getI P a.1->0<=getI P a.2.2->((getI P a.1,a.2.1,getI P a.2.2):K0)∈pE P es
 |b::r,a,h,c,d=>by
  unfold pE
  rcases List.mem_cons.1 h with rfl|h
  ·rw[decide_eq_true c,decide_eq_true d]
   exact mS
  ·have e:=p0r P r a h c d
   cases decide (0<=getI P b.1)&&decide (0<=getI P b.2.2)
   ·exact e
   ·exact mC _ e
theorem d0g{t:l0}{o:List Int}{a:K0}:a∈(N5 t o).2.2↔∃ e∈t.2.2,a=(getI (plc t.2.1.toNat o) e.1,e.2.1,getI (plc t.2.1.toNat o) e.2.2)/\0<=getI (plc t.2.1.toNat o) e.1/\0<=getI (plc t.2.1.toNat o) e.2.2:=by
 show a∈K5 T0 [] _↔_
 rw[C4 L3]
 constructor
 ·rintro(h|h)
  ·cases h
  ·exact E0f _ _ a h
 ·rintro⟨e,d,rfl,b,c⟩
  exact .inr (p0r _ _ e d b c)
theorem v0o{n:Nat}{o:List Int}(b:inV n o)(d:o.Nodup){x:Int}(e:0<=x)(h:0<=getI (plc n o) x):getI o (getI (plc n o) x)=x:=by
 have j:=(f05 b e).2
 have g:(getI (plc n o) x).toNat<o.length:=by omega
 have a:=c5 g
 generalize k:o[(getI (plc n o) x).toNat]=v at a
 have i:=R08 b d a
 have f:=D0b b d e (b v (List.mem_of_getElem? a)).1 h (by omega)
 have c:=A09 a
 rw[show(((getI (plc n o) x).toNat:Nat):Int)=getI (plc n o) x by omega]at c
 rw[c,f]
theorem q0r{o:List Int}{x:Int}(h0:0<=x)(b:x<(o.length:Int)):o[x.toNat]?=some (getI o x):=by
 have a:=c5 (xs:=o) (k:=x.toNat) (by omega)
 have:=A09 a
 rw[show((x.toNat:Nat):Int)=x by omega]at this
 rw[this];exact a
theorem N0b{t:l0}(hf:F0 t=true){o:List Int}(q:o.Nodup)(n:inV t.2.1.toNat o)(F:1<=o.length)(G:o.length<=40):Emb (N5 t o) t (getI o):=by
 have w:=t03 hf n q F G
 obtain⟨K,M,N,O⟩:=S0 hf
 have m:∀ x:Int,0<=x->x<(o.length:Int)->(0<=getI o x/\getI o x<t.2.1)/\getI (plc t.2.1.toNat o) (getI o x)=x:=λx a b=>by
  have A:=q0r a b
  have:=n _ (List.mem_of_getElem? A)
  exact⟨by omega,by rw[R08 n q A];omega⟩
 refine⟨w,⟨λv a b=>(m v a b).1,λv l a b h=>?_⟩,λx y a b c d h=>?_,λx y l a b c d h=>?_⟩
 ·obtain⟨_,L,H,_,s⟩:=D02 h
  obtain⟨e,k,rfl,I,J⟩:=d0g.1 H
  have C:=K e k
  have B:=L8 hf k
  have D:=v0o n q C.1.1 I
  have E:=v0o n q C.2.1.1 J
  rcases s with⟨_,j,f,i⟩|⟨_,j,f,i⟩
  ·simp only at j f i
   rw[←i,E,←f,D,←j];exact B.1
  ·simp only at j f i
   rw[←i,D,←f,E,show l = -e.2.1 by omega];exact B.2
 ·rw[←(m x a b).2,h,(m y c d).2]
 ·have u:=m x a b
  have p:=m y c d
  obtain⟨_,e,k,_,s⟩:=D02 (g:=t) (v:=getI o x) (x:=l) (by rw[h];exact p.1.1)
  rw[h]at s
  rcases s with⟨_,j,f,i⟩|⟨_,j,f,i⟩
  ·have z:((x,e.2.1,y):K0)∈(N5 t o).2.2:=d0g.2 ⟨e,k,by rw[f,i,u.2,p.2],by rw[f,u.2];exact a,by rw[i,p.2];exact c⟩
   have:=(L8 w z).1
   simp only at this
   rw[←j];exact this
  ·have z:((y,e.2.1,x):K0)∈(N5 t o).2.2:=d0g.2 ⟨e,k,by rw[f,i,u.2,p.2],by rw[i,p.2];exact c,by rw[f,u.2];exact a⟩
   have:=(L8 w z).2
   simp only at this
   rw[show l = -e.2.1 by omega];exact this
structure Y0s (x:l0) (p:Int):Prop where
 fx:F0 x=true
 pr:0<=p/\p<x.2.1
 two:∀ v,0<=v->v<x.2.1->v≠p->∀ z,∃ l,l≠z/\0<=Q0 x v l
 con:∀ v,0<=v->v<x.2.1->Rch x.2.2 p v
def F0d(c t:l0)(E:Int->Int):Prop:=∀(x:l0) (p:Int) (g:Int->Int),Y0s x p->Hom x t g->(∃ w,(0<=w/\w<c.2.1)/\E w=g p)->∀ v,0<=v->v<x.2.1->∃ w,(0<=w/\w<c.2.1)/\E w=g v
theorem S0m{g:l0}(h:J1 g=true):Y0s g 0:=by
 have hf:=E02 h
 obtain⟨c,d,e,f⟩:=S0 hf
 exact⟨hf,by omega,λv h0 a b z=>P0m hf (x0l h (by omega) a).1 z,λv h0 a=>c0g h h0 a⟩
theorem F0d.comp{a b c:l0}{E h:Int->Int}(e:Emb a b E)(d:Emb b c h)(A:F0d a b E)(B:F0d b c h):F0d a c (λx=>h (E x)):=by
 rintro x p g f n ⟨w,j,s⟩
 have i:=e.hom.rng w j.1 j.2
 obtain⟨k,o,m⟩:=n.lift f.fx d (B x p g f n ⟨E w,i,s⟩)
 have q:=o.rng p f.pr.1 f.pr.2
 have t:E w=k p:=d.inj _ _ i.1 i.2 q.1 q.2 (by rw[m p f.pr.1 f.pr.2];exact s)
 intro v h0 l
 obtain⟨u,y,z⟩:=A x p k f o ⟨w,j,t⟩ v h0 l
 exact⟨u,y,by show h (E u)=g v;rw[z];exact m v h0 l⟩
theorem C0a{c t:l0}{E:Int->Int}(h:∀ v,0<=v->v<t.2.1->∃ w,(0<=w/\w<c.2.1)/\E w=v):F0d c t E:=λx p g d b _ v h0 a=>h _ (b.rng v h0 a).1 (b.rng v h0 a).2
theorem O0b{v:Int}:∀ {es:List K0} {e:K0},e∈es->D04 v e<=B00 v es
 |x::r,e,h=>by
  simp only[B00]
  rcases List.mem_cons.1 h with a|a
  ·rw[a];omega
  ·have:=O0b (v:=v) a;omega
theorem a0i{v:Int}:∀ {es:List K0} {e d:K0},e∈es->d∈es->e≠d->D04 v e+D04 v d<=B00 v es
 |x::r,e,d,h,k,c=>by
  simp only[B00]
  rcases List.mem_cons.1 h with b|b
  ·rcases List.mem_cons.1 k with a|a
   ·exact absurd (b.trans a.symm) c
   ·have:=O0b (v:=v) a;rw[b];omega
  ·rcases List.mem_cons.1 k with a|a
   ·have:=O0b (v:=v) b;rw[a];omega
   ·have:=a0i (v:=v) b a c;omega
theorem w0o{g:l0}(hf:F0 g=true){v:Int}(h:∀ z,∃ l,l≠z/\0<=Q0 g v l):2<=B00 v g.2.2:=by
 obtain⟨l,_,t⟩:=h 0
 obtain⟨k,n,s⟩:=h l
 obtain⟨_,e,j,w,m⟩:=D02 t
 obtain⟨_,d,q,u,o⟩:=D02 s
 by_cases c:e=d
 ·subst c
  have:=O0b (v:=v) j
  have i:e.1=v/\e.2.2=v:=by
   rcases m with⟨_,a,b,_⟩|⟨_,a,b,_⟩<;>rcases o with⟨_,p,f,_⟩|⟨_,p,f,_⟩
   ·exact absurd (by omega) n
   ·exact⟨b,f⟩
   ·exact⟨f,b⟩
   ·exact absurd (by omega) n
  unfold D04 at this
  rw[if_pos i.1,if_pos i.2]at this
  omega
 ·have:=a0i (v:=v) j q c
  have x:1<=D04 v e:=by
   unfold D04
   rcases m with⟨_,_,b,_⟩|⟨_,_,b,_⟩
   ·rw[if_pos b];omega
   ·rw[if_pos b];omega
  have i:1<=D04 v d:=by
   unfold D04
   rcases o with⟨_,_,b,_⟩|⟨_,_,b,_⟩
   ·rw[if_pos b];omega
   ·rw[if_pos b];omega
  omega
theorem Hom.two{x t:l0}{g:Int->Int}(m:Hom x t g)(hf:F0 x=true){v:Int}(h0:0<=v)(b:v<x.2.1)(h:∀ z,∃ l,l≠z/\0<=Q0 x v l):∀ z,∃ l,l≠z/\0<=Q0 t (g v) l:=λz=>by
 obtain⟨l,c,a⟩:=h z
 exact⟨l,c,by rw[m.step v l h0 b a];exact(m.rng _ a (i07 hf a)).1⟩
theorem T0m(g:Nat):∀(d k:Nat),(g:Int) ∉ wo g d k
 |0,k,h=>nomatch h
 |d+1,k,h=>by
  unfold wo at h
  by_cases c:k=g
  ·rw[if_pos c]at h;exact T0m g d (k+1) h
  ·rw[if_neg c]at h
   rcases List.mem_cons.1 h with h|h
   ·omega
   ·exact T0m g d (k+1) h
theorem r0r{a:Nat->Bool}:∀(d v k:Nat),lf a d v=some k->a k=true
 |0,v,k,h=>by cases h
 |d+1,v,k,h=>by
  unfold lf at h
  cases hb:a v with
  |true=>rw[hb]at h;cases h;exact hb
  |false=>rw[hb]at h;exact r0r d (v+1) k h
theorem z0l:∀(d:Nat) {h:l0},F0 h=true->(∀ w,0<=w->w<(R6 d h).2.1->Rch (R6 d h).2.2 0 w)->∃ E,Emb (R6 d h) h E/\E 0=0/\F0d (R6 d h) h E
 |0,h,hf,o=>⟨id,⟨hf,⟨λv a b=>⟨a,b⟩,λv l a b k=>rfl⟩,λx y _ _ _ _ e=>e,λx y l _ _ _ _ e=>e⟩,rfl,C0a λv a b=>⟨v,⟨a,b⟩,rfl⟩⟩
 |d+1,h,hf,o=>by
  unfold R6 at o ⊢
  cases e:F7 h with
  |none=>exact⟨id,⟨hf,⟨λv a b=>⟨a,b⟩,λv l a b k=>rfl⟩,λx y _ _ _ _ e=>e,λx y l _ _ _ _ e=>e⟩,rfl,C0a λv a b=>⟨v,⟨a,b⟩,rfl⟩⟩
  |some k =>
   rw[e]at o
   obtain⟨ab,ac,ad,ae⟩:=S0 hf
   obtain⟨s1,s2,N,O⟩:=g05 (T1 hf) e
   have aa:=v09 e
   have q:=r0r _ _ _ e
   have K:=I03 k h.2.1.toNat 0
   have B:=N0b hf K s1 N O
   have U:=t03 hf s1 K N O
   simp only at o ⊢
   obtain⟨E,A,D,P⟩:=z0l d U o
   have M:getI (wo k h.2.1.toNat 0) 0=0:=by
    obtain⟨m,R⟩:∃ m,h.2.1.toNat=m+1:=⟨h.2.1.toNat-1,by omega⟩
    rw[R,wo,if_neg (by omega)];rfl
   have G:=A.comp B
   refine⟨_,G,by rw[D];exact M,?_⟩
   rintro x p g f z ⟨w,s,C⟩
   have t:=A.hom.rng w s.1 s.2
   have V:Rch h.2.2 0 (g p):=by
    have:=G.hom.rch A.fc (o w s.1 s.2)
    rw[D,M]at this
    rw[←C];exact this
   have S:∀ u,0<=u->u<(N5 h (wo k h.2.1.toNat 0)).2.1->getI (wo k h.2.1.toNat 0) u≠(k:Int):=λu Y Z c=>by
    have:=List.mem_of_getElem? (q0r Y Z)
    rw[c]at this
    exact T0m k _ _ this
   have T:∀ v,0<=v->v<x.2.1->g v≠(k:Int):=λv j n c=>by
    by_cases cp:v=p
    ·rw[cp,←C]at c
     exact S _ t.1 t.2 c
    ·unfold K07 at q
     simp only[Bool.or_eq_true,decide_eq_true_eq,Bool.not_eq_true',decide_eq_false_iff_not]at q
     rcases q with q|q
     ·have:=w0o hf (z.two f.fx j n (f.two v j n cp))
      rw[c]at this;omega
     ·refine q ((H03 _ _ _).2 ?_)
      rw[←c]
      exact Rch.tr V (z.rch f.fx (f.con v j n))
   obtain⟨F,H,I⟩:=z.lift f.fx B λv j n=>by
    have o:=z.rng v j n
    have:=S0f k h.2.1.toNat 0 (g v).toNat (Nat.zero_le _) (by omega) (λc=>T v j n (by omega))
    rw[show(((g v).toNat:Nat):Int)=g v by omega]at this
    obtain⟨i,J⟩:=List.getElem?_of_mem this
    refine⟨(i:Int),⟨by omega,?_⟩,A09 J⟩
    show(i:Int)<(((wo k h.2.1.toNat 0).length:Nat):Int)
    have:=(List.getElem?_eq_some_iff.1 J).1
    omega
   have L:=H.rng p f.pr.1 f.pr.2
   have Q:E w=F p:=B.inj _ _ t.1 t.2 L.1 L.2 (by rw[I p f.pr.1 f.pr.2];exact C)
   intro v j n
   obtain⟨u,W,X⟩:=P x p F f H ⟨w,s,Q⟩ v j n
   exact⟨u,W,by show getI _ (E u)=g v;rw[X];exact I v j n⟩
theorem e0g{h:l0}(hf:F0 h=true):∃ E,Emb (Y9 h) h E/\E 0=0/\F0d (Y9 h) h E:=by
 have p:=T1 hf
 obtain⟨A,B,C,D⟩:=S0 hf
 have d:=C00 40 hf
 have k:=L05 40 p (by omega)
 obtain⟨u,x,y,z⟩:=S0 d
 have a:=z02 d
 have o:∀ w,0<=w->w<(R6 40 h).2.1->w∈U2 (R6 40 h):=λw h0 b=>e07 d k h0 b
 have q:∀ w,0<=w->w<(R6 40 h).2.1->Rch (R6 40 h).2.2 0 w:=λw h0 b=>by
  by_cases c:w=0
  ·rw[c];exact .base
  ·have:=w09 k w.toNat (by omega) (by omega)
   unfold K07 at this
   simp only[Bool.or_eq_false_iff,Bool.not_eq_false',decide_eq_true_eq]at this
   have g:=this.2
   rw[show((w.toNat:Nat):Int)=w by omega]at g
   exact(H03 _ _ _).1 g
 obtain⟨E,e,l,m⟩:=z0l 40 hf q
 have f:=N0b d a.1.1 a.1.2 a.2 (Nat.le_trans (n00 _ _ a.1.1 a.1.2) (by omega))
 have s:getI (U2 (R6 40 h)) 0=0:=by
  obtain⟨t,n⟩:=N05 (R6 40 h)
  rw[n];rfl
 refine⟨_,f.comp e,by rw[s];exact l,F0d.comp f e (C0a λv h0 b=>?_) m⟩
 obtain⟨i,j⟩:=List.getElem?_of_mem (o v h0 b)
 refine⟨(i:Int),⟨by omega,?_⟩,A09 j⟩
 show(i:Int)<(((U2 (R6 40 h)).length:Nat):Int)
 have:=(List.getElem?_eq_some_iff.1 j).1
 omega
structure V08 (x t:l0) (g:Int->Int):Prop where
 rng:∀ v,0<=v->v<x.2.1->0<=g v/\g v<t.2.1
 edge:∀ e∈x.2.2,((g e.1,e.2.1,g e.2.2):K0)∈t.2.2
theorem V08.hom{x t:l0}{g:Int->Int}(m:V08 x t g)(k:F0 t=true):Hom x t g where
 rng:=m.rng
 step:=λv l h0 n h=>by
  obtain⟨_,e,i,_,j⟩:=D02 h
  have f:=L8 k (m.edge e i)
  simp only at f
  rcases j with⟨a,b,c,d⟩|⟨a,b,c,d⟩
  ·rw[←d,←c,←b];exact f.1
  ·rw[←d,←c,show l = -e.2.1 by omega];exact f.2
theorem Hom.ehom{x t:l0}{g:Int->Int}(m:Hom x t g)(i:F0 x=true):V08 x t g where
 rng:=m.rng
 edge:=λe f=>by
  have a:=(S0 i).1 e f
  have h:=(L8 i f).1
  have c:=m.step e.1 e.2.1 a.1.1 a.1.2 (by rw[h];exact a.2.1.1)
  rw[h]at c
  have k:=m.rng _ a.2.1.1 a.2.1.2
  obtain⟨_,d,b,j,l⟩:=D02 (g:=t) (v:=g e.1) (x:=e.2.1) (by rw[c];exact k.1)
  rw[j,c]at b
  unfold stp at b
  rw[if_neg (by omega)]at b
  exact b
theorem V08.comp{a b c:l0}{g k:Int->Int}(e:V08 a b g)(d:V08 b c k):V08 a c (λx=>k (g x)) where
 rng:=λv h0 f=>d.rng _ (e.rng v h0 f).1 (e.rng v h0 f).2
 edge:=λz h=>d.edge _ (e.edge z h)
theorem G0p{a b:K0}{f:S4}(h:f∈m06 a b):a.2.1=b.2.1/\((a.1=b.1/\((f.1=a.2.2/\f.2=b.2.2)∨(f.1=b.2.2/\f.2=a.2.2)))∨(a.2.2=b.2.2/\((f.1=a.1/\f.2=b.1)∨(f.1=b.1/\f.2=a.1)))):=by
 unfold m06 at h
 by_cases c:a.2.1=b.2.1
 ·refine⟨c,?_⟩
  simp only[c,decide_true,cond_true,List.mem_append]at h
  rcases h with h|h
  ·by_cases d:a.1=b.1
   ·simp only[d,decide_true,cond_true,List.mem_singleton]at h
    subst h
    refine .inl ⟨d,?_⟩
    simp only
    split<;>split<;>omega
   ·simp[d]at h
  ·by_cases d:a.2.2=b.2.2
   ·simp only[d,decide_true,cond_true,List.mem_singleton]at h
    subst h
    refine .inr ⟨d,?_⟩
    simp only
    split<;>split<;>omega
   ·simp[d]at h
 ·simp[c]at h
theorem b0i{a:K0}{f:S4}:∀ {l:List K0},f∈Z01 a l->∃ b∈l,f∈m06 a b
 | [],h=>by simp[Z01]at h
 |b::r,h=>by
  rcases List.mem_append.1 (show f∈m06 a b++Z01 a r from h)with h|h
  ·exact⟨b,mS,h⟩
  ·obtain⟨c,d,hf⟩:=b0i h
   exact⟨c,mC _ d,hf⟩
theorem c0i{f:S4}:∀ {l:List K0},f∈H5 l->∃ a∈l,∃ b∈l,f∈m06 a b
 | [],h=>by simp[H5]at h
 |a::r,h=>by
  rcases List.mem_append.1 (show f∈Z01 a r++H5 r from h)with h|h
  ·obtain⟨b,d,hf⟩:=b0i h
   exact⟨a,mS,b,mC _ d,hf⟩
  ·obtain⟨c,e,b,d,hf⟩:=c0i h
   exact⟨c,mC _ e,b,mC _ d,hf⟩
theorem w0s{x t:l0}{g:Int->Int}(m:V08 x t g)(k:F0 t=true){f:S4}(hf:f∈H5 x.2.2):g f.1=g f.2:=by
 obtain⟨a,l,b,n,h⟩:=c0i hf
 obtain⟨j,c⟩:=G0p h
 have d:=L8 k (m.edge a l)
 have e:=L8 k (m.edge b n)
 simp only at d e
 rcases c with⟨c,i⟩|⟨c,i⟩
 ·have:g a.2.2=g b.2.2:=by rw[←d.1,←e.1,j,c]
  rcases i with⟨p,q⟩|⟨p,q⟩
  ·rw[p,q,this]
  ·rw[p,q,this]
 ·have:g a.1=g b.1:=by rw[←d.2,←e.2,j,c]
  rcases i with⟨p,q⟩|⟨p,q⟩
  ·rw[p,q,this]
  ·rw[p,q,this]
structure Fol (x y:l0) (q:Int->Int):Prop where
 hom:V08 x y q
 base:q 0=0
 onto:∀ u,0<=u->u<y.2.1->∃ v,(0<=v/\v<x.2.1)/\q v=u
 uni:∀(t:l0) (g:Int->Int),F0 t=true->V08 x t g->∃ g',V08 y t g'/\∀ v,0<=v->v<x.2.1->g' (q v)=g v
theorem Fol.refl(x:l0):Fol x x id :=
 ⟨⟨λv h0 a=>⟨h0,a⟩,λe b=>b⟩,rfl,λu h0 a=>⟨u,⟨h0,a⟩,rfl⟩,λt g _ m=>⟨g,m,λ_ _ _=>rfl⟩⟩
theorem Fol.comp{x y z:l0}{q p:Int->Int}(a:Fol x y q)(b:Fol y z p):Fol x z (λv=>p (q v)) where
 hom:=a.hom.comp b.hom
 base:=by rw[a.base,b.base]
 onto:=λu h0 c=>by
  obtain⟨v,f,e⟩:=b.onto u h0 c
  obtain⟨w,n,h⟩:=a.onto v f.1 f.2
  exact⟨w,n,by rw[h,e]⟩
 uni:=λt g d m=>by
  obtain⟨k,o,i⟩:=a.uni t g d m
  obtain⟨l,s,j⟩:=b.uni t k d o
  exact⟨l,s,λv h0 c=>by rw[j _ (a.hom.rng v h0 c).1 (a.hom.rng v h0 c).2,i v h0 c]⟩
theorem d0i{x:l0}{f:S4}(l:U0 x=true)(hf:f∈H5 x.2.2):Fol x (W9 x f) (mvV f):=by
 obtain⟨n,f2,f3⟩:=h02 l f hf
 refine⟨⟨λv h0 a=>?_,λe b=>(C4 L3 _ _ _).2 (.inr (List.mem_map.2 ⟨e,b,rfl⟩))⟩,?_,λu h0 a=>?_,λt g k m=>?_⟩
 ·show 0<=mvV f v/\mvV f v<x.2.1-1
  unfold mvV
  split
  ·omega
  ·split<;>omega
 ·unfold mvV
  rw[if_neg (by omega),if_neg (by omega)]
 ·have a:u<x.2.1-1:=a
  by_cases c:u<f.2
  ·refine⟨u,⟨h0,by omega⟩,?_⟩
   unfold mvV
   rw[if_neg (by omega),if_neg (by omega)]
  ·refine⟨u+1,⟨by omega,by omega⟩,?_⟩
   unfold mvV
   rw[if_neg (by omega),if_pos (by omega)]
   omega
 ·have b:=w0s m k hf
  have i:∀ v,(if mvV f v<f.2 then g (mvV f v)else g (mvV f v+1))=g v:=λv=>by
   unfold mvV
   by_cases c1:v=f.2
   ·rw[if_pos c1,if_pos f2,c1,b]
   ·rw[if_neg c1]
    by_cases c2:v>f.2
    ·rw[if_pos c2,if_neg (by omega),show v-1+1=v by omega]
    ·rw[if_neg c2,if_pos (by omega)]
  refine⟨λu=>if u<f.2 then g u else g (u+1),⟨λu h0 a=>?_,λe b=>?_⟩,λv _ _=>i v⟩
  ·have a:u<x.2.1-1:=a
   show 0<=(if u<f.2 then g u else g (u+1))/\(if u<f.2 then g u else g (u+1))<t.2.1
   split
   ·exact m.rng u h0 (by omega)
   ·exact m.rng (u+1) (by omega) (by omega)
  ·rcases(C4 L3 _ _ _).1 b with h|h
   ·cases h
   ·obtain⟨d,j,rfl⟩:=List.mem_map.1 h
    have:=m.edge d j
    show(((if mvV f d.1<f.2 then g (mvV f d.1)else g (mvV f d.1+1)),d.2.1,(if mvV f d.2.2<f.2 then g (mvV f d.2.2)else g (mvV f d.2.2+1))):K0)∈t.2.2
    rw[i,i];exact this
theorem e0i:∀(n:Nat) {g:l0},U0 g=true->∃ q,Fol g (u00 n g).1 q
 |0,g,h=>⟨id,Fol.refl g⟩
 |n+1,g,h=>by
  unfold u00
  cases e:H5 g.2.2 with
  |nil=>exact⟨id,Fol.refl g⟩
  |cons f r =>
   have a:f∈H5 g.2.2:=by rw[e];exact mS
   obtain⟨q,b⟩:=e0i n (r03 h (h02 h f a))
   exact⟨_,(d0i h a).comp b⟩
theorem G0d{g:l0}(h:U0 g=true):∃ q,Fol g (J5 g).1 q:=by
 obtain⟨q,a⟩:=e0i 40 h
 refine⟨q,?_⟩
 unfold J5
 rw[h];exact a
def Rd(x:l0):Int->List Int->Int->Prop
 |u,[],v=>u=v
 |u,l::w,v=>∃ z,stp u l z∈x.2.2/\Rd x z w v
theorem x0s(g:Int->Int)(u l z:Int):((g (stp u l z).1,(stp u l z).2.1,g (stp u l z).2.2):K0)=stp (g u) l (g z):=by
 unfold stp;split<;>rfl
theorem Rd.map{x t:l0}{g:Int->Int}(m:V08 x t g):∀ {w:List Int} {u v:Int},Rd x u w v->Rd t (g u) w (g v)
 | [],u,v,h=>congrArg g h
 |l::w,u,v,⟨z,a,h⟩=>⟨g z,by rw[←x0s];exact m.edge _ a,Rd.map m h⟩
theorem A0l{t:l0}(d:F0 t=true){u l z:Int}(h:stp u l z∈t.2.2):Q0 t u l=z/\0<=z:=by
 have a:=L8 d h
 have b:=(S0 d).1 _ h
 unfold stp at a b
 by_cases c:l<0
 ·rw[if_pos c]at a b
  simp only at a b
  rw[show -(-l)=l by omega]at a
  exact⟨a.2,b.1.1⟩
 ·rw[if_neg c]at a b
  exact⟨a.1,b.2.1.1⟩
theorem Rd.rdw{t:l0}(a:F0 t=true):∀ {w:List Int} {u v:Int},Rd t u w v->rdw t u w=some v
 | [],u,v,h=>congrArg some h
 |l::w,u,v,⟨z,c,h⟩=>by
  have b:=A0l a c
  unfold Go.Proofs.YtmgikbbmpnbbjaaGreat.rdw
  rw[b.1,if_neg (by omega)]
  exact Rd.rdw a h
theorem Rd.of{t:l0}:∀ {w:List Int} {u v:Int},Go.Proofs.YtmgikbbmpnbbjaaGreat.rdw t u w=some v->Rd t u w v
 | [],u,v,h=>oJ h
 |l::w,u,v,h=>by
  unfold Go.Proofs.YtmgikbbmpnbbjaaGreat.rdw at h
  by_cases c:Q0 t u l<0
  ·rw[if_pos c]at h;cases h
  ·rw[if_neg c]at h
   obtain⟨_,e,b,a,_⟩:=D02 (g:=t) (v:=u) (x:=l) (by omega)
   exact⟨_,by rw[←a];exact b,Rd.of h⟩
theorem Rd.mono{x y:l0}(h:∀ e∈x.2.2,e∈y.2.2):∀ {w:List Int} {u v:Int},Rd x u w v->Rd y u w v
 | [],u,v,k=>k
 |l::w,u,v,⟨z,a,k⟩=>⟨z,h _ a,Rd.mono h k⟩
theorem j0e{g:l0}{u v:Int}{w:List Int}(h:(N1 g u w v).2=true):w≠[]/\(N1 g u w v).1=(g.1,g.2.1+((w.length-1:Nat):Int),K5 T0 g.2.2 (Z00 v w u g.2.1)):=by
 unfold N1 at h ⊢
 cases hc:(!w.isEmpty&&decide (g.2.1+(w.length:Int)-1<=40)&&decide (g.2.2.length+w.length<=120))with
 |false=>rw[hc]at h;cases h
 |true =>
  simp only[Bool.and_eq_true,decide_eq_true_eq,Bool.not_eq_true',List.isEmpty_eq_false_iff]at hc
  exact⟨hc.1.1,rfl⟩
theorem f0g{x:l0}(v:Int):∀(w:List Int) (u n:Int),w≠[]->(∀ e∈Z00 v w u n,e∈x.2.2)->Rd x u w v
 | [],u,n,h,_=>absurd rfl h
 | [l],u,n,_,h=>⟨v,h _ mS,rfl⟩
 |l::y::r,u,n,_,h=>⟨n,h _ mS,f0g v (y::r) n (n+1) (λe=>by cases e) λe a=>h e (mC _ a)⟩
theorem f0i{x:l0}{u v:Int}{w:List Int}(h:(N1 x u w v).2=true):V08 x (N1 x u w v).1 id:=by
 obtain⟨a,b⟩:=j0e h
 rw[b]
 exact⟨λz h0 a=>⟨h0,by show z<x.2.1+_;omega⟩,λe c=>(C4 L3 _ _ _).2 (.inl c)⟩
theorem x0o{x:l0}{u v:Int}{w:List Int}(h:(N1 x u w v).2=true):Rd (N1 x u w v).1 u w v:=by
 obtain⟨a,b⟩:=j0e h
 rw[b]
 exact f0g v w u x.2.1 a λe c=>(C4 L3 _ _ _).2 (.inr c)
theorem g0i:∀(ws:List (List Int)) (g:l0),V08 g (Z03 ws g) id
 | [],g=>⟨λv h0 b=>⟨h0,b⟩,λe c=>c⟩
 |w::r,g=>by
  have a:=g0i r (N1 g 0 w 0).1
  cases h:(N1 g 0 w 0).2 with
  |true=>exact(f0i h).comp a
  |false =>
   have e:(N1 g 0 w 0).1=g:=by
    unfold N1 at h ⊢
    cases hc:(!w.isEmpty&&decide (g.2.1+(w.length:Int)-1<=40)&&decide (g.2.2.length+w.length<=120))with
    |false=>rfl
    |true=>rw[hc]at h;cases h
   rw[e]at a
   show V08 g (Z03 r (N1 g 0 w 0).1) id
   rw[e];exact a
theorem y0o:∀(ws:List (List Int)) (g:l0),0<=g.2.1->g.2.1+(tot ws:Int)<=40->g.2.2.length+tot ws<=120->∀ w∈ws,Rd (Z03 ws g) 0 w 0
 | [],g,h0,d,f,w,b=>by cases b
 |a::r,g,h0,d,f,w,b=>by
  have i:tot (a::r)=a.length+tot r:=rfl
  rw[i]at d f
  rcases List.mem_cons.1 b with rfl|b
  ·by_cases c:w = []
   ·rw[c];exact rfl
   ·have k:0<w.length:=List.length_pos_iff.2 c
    have h:(N1 g 0 w 0).2=true:=by
     unfold N1
     rw[show(!w.isEmpty&&decide (g.2.1+(w.length:Int)-1<=40)&&decide (g.2.2.length+w.length<=120))=true by
      simp only[Bool.and_eq_true,decide_eq_true_eq,Bool.not_eq_true',List.isEmpty_eq_false_iff]
      exact⟨⟨c,by omega⟩,by omega⟩]
     rfl
    exact(x0o h).mono (g0i r (N1 g 0 w 0).1).edge
  ·have j:(N1 g 0 a 0).1.2.1<=g.2.1+a.length/\(N1 g 0 a 0).1.2.2.length<=g.2.2.length+a.length/\0<=(N1 g 0 a 0).1.2.1:=by
    cases h:(N1 g 0 a 0).2 with
    |true =>
     rw[(j0e h).2]
     have:=g02 (Z00 0 a 0 g.2.1) g.2.2
     have:=d07 0 a 0 g.2.1
     exact⟨by show g.2.1+_<=_;omega,by simp only;omega,by show 0<=g.2.1+_;omega⟩
    |false =>
     have e:(N1 g 0 a 0).1=g:=by
      unfold N1 at h ⊢
      cases hc:(!a.isEmpty&&decide (g.2.1+(a.length:Int)-1<=40)&&decide (g.2.2.length+a.length<=120))with
      |false=>rfl
      |true=>rw[hc]at h;cases h
     rw[e];omega
   exact y0o r (N1 g 0 a 0).1 (by omega) (by omega) (by omega) w b
theorem H0p{r:Int}{ws:List (List Int)}(h:O3 r ws=true):tot ws<40:=by
 simp only[O3,Bool.and_eq_true,decide_eq_true_eq]at h
 exact h.2
theorem I0p{r:Int}{ws:List (List Int)}(h:O3 r ws=true):∀ w∈ws,Rd (Z03 ws (r,1,[])) 0 w 0:=by
 have:=H0p h
 exact y0o ws (r,1,[]) (by simp) (by simp only;omega) (by simp only[List.length_nil];omega)
def Cmp(t:l0):Prop:=∀ v,0<=v->v<t.2.1->∀ l,l≠0 -> -t.1<=l->l<=t.1->0<=Q0 t v l
theorem h0i{g:l0}{v:Int}:∀ {b:List Int},W07 g v b = []->∀ x∈b,0<=Q0 g v x
 | [],_,x,a=>by cases a
 |y::b,h,x,a=>by
  unfold W07 at h
  obtain⟨d,e⟩:=List.append_eq_nil_iff.1 h
  rcases List.mem_cons.1 a with rfl|a
  ·by_cases c:Q0 g v x<0
   ·rw[decide_eq_true c]at d;cases d
   ·omega
  ·exact h0i e x a
theorem i0i{g:l0}:∀ {d k:Nat},O08 g d k = []->∀ v:Nat,k<=v->v<k+d->∀ x∈T6 g.1.toNat 1,0<=Q0 g (v:Int) x
 |0,k,_,v,f,i,x,e=>by omega
 |d+1,k,h,v,f,i,x,e=>by
  unfold O08 at h
  obtain⟨a,b⟩:=List.append_eq_nil_iff.1 h
  by_cases c:v=k
  ·subst c;exact h0i a x e
  ·exact i0i b v (by omega) (by omega) x e
theorem s0r{r l:Int}(h0:l≠0)(a : -r<=l)(b:l<=r):l∈T6 r.toNat 1:=by
 by_cases c:0<l
 ·have:=(M05 r.toNat 1 l.toNat (by omega) (by omega)).1
  rwa [show((l.toNat:Nat):Int)=l by omega]at this
 ·have:=(M05 r.toNat 1 (-l).toNat (by omega) (by omega)).2
  rwa [show -(((-l).toNat:Nat):Int)=l by omega]at this
theorem B0l{g:l0}(h:W01 g = []):Cmp g:=λv h0 d l c a b=>by
 have:=i0i h v.toNat (Nat.zero_le _) (by omega) l (s0r c a b)
 rwa [show((v.toNat:Nat):Int)=v by omega]at this
theorem z0o{g:l0}(h:b03 g=true):Cmp g:=by
 unfold b03 at h
 simp only[Bool.and_eq_true,decide_eq_true_eq]at h
 exact B0l (List.length_eq_zero_iff.1 (by have:=h.2;omega))
theorem R07(g:l0):(Y9 g).1=g.1:=by
 have h:∀(d:Nat) (g:l0),(R6 d g).1=g.1:=by
  intro d
  induction d with
  |zero=>intro g;rfl
  |succ d a =>
   intro g
   unfold R6
   cases F7 g with
   |none=>rfl
   |some k=>exact a _
 exact h 40 g
theorem g0g{c x:l0}{E:Int->Int}(b:Emb c x E)(m:c.1=x.1)(f:F0 x=true)(e:Cmp c):∀ {w:List Int} {v z:Int},0<=v->v<c.2.1->rdw x (E v) w=some z->∃ u,(0<=u/\u<c.2.1)/\rdw c v w=some u/\E u=z
 | [],v,z,h0,a,h=>⟨v,⟨h0,a⟩,rfl,oJ h⟩
 |l::w,v,z,h0,a,h=>by
  unfold rdw at h
  by_cases c1:Q0 x (E v) l<0
  ·rw[if_pos c1]at h;cases h
  ·rw[if_neg c1]at h
   obtain⟨p,q,A,B⟩:=S0 f
   have k:=k0l p q.1 (show 0<=Q0 x (E v) l by omega)
   obtain⟨j,s,t,y⟩:=P08 _ _ _ k
   have d:=e v h0 a l (by omega) (by omega) (by omega)
   have n:=b.hom.step v l h0 a d
   rw[n]at h
   obtain⟨u,o,g,i⟩:=g0g b m f e d (i07 b.fc d) h
   refine⟨u,o,?_,i⟩
   unfold rdw
   rw[if_neg (by omega)]
   exact g
theorem A0o{a:Type}{l:List a}{x:Int}(h0:0<=x)(b:x<((l.length:Nat):Int)):∃ y∈l,gi l x=some y:=by
 obtain⟨n,rfl⟩:=Int.eq_ofNat_of_zero_le h0
 have h:n<l.length:=by omega
 exact⟨l[n],List.getElem_mem h,B3 (c5 h)⟩
theorem Z0s(ch:List Int):∀(fuel d k:Nat) (g:l0) (acc:List S4),g.2.1<=(d:Int)+1->d<fuel->U0 g=true->k+d<=1000->acc.length=k ->
  ∃ y h q,T3 ch fuel (k:Int) g.1 g.2.1 g.2.2 acc=some (.inl (y,h))/\Fol g y q/\F0 y=true/\y.1=g.1
 |0,d,k,g,acc,u,hf,b,t,m=>by omega
 |fuel+1,d,k,g,acc,u,hf,b,t,m=>by
  obtain⟨E,F,G,H⟩:=O2 b
  rw[T3.eq_2,show(g.1,g.2.1,g.2.2)=g from rfl,w0d g (by omega),oB]
  by_cases c:H5 g.2.2 = []
  ·rw[if_pos (by simp[c])]
   exact⟨g,acc,id,rfl,Fol.refl g,(J05 g).2 ⟨b,c⟩,rfl⟩
  ·have z:0<(H5 g.2.2).length:=List.length_pos_iff.2 c
   rw[if_neg (by simp only[decide_eq_true_eq];omega)]
   have v:∀ f∈H5 g.2.2,∃ y h q,T3 ch fuel ((k:Int)+1) (W9 g f).1 (W9 g f).2.1 (W9 g f).2.2 (acc ++ [f])=some (.inl (y,h))/\Fol g y q/\F0 y=true/\y.1=g.1:=λf a=>by
    have ok:=h02 b f a
    have w:=ok
    obtain⟨B,C,D⟩:=w
    obtain⟨y,h,q,e,o,p,s⟩:=Z0s ch fuel (d-1) (k+1) (W9 g f) (acc ++ [f]) (by show g.2.1-1<=_;omega) (by omega) (r03 b ok) (by omega) (by simp[m])
    exact⟨y,h,_,by rw[←e];rfl,(d0i b a).comp o,p,s⟩
   have j:∀ f∈H5 g.2.2,∃ y h q,((O4 g f).bind λx=>(grd ((acc.length + [f].length)*16<=140737488355328)).bind λ_=>T3 ch fuel (IntKind.i64.wrap ((k:Int)+1)) x.1.1 x.1.2.1 x.1.2.2 (acc ++ [f]))=some (.inl (y,h))/\Fol g y q/\F0 y=true/\y.1=g.1:=λf a=>by
    rw[x0d b (h02 b f a),oB,I0 (by simp only[List.length_singleton];omega),oB,w64 (by omega) (by omega)]
    exact v f a
   by_cases c1:(k:Int)<((ch.length:Nat):Int)
   ·obtain⟨x,A,n⟩:=A0o (l:=ch) (x:=(k:Int)) (by omega) c1
    rw[decide_eq_true c1,O1,n]
    simp only[oB,cond_true]
    by_cases c2:x>0
    ·rw[if_pos (by simpa using c2),I0 (by omega),oB]
     obtain⟨f,a,i⟩:=A0o (l:=H5 g.2.2) (x:=Int.tmod x (((H5 g.2.2).length:Nat):Int)) (Int.tmod_nonneg _ (by omega)) (Int.tmod_lt_of_pos _ (by omega))
     rw[i]
     exact j f a
    ·rw[if_neg (by simpa using c2)]
     obtain⟨f,a,i⟩:=A0o (l:=H5 g.2.2) (x:=0) (by omega) (by omega)
     rw[i]
     exact j f a
   ·rw[decide_eq_false c1,G2]
    simp only[oB,cond_false]
    rw[if_neg (by simp)]
    obtain⟨f,a,i⟩:=A0o (l:=H5 g.2.2) (x:=0) (by omega) (by omega)
    rw[i]
    exact j f a
theorem o0u{g:l0}(f:U0 g=true)(ch:List Int):∃ y d q,p00 g ch=some (y,d)/\Fol g y q/\F0 y=true/\y.1=g.1:=by
 obtain⟨k,l,m,n⟩:=O2 f
 obtain⟨y,d,q,e,h⟩:=Z0s ch W0 40 0 g [] (by omega) (F1 (by omega)) f (by omega) rfl
 have i:=L9 g (by omega)
 have j:=b00 g (by omega)
 obtain⟨a,b,c⟩:=g
 refine⟨y,d,q,?_,h⟩
 have e:T3 ch W0 0 a b c []=some (.inl (y,d)):=e
 unfold p00
 simp only[i,j,f,oB,Bool.not_true,Bool.false_eq_true,if_false,e]
 rfl
theorem C0l{a b:l0}{f k:Int->Int}(m:Mor a b f)(n:Mor b a k)(h:∀ v,0<=v->v<a.2.1->k (f v)=v):a.2.1.toNat<=b.2.1.toNat:=by
 have:=L0m a.2.1.toNat ((List.range b.2.1.toNat).map λi:Nat=>k (i:Int)) λi c=>by
  have d:=m.rng (i:Int) (by omega) (by omega)
  exact List.mem_map.2 ⟨(f (i:Int)).toNat,List.mem_range.2 (by omega),by rw[show(((f (i:Int)).toNat:Nat):Int)=f (i:Int) by omega];exact h _ (by omega) (by omega)⟩
 simpa using this
theorem D0l{a b:l0}(j:J1 a=true){f k:Int->Int}(m:Mor a b f)(n:Mor b a k):∀ v,0<=v->v<a.2.1->k (f v)=v:=λv h0 q=>by
 have hf:=E02 j
 refine Rch.sub (P:=λz=>k (f z)=z) (by rw[m.base,n.base]) (λe l=>?_) (c0g j h0 q)
 have c:=(S0 hf).1 e l
 have d:=L8 hf l
 have s1:=m.step e.1 e.2.1 c.1.1 c.1.2 (by rw[d.1];exact c.2.1.1)
 have s2:=m.step e.2.2 (-e.2.1) c.2.1.1 c.2.1.2 (by rw[d.2];exact c.1.1)
 rw[d.1]at s1
 rw[d.2]at s2
 have g:=m.rng _ c.1.1 c.1.2
 have i:=m.rng _ c.2.1.1 c.2.1.2
 have o:=n.step (f e.1) e.2.1 g.1 g.2 (by rw[s1];exact i.1)
 have p:=n.step (f e.2.2) (-e.2.1) i.1 i.2 (by rw[s2];exact g.1)
 rw[s1]at o
 rw[s2]at p
 constructor
 ·intro h
  have h:k (f e.1)=e.1:=h
  show k (f e.2.2)=e.2.2
  rw[←o,h,d.1]
 ·intro h
  have h:k (f e.2.2)=e.2.2:=h
  show k (f e.1)=e.1
  rw[←p,h,d.2]
theorem Mor.toHom{a b:l0}{f:Int->Int}(m:Mor a b f):Hom a b f:=⟨m.rng,m.step⟩
theorem N0t{a b:l0}(g:J1 a=true)(p:J1 b=true)(u:b.1=a.1){f k:Int->Int}(m:Mor a b f)(n:Mor b a k):a=b:=by
 have i:=E02 g
 have j:=E02 p
 have d:=D0l g m n
 have q:=D0l p n m
 have s1:=C0l m n d
 have s2:=C0l n m q
 have z:=(S0 i).2.2.1
 have A:=(S0 j).2.2.1
 have s:=m.toHom.ehom i
 have t:=n.toHom.ehom j
 have iso:Iso a b f a.2.1.toNat := {
  rank:=u
  nt:=by omega
  nc:=by omega
  ft:=i
  fc:=j
  rng:=λx h0 d=>by
   have:=m.rng x h0 (by omega)
   omega
  inj:=λx y v B w C h=>by rw[←d x v (by omega),←d y w (by omega),h]
  mem:=λc=>by
   constructor
   ·intro l
    have o:=(S0 j).1 c l
    exact⟨_,t.edge c l,by
     show c=(f (k c.1),c.2.1,f (k c.2.2))
     rw[q _ o.1.1 o.1.2,q _ o.2.1.1 o.2.1.2]⟩
   ·rintro⟨e,l,rfl⟩
    exact s.edge e l }
 have:=iso.canon m.base λx h0 d=>B0d i (c0g g h0 (by omega))
 rw[(B0a g).1,(B0a p).1]at this
 exact this.symm
theorem j0i{A B:l0}(i:F0 A=true)(q:F0 B=true){g:Int->Int}(m:Hom A B g)(h0:g 0=0):∃ f,Mor (Y9 A) (Y9 B) f:=by
 obtain⟨E,a,e,t⟩:=e0g i
 obtain⟨k,b,d,l⟩:=e0g q
 have j:=a.hom.comp m a.fc
 have v:=S0 b.fc
 have s:=l (Y9 A) 0 _ (S0m (i04 i)) j ⟨0,⟨iR _,by omega⟩,by show k 0=g (E 0);rw[d,e,h0]⟩
 obtain⟨o,c,n⟩:=j.lift a.fc b s
 have u:=S0 a.fc
 have h:=c.rng 0 (iR _) (by omega)
 have p:=n 0 (iR _) (by omega)
 refine⟨o,⟨b.inj _ _ h.1 h.2 (iR _) (by omega) (by rw[p,d];show g (E 0)=0;rw[e,h0]),c.rng,c.step⟩⟩
theorem J0p{x A B:l0}(i:0<x.2.1){p q:Int->Int}(a:Fol x A p)(b:Fol x B q)(c:F0 A=true)(f:F0 B=true)(j:A.1=B.1):Y9 A=Y9 B:=by
 obtain⟨g,m,e⟩:=a.uni B q f b.hom
 obtain⟨k,n,d⟩:=b.uni A p c a.hom
 have h:=e 0 (iR _) i
 have d0:=d 0 (iR _) i
 rw[a.base,b.base]at h d0
 obtain⟨s,l⟩:=j0i c f (m.hom f) h
 obtain⟨f2,o⟩:=j0i f c (n.hom c) d0
 exact N0t (i04 c) (i04 f) (by rw[R07,R07,j]) l o
theorem t0r{x y:l0}(a:U0 x=true)(b:F0 y=true)(d:y.1=x.1){q:Int->Int}(h:Fol x y q):t00 y=t00 x:=by
 obtain⟨p,c⟩:=G0d a
 have e:(J5 x).1.1=x.1:=by
  have:∀(n:Nat) (g:l0),(u00 n g).1.1=g.1:=by
   intro n
   induction n with
   |zero=>intro g;rfl
   |succ n i =>
    intro g
    unfold u00
    cases H5 g.2.2 with
    |nil=>rfl
    |cons f r=>exact i _
  unfold J5
  rw[a]
  exact this 40 x
 show Y9 (J5 y).1=Y9 (J5 x).1
 rw[M07 b]
 exact J0p (by have:=(O2 a).2.2.1;omega) h c b (i02 a) (by rw[e,d])
def Rdc:List Int->Prop
 |x::y::r=>y ≠ -x/\Rdc (y::r)
 |_=>True
theorem Rdc.tail{x:Int}{w:List Int}(h:Rdc (x::w)):Rdc w:=by
 cases w with
 |nil=>exact trivial
 |cons y r=>exact h.2
theorem U0m:∀ {w:List Int},(∀ x∈w,Y3 x/\x≠0)->Red w.reverse=true->Rdc w
 | [],_,_=>trivial
 | [x],_,_=>trivial
 |x::y::r,a,h=>by
  rw[List.reverse_cons]at h
  obtain⟨d,_,e⟩:=(m0o _ _).1 h
  refine⟨λc=>?_,U0m (λz f=>a z (mC _ f)) d⟩
  have:=e y x (by simp) rfl
  have b:=a x mS
  rw[(g07 b.1 b.2).2 c]at this
  cases this
theorem E0l{r:Int}{w:List Int}(h:V1 r w=true):Rdc w:=by
 obtain⟨_,b⟩:=z01 h
 refine U0m (λx a=>⟨(b x a).1,(b x a).2.1⟩) ?_
 have:=H0b w [] rfl
 rwa [←List.reverse_reverse (o00 [] w),f07 h]at this
theorem i0g{c t:l0}{E:Int->Int}(b:Emb c t E)(g:F0 t=true)(o:∀ y,0<=y->y<t.2.1->(∃ u,(0<=u/\u<c.2.1)/\E u=y)∨B00 y t.2.2<2 ∨ ¬ Rch t.2.2 0 y):
  ∀(w:List Int) (v z:Int),Rdc w->0<=v->v<c.2.1->0<=z->z<c.2.1->Rch t.2.2 0 (E v)->rdw t (E v) w=some (E z)->rdw c v w=some z
 | [],v,z,_,i,j,k,l,_,h=>congrArg some (b.inj v z i j k l (oJ h))
 |x::w,v,z,q,i,j,k,l,C,h=>by
  unfold rdw at h
  by_cases c1:Q0 t (E v) x<0
  ·rw[if_pos c1]at h;cases h
  ·rw[if_neg c1]at h
   have f:0<=Q0 t (E v) x:=by omega
   have m:=(y0l (a:=0) f).1 C
   have fin:∀ u,0<=u->u<c.2.1->E u=Q0 t (E v) x->rdw c v (x::w)=some z:=λu s A e=>by
    have hf:=b.full v u x i j s A e.symm
    unfold rdw
    rw[hf,if_neg (by omega)]
    rw[←e]at h m
    exact i0g b g o w u z q.tail s A k l m h
   rcases o _ f (i07 g f)with⟨u,p,e⟩|d
   ·exact fin u p.1 p.2 e
   ·cases w with
    |nil=>exact fin z k l (oJ h).symm
    |cons n w =>
     have F:0<=Q0 t (Q0 t (E v) x) n:=by
      unfold rdw at h
      by_cases c2:Q0 t (Q0 t (E v) x) n<0
      ·rw[if_pos c2]at h;cases h
      ·omega
     have B:=l04 g rfl f
     have D:=(b.hom.rng v i j).1
     have:=w0o g (v:=Q0 t (E v) x) λy=>by
      by_cases c3:y = -x
      ·exact⟨n,by rw[c3];exact q.1,F⟩
      ·exact⟨-x,λc=>c3 c.symm,by rw[B];exact D⟩
     rcases d with d|d
     ·omega
     ·exact absurd m d
theorem k0i:∀(d:Nat) {h:l0},F0 h=true->∀ w,Rdc w->rdw h 0 w=some 0->rdw (R6 d h) 0 w=some 0
 |0,h,hf,w,e,a=>a
 |d+1,h,hf,w,e,a=>by
  unfold R6
  cases hl:F7 h with
  |none=>exact a
  |some k =>
   obtain⟨v,x,z,A⟩:=S0 hf
   have u:=v09 hl
   obtain⟨q,B,s,t⟩:=g05 (T1 hf) hl
   have g:=N0b hf (I03 k h.2.1.toNat 0) q s t
   have f:getI (wo k h.2.1.toNat 0) 0=0:=by
    obtain⟨n,p⟩:∃ n,h.2.1.toNat=n+1:=⟨h.2.1.toNat-1,by omega⟩
    rw[p]
    unfold wo
    rw[if_neg (by omega)];rfl
   have l:(0:Int)<(N5 h (wo k h.2.1.toNat 0)).2.1:=by
    show(0:Int)<(((wo k h.2.1.toNat 0).length:Nat):Int)
    omega
   refine k0i d g.fc w e (i0g g hf (λy C D=>?_) w 0 0 e (iR _) l (iR _) l (by rw[f];exact .base) (by rw[f];exact a))
   by_cases c:y.toNat=k
   ·have b:=r0r _ _ _ hl
    unfold K07 at b
    rw[←c,show((y.toNat:Nat):Int)=y by omega,Bool.or_eq_true,decide_eq_true_eq,Bool.not_eq_true',decide_eq_false_iff_not]at b
    refine .inr (b.imp id λm o=>m ((H03 _ _ _).2 o))
   ·have:=S0f k h.2.1.toNat 0 y.toNat (Nat.zero_le _) (by omega) c
    rw[show((y.toNat:Nat):Int)=y by omega]at this
    obtain⟨i,j⟩:=List.getElem?_of_mem this
    refine .inl ⟨(i:Int),⟨by omega,?_⟩,A09 j⟩
    show(i:Int)<(((wo k h.2.1.toNat 0).length:Nat):Int)
    have:=(List.getElem?_eq_some_iff.1 j).1
    omega
theorem K0p{h:l0}(hf:F0 h=true){w:List Int}(d:Rdc w)(l:rdw h 0 w=some 0):rdw (Y9 h) 0 w=some 0:=by
 have j:=T1 hf
 obtain⟨u,v,x,z⟩:=S0 hf
 have b:=C00 40 hf
 have k:=L05 40 j (by omega)
 obtain⟨o,p,q,s⟩:=S0 b
 have a:=z02 b
 have f:=N0b b a.1.1 a.1.2 a.2 (Nat.le_trans (n00 _ _ a.1.1 a.1.2) (by omega))
 have e:getI (U2 (R6 40 h)) 0=0:=by
  obtain⟨t,g⟩:=N05 (R6 40 h)
  rw[g];rfl
 have h0:(0:Int)<(N5 (R6 40 h) (U2 (R6 40 h))).2.1:=by
  show(0:Int)<(((U2 (R6 40 h)).length:Nat):Int)
  omega
 refine i0g f b (λy m n=>?_) w 0 0 d (iR _) h0 (iR _) h0 (by rw[e];exact .base) (by rw[e];exact k0i 40 hf w d l)
 obtain⟨i,c⟩:=List.getElem?_of_mem (e07 b k m n)
 refine .inl ⟨(i:Int),⟨by omega,?_⟩,A09 c⟩
 show(i:Int)<(((U2 (R6 40 h)).length:Nat):Int)
 have:=(List.getElem?_eq_some_iff.1 c).1
 omega
theorem l0i{r:Int}{ws:List (List Int)}(h:O3 r ws=true):∀ w∈ws,S5 (Y2 r ws).1 w=true:=λw d=>by
 obtain⟨g,f,e⟩:=h05 h
 have a:=O05 h
 obtain⟨q,b⟩:=G0d a
 have hf:=i02 a
 have c:=((I0p h w d).map b.hom).rdw hf
 rw[b.base]at c
 have:=K0p hf (E0l (e w d)) c
 unfold Y2
 rw[h]
 exact(j05 _ _).2 this
def c0a(g:l0):Prop:=∀ v,Rch g.2.2 0 v->∀ x∈T6 g.1.toNat 1,∃ z,z∈z9 v x g.2.2
theorem S0c{g:l0}(b:inG g)(h0:0<g.2.1){v:Int}(h:Rch g.2.2 0 v):0<=v/\v<g.2.1:=by
 have:=Rch.sub (es:=g.2.2) (v:=0) (P:=λv=>v=0∨(0<=v/\v<g.2.1)) (.inl rfl) (λe a=>⟨λ_ => .inr (b e a).2.1,λ_ => .inr (b e a).1⟩) h
 rcases this with rfl|h
 ·exact⟨iR _,h0⟩
 ·exact h
theorem F0l{es:List K0}{v x z:Int}(h:Rch es 0 v)(c:z∈z9 v x es):Rch es 0 z:=by
 obtain⟨e,a,b⟩:=N2.1 c
 rcases b with⟨_,_,rfl,rfl⟩|⟨_,_,rfl,rfl⟩
 ·exact(Rch.closed e a).1 h
 ·exact(Rch.closed e a).2 h
theorem V0m{P:List Int}{a:K0}:∀ {es:List K0},a∈pE P es↔∃ e∈es,(0<=getI P e.1/\0<=getI P e.2.2)/\a=(getI P e.1,e.2.1,getI P e.2.2)
 | []=>by simp[pE]
 |e::r=>by
  unfold pE
  by_cases c:0<=getI P e.1/\0<=getI P e.2.2
  ·rw[decide_eq_true c.1,decide_eq_true c.2]
   simp only[Bool.and_self,cond_true,List.mem_cons,V0m (es:=r),exists_eq_or_imp]
   constructor
   ·rintro(h|h)
    ·exact .inl ⟨c,h⟩
    ·exact .inr h
   ·rintro(h|h)
    ·exact .inl h.2
    ·exact .inr h
  ·have:(decide (0<=getI P e.1)&&decide (0<=getI P e.2.2))=false:=by
    by_cases c1:0<=getI P e.1
    ·rw[decide_eq_true c1,decide_eq_false λh=>c ⟨c1,h⟩];rfl
    ·rw[decide_eq_false c1];rfl
   rw[this]
   simp only[cond_false,List.mem_cons,V0m (es:=r),exists_eq_or_imp]
   constructor
   ·exact .inr
   ·rintro(h|h)
    ·exact absurd h.1 c
    ·exact h
theorem m0i{g:l0}(p:inG g)(h0:0<g.2.1){o:List Int}(s:inV g.2.1.toNat o)(n:o.Nodup)(K:∃ t,o=0::t)(F:∀ v,Rch g.2.2 0 v->v∈o)(hf:c0a g):c0a (N5 g o):=by
 obtain⟨t,rfl⟩:=K
 have E:getI (plc g.2.1.toNat (0::t)) 0=0:=R08 s n (i:=0) rfl
 have l:∀ v,Rch g.2.2 0 v->0<=getI (plc g.2.1.toNat (0::t)) v:=λv c=>by
  obtain⟨i,H⟩:=List.getElem?_of_mem (F v c)
  rw[R08 s n H];omega
 have q:∀ f,f∈(N5 g (0::t)).2.2↔∃ e∈g.2.2,(0<=getI (plc g.2.1.toNat (0::t)) e.1/\0<=getI (plc g.2.1.toNat (0::t)) e.2.2)/\f=(getI (plc g.2.1.toNat (0::t)) e.1,e.2.1,getI (plc g.2.1.toNat (0::t)) e.2.2):=λf=>by
  show f∈K5 T0 [] (pE _ g.2.2)↔_
  rw[C4 L3,←V0m]
  simp
 have A:=λ{x y:Int} w J m k=>D0b (x:=x) (y:=y) s n w J m k
 generalize getI (plc g.2.1.toNat (0::t))=P at *
 have back:∀ d,Rch (N5 g (0::t)).2.2 0 d->∃ v,Rch g.2.2 0 v/\d=P v:=λd h=>by
  refine Rch.sub (P:=λd=>∃ v,Rch g.2.2 0 v/\d=P v) ⟨0,.base,E.symm⟩ (λf G=>?_) h
  obtain⟨e,j,⟨L,M⟩,rfl⟩:=(q f).1 G
  have B:=p e j
  constructor
  ·rintro⟨v,c,k⟩
   have u:=S0c p h0 c
   have:=A B.1.1 u.1 L k
   rw[←this]at c
   exact⟨e.2.2,(Rch.closed e j).1 c,rfl⟩
  ·rintro⟨v,c,k⟩
   have u:=S0c p h0 c
   have:=A B.2.1.1 u.1 M k
   rw[←this]at c
   exact⟨e.1,(Rch.closed e j).2 c,rfl⟩
 intro d I x w
 obtain⟨v,c,rfl⟩:=back d I
 obtain⟨z,D⟩:=hf v c x w
 have C:=F0l c D
 refine⟨P z,N2.2 ?_⟩
 obtain⟨e,j,m⟩:=N2.1 D
 rcases m with⟨a,b,rfl,rfl⟩|⟨a,b,rfl,rfl⟩
 ·exact⟨(P e.1,e.2.1,P e.2.2),(q _).2 ⟨e,j,⟨l _ c,l _ C⟩,rfl⟩,.inl ⟨a,b,rfl,rfl⟩⟩
 ·exact⟨(P e.1,e.2.1,P e.2.2),(q _).2 ⟨e,j,⟨l _ C,l _ c⟩,rfl⟩,.inr ⟨a,b,rfl,rfl⟩⟩
def W0m(v:Int):List K0->Nat
 | []=>0
 |e::r=>(if e.1=v then 1 else 0)+W0m v r
def X0m(v:Int):List K0->Nat
 | []=>0
 |e::r=>(if e.2.2=v then 1 else 0)+X0m v r
theorem j0g(v:Int):∀ es,B00 v es=W0m v es+X0m v es
 | []=>rfl
 |e::r=>by
  have:=j0g v r
  simp only[B00,D04,W0m,X0m]
  omega
theorem G0l{v:Int}:∀ {es:List K0} {e:K0},e∈es->e.1=v->1<=W0m v es
 |x::r,e,h,a=>by
  rcases List.mem_cons.1 h with rfl|h
  ·simp only[W0m,if_pos a];omega
  ·have:=G0l h a;simp only[W0m];omega
theorem H0l{v:Int}:∀ {es:List K0} {e:K0},e∈es->e.2.2=v->1<=X0m v es
 |x::r,e,h,a=>by
  rcases List.mem_cons.1 h with rfl|h
  ·simp only[X0m,if_pos a];omega
  ·have:=H0l h a;simp only[X0m];omega
theorem u0r{g:l0}(n:1<=g.1)(hf:c0a g){v:Int}(f:Rch g.2.2 0 v):2<=B00 v g.2.2:=by
 have b:=M05 g.1.toNat 1 1 (Nat.le_refl _) (by omega)
 obtain⟨z,m⟩:=hf v f 1 b.1
 obtain⟨y,l⟩:=hf v f (-1) b.2
 obtain⟨e,k,h⟩:=N2.1 m
 obtain⟨d,j,i⟩:=N2.1 l
 rw[j0g]
 have s1:1<=W0m v g.2.2:=by
  rcases h with⟨_,_,c,_⟩|⟨a,_,_,_⟩
  ·exact G0l k c
  ·omega
 have s2:1<=X0m v g.2.2:=by
  rcases i with⟨a,_,_,_⟩|⟨_,_,c,_⟩
  ·omega
  ·exact H0l j c
 omega
theorem I0l{a:Nat->Bool}:∀ {d v k:Nat},lf a d v=some k->a k=true
 |0,v,k,h=>nomatch h
 |d+1,v,k,h=>by
  unfold lf at h
  cases hb:a v with
  |true=>rw[hb]at h;simp only[cond_true,Option.some.injEq]at h;rw[←h];exact hb
  |false=>rw[hb]at h;exact I0l h
theorem y0s(k d:Nat)(a:1<=k):∃ t,wo k (d+1) 0=0::t:=by
 unfold wo
 rw[if_neg (by omega)]
 exact⟨_,rfl⟩
theorem k0g:∀(d:Nat) {g:l0},F0 g=true->c0a g->c0a (R6 d g)
 |0,g,h,hf=>hf
 |d+1,g,h,hf=>by
  unfold R6
  cases e:F7 g with
  |none=>exact hf
  |some k =>
   obtain⟨i,u,w,x⟩:=S0 h
   obtain⟨f,s,j,l⟩:=g05 (T1 h) e
   have m:=v09 e
   refine k0g d (t03 h f (I03 _ _ _) j l) (m0i i (by omega) f (I03 _ _ _) ?_ (λv b=>?_) hf)
   ·obtain⟨n,p⟩:∃ n,g.2.1.toNat=n+1:=⟨g.2.1.toNat-1,by omega⟩
    rw[p]
    exact y0s k n m.1
   ·have t:=S0c i (by omega) b
    have:=S0f k g.2.1.toNat 0 v.toNat (by omega) (by omega) (λc=>by
     have a:=I0l e
     have o:(k:Int)=v:=by omega
     unfold K07 at a
     rw[o,Bool.or_eq_true]at a
     rcases a with a|a
     ·have:=u0r (by omega) hf b
      simp only[decide_eq_true_eq]at a
      omega
     ·have q:v∈E0m g.2.2:=(H03 _ _ _).2 b
      rw[decide_eq_true q]at a
      cases a)
    rwa [show((v.toNat:Nat):Int)=v by omega]at this
theorem L0p{g:l0}(h:F0 g=true)(hf:c0a g):c0a (Y9 g):=by
 have a:=C00 40 h
 have d:F7 (R6 40 g)=none:=by
  obtain⟨b,f,i,j⟩:=S0 h
  exact L05 40 (T1 h) (by omega)
 obtain⟨b,f,i,j⟩:=S0 a
 obtain⟨c,k⟩:=z02 a
 show c0a (N5 (R6 40 g) (U2 (R6 40 g)))
 refine m0i b (by omega) c.2 c.1 (N05 _) (λv e=>?_) (k0g 40 h hf)
 have:=S0c b (by omega) e
 exact e07 a d this.1 this.2
theorem l0g{g:l0}{v:Int}:∀(a:List Int),(∀ x∈a,0<=Q0 g v x)->W07 g v a = []
 | [],_=>rfl
 |x::a,h=>by
  unfold W07
  have:=h x mS
  rw[decide_eq_false (show ¬ Q0 g v x<0 by omega),l0g a λy b=>h y (mC _ b)]
  rfl
theorem m0g{g:l0}:∀(d k:Nat),(∀ v:Nat,k<=v->v<k+d->∀ x∈T6 g.1.toNat 1,0<=Q0 g (v:Int) x)->O08 g d k = []
 |0,k,h=>rfl
 |d+1,k,h=>by
  unfold O08
  rw[l0g _ (h k (Nat.le_refl _) (by omega)),m0g d (k+1) λv a b=>h v (by omega) (by omega)]
  rfl
theorem v0r{g:l0}(h:F0 g=true)(hf:c0a g):b03 (Y9 g)=true:=by
 have a:=i04 h
 have b:=Q2 a
 have f:=L0p h hf
 obtain⟨l,o,p,q⟩:=S0 b
 have i:F7 (Y9 g)=none:=by
  unfold J1 at a
  simp only[Bool.and_eq_true,Option.isNone_iff_eq_none]at a
  exact a.2.1
 have j:W01 (Y9 g) = []:=by
  unfold W01
  refine m0g _ 0 λv m n x k=>?_
  have d:Rch (Y9 g).2.2 0 (v:Int):=by
   by_cases c:v=0
   ·subst c;exact .base
   ·have:=w09 i v (by omega) (by omega)
    unfold K07 at this
    simp only[Bool.or_eq_false_iff,Bool.not_eq_false',decide_eq_true_eq]at this
    exact(H03 _ _ _).1 this.2
  obtain⟨z,e⟩:=f _ d x k
  rw[r04 b e]
  exact(S0c l (by omega) (F0l d e)).1
 unfold b03
 rw[a,j]
 rfl
def O04(g:l0)(l:Int):Nat->Nat->List Int
 |0,_=>[]
 |d+1,k=>if Q0 g (k:Int) l<0 then(k:Int)::O04 g l d (k+1)else O04 g l d (k+1)
def M0d(g:l0)(l:Int):Nat->Nat->List Int
 |0,_=>[]
 |d+1,k=>if Q0 g (k:Int) l<0 then M0d g l d (k+1)else(k:Int)::M0d g l d (k+1)
theorem P0b(g:l0)(l:Int):∀ d k,(O04 g l d k).length+(M0d g l d k).length=d
 |0,k=>rfl
 |d+1,k=>by
  have:=P0b g l d (k+1)
  unfold O04 M0d
  split<;>simp only[List.length_cons]<;>omega
theorem j07{g:l0}{l v:Int}:∀ {d k:Nat},v∈O04 g l d k↔∃ j:Nat,v=(j:Int)/\(k<=j/\j<k+d)/\Q0 g v l<0
 |0,k=>⟨(λh=>by cases h),λ⟨j,_,h,_⟩=>by omega⟩
 |d+1,k=>by
  have i:=j07 (g:=g) (l:=l) (v:=v) (d:=d) (k:=k+1)
  unfold O04
  split
  ·rename_i c
   rw[List.mem_cons,i]
   constructor
   ·rintro(rfl|⟨j,a,f,b⟩)
    ·exact⟨k,rfl,by omega,c⟩
    ·exact⟨j,a,by omega,b⟩
   ·rintro⟨j,a,f,b⟩
    by_cases e:j=k
    ·left;rw[a,e]
    ·right;exact⟨j,a,by omega,b⟩
  ·rename_i c
   rw[i]
   constructor
   ·rintro⟨j,a,f,b⟩;exact⟨j,a,by omega,b⟩
   ·rintro⟨j,a,f,b⟩
    refine⟨j,a,?_,b⟩
    by_cases e:j=k
    ·rw[a,e]at b;exact absurd b c
    ·omega
theorem k07{g:l0}{l v:Int}:∀ {d k:Nat},v∈M0d g l d k↔∃ j:Nat,v=(j:Int)/\(k<=j/\j<k+d)/\0<=Q0 g v l
 |0,k=>⟨(λh=>by cases h),λ⟨j,_,h,_⟩=>by omega⟩
 |d+1,k=>by
  have i:=k07 (g:=g) (l:=l) (v:=v) (d:=d) (k:=k+1)
  unfold M0d
  split
  ·rename_i c
   rw[i]
   constructor
   ·rintro⟨j,a,f,b⟩;exact⟨j,a,by omega,b⟩
   ·rintro⟨j,a,f,b⟩
    refine⟨j,a,?_,b⟩
    by_cases e:j=k
    ·rw[a,e]at b;omega
    ·omega
  ·rename_i c
   rw[List.mem_cons,i]
   constructor
   ·rintro(rfl|⟨j,a,f,b⟩)
    ·exact⟨k,rfl,by omega,by omega⟩
    ·exact⟨j,a,by omega,b⟩
   ·rintro⟨j,a,f,b⟩
    by_cases e:j=k
    ·left;rw[a,e]
    ·right;exact⟨j,a,by omega,b⟩
theorem S07(g:l0)(l:Int):∀ d k,(O04 g l d k).Nodup
 |0,k=>List.nodup_nil
 |d+1,k=>by
  unfold O04
  split
  ·refine List.nodup_cons.2 ⟨λh=>?_,S07 g l d (k+1)⟩
   obtain⟨j,a,b,c⟩:=j07.1 h
   omega
  ·exact S07 g l d (k+1)
theorem D0a(g:l0)(l:Int):∀ d k,(M0d g l d k).Nodup
 |0,k=>List.nodup_nil
 |d+1,k=>by
  unfold M0d
  split
  ·exact D0a g l d (k+1)
  ·refine List.nodup_cons.2 ⟨λh=>?_,D0a g l d (k+1)⟩
   obtain⟨j,a,b,c⟩:=k07.1 h
   omega
theorem B0o:∀ {a b:List Int},a.Nodup->(∀ x∈a,x∈b)->a.length<=b.length
 | [],b,_,_=>Nat.zero_le _
 |x::a,b,i,h=>by
  obtain⟨f,g⟩:=List.nodup_cons.1 i
  have c:=h x mS
  have:=B0o (b:=b.erase x) g λy d=>(List.mem_erase_of_ne (λe=>f (by rw[←e];exact d))).2 (h y (mC _ d))
  rw[List.length_erase_of_mem c]at this
  have:=List.length_pos_of_mem c
  rw[List.length_cons]
  omega
theorem w0r{g:l0}(hf:F0 g=true)(l:Int):(M0d g l g.2.1.toNat 0).length<=(M0d g (-l) g.2.1.toNat 0).length:=by
 obtain⟨s,w,x,z⟩:=S0 hf
 have m:((M0d g l g.2.1.toNat 0).map λv=>Q0 g v l).Nodup:=by
  rw[List.Nodup,List.pairwise_map]
  refine List.Pairwise.imp_of_mem (λ{a b} k d o e=>?_) (D0a g l g.2.1.toNat 0)
  obtain⟨_,_,_,c⟩:=k07.1 k
  obtain⟨_,_,_,i⟩:=k07.1 d
  have f:=l04 hf rfl c
  have h:=l04 hf rfl i
  rw[e]at f
  exact o (f.symm.trans h)
 have:=B0o (b:=M0d g (-l) g.2.1.toNat 0) m λy q=>by
  obtain⟨v,p,rfl⟩:=List.mem_map.1 q
  obtain⟨j,t,u,c⟩:=k07.1 p
  have d:=l04 hf rfl c
  have n:=Z02 s v l
  refine k07.2 ⟨(Q0 g v l).toNat,by omega,?_,by rw[d];omega⟩
  rcases n with e|e<;>omega
 rwa [List.length_map]at this
theorem x0j{g:l0}(hf:F0 g=true)(l:Int):(O04 g l g.2.1.toNat 0).length=(O04 g (-l) g.2.1.toNat 0).length:=by
 have b:=w0r hf l
 have a:=w0r hf (-l)
 rw[Int.neg_neg]at a
 have c:=P0b g l g.2.1.toNat 0
 have d:=P0b g (-l) g.2.1.toNat 0
 omega
def y0j(l:Int):List Int->List Int->List K0
 |a::A,b::B=>(a,l,b)::y0j l A B
 |_,_=>[]
theorem n0g(l:Int):∀(A B:List Int),A.length=B.length->(y0j l A B).length=A.length
 | [],[],_=>rfl
 |a::A,b::B,h=>by simp only[y0j,List.length_cons,n0g l A B (by simpa using h)]
 | [],b::B,h=>by simp at h
 |a::A,[],h=>by simp at h
theorem Q0b(l:Int):∀(A B:List Int) (i:Nat) (a b:Int),A[i]?=some a->B[i]?=some b->(y0j l A B)[i]?=some (a,l,b)
 |x::A,y::B,0,a,b,c,d=>by simp at c d;simp[y0j,c,d]
 |x::A,y::B,i+1,a,b,c,d=>by simp at c d;simpa [y0j] using Q0b l A B i a b c d
 | [],B,i,a,b,c,d=>by simp at c
 |x::A,[],i,a,b,c,d=>by simp at d
theorem J0l(l:Int):∀(A B:List Int) (e:K0),e∈y0j l A B->e.2.1=l/\∃ i:Nat,A[i]?=some e.1/\B[i]?=some e.2.2
 |a::A,b::B,e,h=>by
  rcases List.mem_cons.1 h with rfl|h
  ·exact⟨rfl,0,rfl,rfl⟩
  ·obtain⟨c,i,d,f⟩:=J0l l A B e h
   exact⟨c,i+1,by simpa using d,by simpa using f⟩
 | [],B,e,h=>by cases B<;>cases h
 |a::A,[],e,h=>by cases h
def Y0m(g:l0)(l:Int):List K0:=y0j l (O04 g l g.2.1.toNat 0) (O04 g (-l) g.2.1.toNat 0)
def nwA(g:l0):Nat->Nat->List K0
 |0,_=>[]
 |d+1,l=>Y0m g (l:Int)++nwA g d (l+1)
theorem C0o{g:l0}{e:K0}:∀ {d l:Nat},e∈nwA g d l↔∃ j:Nat,(l<=j/\j<l+d)/\e∈Y0m g (j:Int)
 |0,l=>⟨(λh=>by cases h),λ⟨j,h,_⟩=>by omega⟩
 |d+1,l=>by
  rw[nwA,List.mem_append,C0o (d:=d) (l:=l+1)]
  constructor
  ·rintro(h|⟨j,b,a⟩)
   ·exact⟨l,by omega,h⟩
   ·exact⟨j,by omega,a⟩
  ·rintro⟨j,b,a⟩
   by_cases c:j=l
   ·left;rw[←c];exact a
   ·right;exact⟨j,by omega,a⟩
theorem K0l{g:l0}(hf:F0 g=true)(l:Int):(Y0m g l).length<=40:=by
 obtain⟨a,b,c,d⟩:=S0 hf
 have:=P0b g l g.2.1.toNat 0
 unfold Y0m
 rw[n0g l _ _ (x0j hf l)]
 omega
theorem D0o{g:l0}(hf:F0 g=true):∀ d l,(nwA g d l).length<=40*d
 |0,l=>Nat.zero_le _
 |d+1,l=>by
  have a:=K0l hf (l:Int)
  have b:=D0o hf d (l+1)
  rw[nwA,List.length_append]
  omega
def r01(g:l0):l0:=(g.1,g.2.1,K5 T0 g.2.2 (nwA g g.1.toNat 1))
def O03(g:l0):l0×Bool:=bif F0 g&&decide (g.2.1*g.1<=120)then(r01 g,true)else((0,0,[]),false)
theorem a0t(A B:List Int)(l r n:Int)(f:A.length=B.length)(k:A.length<=1000):∀(d i fuel:Nat) (es:List K0),i+d=A.length->d<fuel->es.length+d<=100000 ->
  P4 A.length A B l fuel (i:Int) r n es=some (r,n,es++(y0j l A B).drop i)
 |d,i,0,es,g,hf,h=>by omega
 |0,i,fuel+1,es,g,hf,h=>by
  rw[P4.eq_2,if_neg (by simp only[decide_eq_true_eq];omega),M1 (by rw[n0g l A B f];omega)];simp
 |d+1,i,fuel+1,es,g,hf,h=>by
  have j:i<A.length:=by omega
  have c:=c5 j
  have e:=c5 (show i<B.length by omega)
  generalize A[i]=a at c
  generalize B[i]=b at e
  have m:=Q0b l A B i a b c e
  have o:=a0t A B l r n f k d (i+1) fuel (es ++ [(a,l,b)]) (by omega) (by omega) (by simp;omega)
  rw[P4.eq_2,if_pos (by simp only[decide_eq_true_eq];omega),B3 c,oB,B3 e,oB,I0 (by simp;omega),oB,V2 j (by omega),o,Q1 m]
  simp
theorem b0t{g:l0}(i:F0 g=true){l:Int}(n : -3<=l/\l<=3):∀(d k fuel:Nat) (a b:List Int),k+d=g.2.1.toNat->d<fuel->a.length<=k->b.length<=k ->
  K3 g.2.1 g.1 g.2.2 l fuel (k:Int) a b=some (a++O04 g l d k,b++O04 g (-l) d k)
 |d,k,0,a,b,h,hf,c,e=>by omega
 |0,k,fuel+1,a,b,h,hf,c,e=>by
  rw[K3.eq_2,if_neg (by simp only[decide_eq_true_eq];omega)];simp[O04]
 |d+1,k,fuel+1,a,b,h,hf,c,e=>by
  obtain⟨j,u,m,v⟩:=S0 i
  have s:=f02 g (k:Int) l ⟨⟨by omega,by omega⟩,by omega⟩ (by omega)
  have t:=f02 g (k:Int) (-l) ⟨⟨by omega,by omega⟩,by omega⟩ (by omega)
  have p:=G03 j m.2 (k:Int) l
  have q:=G03 j m.2 (k:Int) (-l)
  have f:=λa b c e=>b0t i n d (k+1) fuel a b (by omega) (by omega) c e
  have o:IntKind.i64.wrap ((k:Int)+1)=((k+1:Nat):Int):=by rw[w64 (by omega) (by omega)];omega
  rw[K3.eq_2,if_pos (by simp only[decide_eq_true_eq];omega)]
  simp only[show(g.1,g.2.1,g.2.2)=g from rfl,show IntKind.i64.wrap (0-l) = -l by rw[w64 (by omega) (by omega)];omega,s,t,oB,I0 p,I0 q,o]
  unfold O04
  by_cases c1:Q0 g (k:Int) l<0<;>by_cases c2:Q0 g (k:Int) (-l)<0
  ·rw[if_pos (decide_eq_true c1),if_pos c1,if_pos c2,if_pos (decide_eq_true c2),I0 (by simp;omega),oB,I0 (by simp;omega),oB,f _ _ (by simp;omega) (by simp;omega)]
   simp
  ·rw[if_pos (decide_eq_true c1),if_pos c1,if_neg c2,if_neg (by simpa using c2),I0 (by simp;omega),oB,f _ _ (by simp;omega) (by omega)]
   simp
  ·rw[if_neg (by simpa using c1),if_neg c1,if_pos c2,if_pos (decide_eq_true c2),I0 (by simp;omega),oB,f _ _ (by omega) (by simp;omega)]
   simp
  ·rw[if_neg (by simpa using c1),if_neg c1,if_neg c2,if_neg (by simpa using c2),f _ _ (by omega) (by omega)]
theorem c0t{g:l0}(a:F0 g=true)(c b:Int):∀(d l fuel:Nat) (es:List K0),l+d=g.1.toNat+1->1<=l->d<fuel->es.length+40*d<=10000 ->
  Q4 g.1 g.2.1 g.2.2 fuel (l:Int) c b es=some (c,b,es++nwA g d l)
 |d,l,0,es,i,h,hf,j=>by omega
 |0,l,fuel+1,es,i,h,hf,j=>by
  rw[Q4.eq_2,if_neg (by simp only[decide_eq_true_eq];omega)];simp[nwA]
 |d+1,l,fuel+1,es,i,h,hf,j=>by
  obtain⟨o,p,q,s⟩:=S0 a
  have f:=b0t a (l:=(l:Int)) (by omega) g.2.1.toNat 0 W0 [] [] (by omega) (F1 (by omega)) (by simp) (by simp)
  rw[show((0:Nat):Int)=0 from rfl,List.nil_append,List.nil_append]at f
  have m:=P0b g (l:Int) g.2.1.toNat 0
  have e:=a0t (O04 g (l:Int) g.2.1.toNat 0) (O04 g (-(l:Int)) g.2.1.toNat 0) (l:Int) c b (x0j a _) (by omega) (O04 g (l:Int) g.2.1.toNat 0).length 0 W0 es (by omega) (F1 (by omega)) (by omega)
  rw[show((0:Nat):Int)=0 from rfl,List.drop_zero]at e
  have n:=K0l a (l:Int)
  have k:=c0t a c b d (l+1) fuel (es++Y0m g (l:Int)) (by omega) (by omega) (by omega) (by rw[List.length_append];omega)
  rw[Q4.eq_2,if_pos (by simp only[decide_eq_true_eq];omega),f,oB]
  simp only
  rw[oB,I0 (by omega),oB,e,oB,V2 (show l<1000 by omega) (by omega),nwA,←List.append_assoc]
  exact k
theorem O0t{n r:Int}(a:1<=n/\n<=40)(b:1<=r/\r<=3):IntKind.i64.wrap (n*r)=n*r:=by
 have:r=1∨r=2∨r=3:=by omega
 rcases this with rfl|rfl|rfl<;>exact w64 (by omega) (by omega)
theorem Z0m(g:l0)(l:g.2.2.length<=1099511627776):d8 g=some (O03 g):=by
 have d:=A8 g (by omega)
 have k:=L9 g (by omega)
 unfold O03
 cases hf:F0 g with
 |false =>
  rw[hf]at d
  obtain⟨a,b,c⟩:=g
  unfold d8
  simp only[d,oB,Bool.not_false,cond_true,if_true,Bool.false_and,cond_false]
 |true =>
  rw[hf]at d
  obtain⟨n,i,j,o⟩:=S0 hf
  have e:=c0t hf g.1 g.2.1 g.1.toNat 1 W0 g.2.2 (by omega) (by omega) (F1 (by omega)) (by omega)
  rw[show((1:Nat):Int)=1 from rfl]at e
  have h:=O0t j i
  have m:=D0o hf g.1.toNat 1
  have f:=H08 (g.2.2++nwA g g.1.toNat 1) (by rw[List.length_append];omega)
  rw[D0f (C02 (T1 hf))]at f
  unfold r01
  obtain⟨a,b,c⟩:=g
  simp only at h e i j f ⊢
  unfold d8
  simp only[d,oB,Bool.not_true,cond_false,h,Bool.true_and]
  by_cases c1:b*a<=120
  ·rw[if_neg (by simp only[decide_eq_true_eq];omega),decide_eq_true c1,k]
   simp only[oB,e,f,cond_true]
  ·rw[if_pos (by simp only[decide_eq_true_eq];omega),decide_eq_false c1];rfl
theorem S05{g:l0}{e:K0}:e∈(r01 g).2.2↔e∈g.2.2∨∃ j:Nat,(1<=j/\j<1+g.1.toNat)/\e∈Y0m g (j:Int):=by
 unfold r01
 simp only
 rw[C4 L3,C0o]
theorem l07{g:l0}{j:Nat}{e:K0}(h:e∈Y0m g (j:Int)):e.2.1=(j:Int)/\(∃ i:Nat,(O04 g (j:Int) g.2.1.toNat 0)[i]?=some e.1/\(O04 g (-(j:Int)) g.2.1.toNat 0)[i]?=some e.2.2) /\
  ((0<=e.1/\e.1.toNat<g.2.1.toNat)/\Q0 g e.1 (j:Int)<0)/\((0<=e.2.2/\e.2.2.toNat<g.2.1.toNat)/\Q0 g e.2.2 (-(j:Int))<0):=by
 obtain⟨l,i,c,d⟩:=J0l _ _ _ _ h
 obtain⟨a,m,n,f⟩:=j07.1 (List.mem_of_getElem? c)
 obtain⟨b,o,p,k⟩:=j07.1 (List.mem_of_getElem? d)
 exact⟨l,⟨i,c,d⟩,⟨by omega,f⟩,⟨by omega,k⟩⟩
theorem L0l{l:List Int}(h:l.Nodup){i j:Nat}{x:Int}(f:l[i]?=some x)(g:l[j]?=some x):i=j:=by
 obtain⟨d,a⟩:=List.getElem?_eq_some_iff.1 f
 obtain⟨e,b⟩:=List.getElem?_eq_some_iff.1 g
 rcases Nat.lt_trichotomy i j with c|c|c
 ·exact absurd (a.trans b.symm) (List.pairwise_iff_getElem.1 h i j d e c)
 ·exact c
 ·exact absurd (b.trans a.symm) (List.pairwise_iff_getElem.1 h j i e d c)
theorem R0b{a b:K0}(c:a.1=b.1)(d:a.2.1=b.2.1)(e:a.2.2=b.2.2):a=b:=by
 obtain⟨f,g,h⟩:=a
 obtain⟨i,j,k⟩:=b
 simp only at c d e
 rw[c,d,e]
theorem E0o{g:l0}(hf:F0 g=true){a b:K0}(d:a∈(r01 g).2.2)(e:b∈(r01 g).2.2)(f:a.2.1=b.2.1)(l:a.1=b.1∨a.2.2=b.2.2):a=b:=by
 obtain⟨p,z,A,B⟩:=S0 hf
 rcases S05.1 d with d|⟨i,u,d⟩<;>rcases S05.1 e with e|⟨j,v,e⟩
 ·have c:=L8 hf d
  have o:=L8 hf e
  rw[f]at c
  rcases l with h|h
  ·rw[h]at c
   exact R0b h f (c.1.symm.trans o.1)
  ·rw[h]at c
   exact R0b (c.2.symm.trans o.2) f h
 ·have c:=L8 hf d
  have t:=p a d
  obtain⟨k,_,f3,q⟩:=l07 e
  rw[f,k]at c
  rcases l with h|h
  ·rw[h]at c;omega
  ·rw[h]at c;omega
 ·have c:=L8 hf e
  have t:=p b e
  obtain⟨k,_,f3,q⟩:=l07 d
  rw[←f,k]at c
  rcases l with h|h
  ·rw[←h]at c;omega
  ·rw[←h]at c;omega
 ·obtain⟨k,⟨x,f2,f3⟩,_,_⟩:=l07 d
  obtain⟨w,⟨y,m,n⟩,_,_⟩:=l07 e
  have s:i=j:=by omega
  subst s
  rcases l with h|h
  ·rw[h]at f2
   have:=L0l (S07 _ _ _ _) f2 m
   subst this
   rw[f3]at n
   exact R0b h f (oJ n)
  ·rw[h]at f3
   have:=L0l (S07 _ _ _ _) f3 n
   subst this
   rw[f2]at m
   exact R0b (oJ m) f h
theorem z0j{g:l0}(hf:F0 g=true):inG (r01 g):=λe a=>by
 obtain⟨b,h,j,k⟩:=S0 hf
 rcases S05.1 a with a|⟨i,f,a⟩
 ·exact b e a
 ·obtain⟨c,_,f3,d⟩:=l07 a
  show(0<=e.1/\e.1<g.2.1)/\(0<=e.2.2/\e.2.2<g.2.1)/\1<=e.2.1/\e.2.1<=g.1
  omega
theorem M0l{g:l0}(hf:F0 g=true):Asc T0 (r01 g).2.2:=I00 L3 _ _ (C02 (T1 hf))
theorem x0r{g:l0}(hf:F0 g=true)(m:g.2.1*g.1<=120):(r01 g).2.2.length<=120:=by
 obtain⟨q,s,t,u⟩:=S0 hf
 have f:=z0j hf
 have n:=i05 (M0l hf)
 have l:((r01 g).2.2.map λe=>e.1*g.1+(e.2.1-1)).Nodup:=by
  rw[List.Nodup,List.pairwise_map]
  refine List.Pairwise.imp_of_mem (λ{a b} h i o e=>?_) n
  have d:(0<=a.1/\a.1<g.2.1)/\(0<=a.2.2/\a.2.2<g.2.1)/\1<=a.2.1/\a.2.1<=g.1:=f a h
  have j:(0<=b.1/\b.1<g.2.1)/\(0<=b.2.2/\b.2.2<g.2.1)/\1<=b.2.1/\b.2.1<=g.1:=f b i
  have c:g.1=1∨g.1=2∨g.1=3:=by omega
  have:a.1=b.1/\a.2.1=b.2.1:=by
   rcases c with c|c|c<;>rw[c]at e d j<;>omega
  exact o (E0o hf h i this.2 (.inl this.1))
 have:=n00 120 _ l λx p=>by
  obtain⟨e,k,rfl⟩:=List.mem_map.1 p
  have d:(0<=e.1/\e.1<g.2.1)/\(0<=e.2.2/\e.2.2<g.2.1)/\1<=e.2.1/\e.2.1<=g.1:=f e k
  have c:g.1=1∨g.1=2∨g.1=3:=by omega
  rcases c with c|c|c<;>rw[c]at m d ⊢<;>omega
 rwa [List.length_map]at this
theorem W08{g:l0}(hf:F0 g=true)(h:g.2.1*g.1<=120):F0 (r01 g)=true:=by
 obtain⟨l,j,k,m⟩:=S0 hf
 have f:U0 (r01 g)=true:=(W00 _).2 ⟨z0j hf,j,k,x0r hf h,M0l hf⟩
 refine(h04 f).2 λa d b e i=>?_
 unfold z03
 cases c:(decide (a.2.1=b.2.1)&&(decide (a.1=b.1) || decide (a.2.2=b.2.2)))with
 |false=>rfl
 |true =>
  simp only[Bool.and_eq_true,Bool.or_eq_true,decide_eq_true_eq]at c
  exact absurd (E0o hf d e c.1 c.2) i
theorem M0p{g:l0}(hf:F0 g=true):c0a (r01 g):=λv o x d=>by
 obtain⟨w,y,z,A⟩:=S0 hf
 have s:0<=v/\v<g.2.1:=S0c (z0j hf) (show(0:Int)<g.2.1 by omega) o
 have d:x∈T6 g.1.toNat 1:=d
 obtain⟨j,t,u,p⟩:=P08 _ _ _ d
 have up:∀ e∈g.2.2,e∈(r01 g).2.2:=λe b=>S05.2 (.inl b)
 rcases A01 g v x with⟨f,_⟩|f
 ·have m:x=(j:Int)∨x = -(j:Int):=p
  have q:=x0j hf (j:Int)
  rcases m with rfl|rfl
  ·have c:v∈O04 g (j:Int) g.2.1.toNat 0:=j07.2 ⟨v.toNat,by omega,by omega,by omega⟩
   obtain⟨i,a⟩:=List.getElem?_of_mem c
   have n:=(List.getElem?_eq_some_iff.1 a).1
   have l:=c5 (show i<(O04 g (-(j:Int)) g.2.1.toNat 0).length by omega)
   exact⟨_,N2.2 ⟨(v,(j:Int),_),S05.2 (.inr ⟨j,by omega,List.mem_of_getElem? (Q0b _ _ _ i _ _ a l)⟩),.inl ⟨by omega,rfl,rfl,rfl⟩⟩⟩
  ·have c:v∈O04 g (-(j:Int)) g.2.1.toNat 0:=j07.2 ⟨v.toNat,by omega,by omega,by omega⟩
   obtain⟨i,a⟩:=List.getElem?_of_mem c
   have n:=(List.getElem?_eq_some_iff.1 a).1
   have k:=c5 (show i<(O04 g (j:Int) g.2.1.toNat 0).length by omega)
   exact⟨_,N2.2 ⟨(_,(j:Int),v),S05.2 (.inr ⟨j,by omega,List.mem_of_getElem? (Q0b _ _ _ i _ _ k a)⟩),.inr ⟨by omega,by simp,rfl,rfl⟩⟩⟩
 ·obtain⟨e,b,h⟩:=N2.1 f
  exact⟨_,N2.2 ⟨e,up e b,h⟩⟩
theorem y0r{g:l0}(hf:F0 g=true)(a:g.2.1*g.1<=120):b03 (Y9 (r01 g))=true:=v0r (W08 hf a) (M0p hf)
def Y6(g:l0)(w:List Int):l0×Bool :=
 bif decide ((A2 g 0 w).2<w.length)then
  (bif(P2 g).2 then N1 (P2 g).1 (A2 g 0 w).1 (w.drop (A2 g 0 w).2) g.2.1 else((0,0,[]),false))
 else(g,true)
theorem a0n{g:l0}(hf:F0 g=true){w:List Int}(s:V1 g.1 w=true):
  ∃ v:Int,J0 v/\J00 g w=some (bif(Y6 g w).2 then((Y6 g w).1,v,true)else((0,0,[]),0,false)):=by
 unfold Y6
 have o:=T1 hf
 obtain⟨e,t,f,H⟩:=S0 hf
 obtain⟨I,G⟩:=z01 s
 have D:∀ x∈w,Y3 x:=λx E=>(G x E).1
 have z:(0:Int)<=0/\(0:Int)<g.2.1:=⟨iR _,by omega⟩
 have l:=c0j g e f.2 (by omega) 0 w D (by omega)
 have p:=R02 g w 0
 have d:=b07 e f.2 w 0 ⟨by omega,by omega⟩
 have m:=g03 (xs:=w) (k:=(A2 g 0 w).2) p
 have A:=V07 o
 have C:=M0b e w 0 z
 have B:=N01 o
 have i:(P2 g).2=true->_:=λh=>B06 (g:=(P2 g).1) (u:=(A2 g 0 w).1) (v:=g.2.1) (w:=w.drop (A2 g 0 w).2) B (by rw[(b05 h).1];simp only;omega) (by rw[(b05 h).1];simp only;omega) (by rw[(b05 h).1];exact P0c s _)
 generalize A2 g 0 w=R at *
 obtain⟨v,n⟩:=R
 obtain⟨a,b,c⟩:=g
 simp only at l d m p C i f ⊢
 unfold J00
 simp only[l,oB]
 rw[I0 d,oB,I0 (show J0 ((n:Nat):Int) from⟨by omega,by omega⟩),oB]
 by_cases c1:n<w.length
 ·refine⟨b,⟨by omega,by omega⟩,?_⟩
  rw[if_neg (by simp only[decide_eq_true_eq];omega),decide_eq_true c1,A]
  simp only[oB,cond_true]
  cases hok:(P2 (a,b,c)).2 with
  |false =>
   generalize P2 (a,b,c)=q at *
   obtain⟨⟨x,y,z⟩,ok⟩:=q
   simp only at hok
   subst hok
   rfl
  |true =>
   have j:=i hok
   generalize P2 (a,b,c)=q at *
   obtain⟨⟨x,y,z⟩,ok⟩:=q
   simp only at hok j
   subst hok
   simp only[Bool.not_true,Bool.false_eq_true,if_false,m,oB,j,cond_true]
   generalize N1 (x,y,z) v (w.drop n) b=t at *
   obtain⟨⟨J,K,L⟩,F⟩:=t
   cases F with
   |false=>rfl
   |true=>rfl
 ·refine⟨v,d,?_⟩
  rw[if_pos (by simp only[decide_eq_true_eq];omega),decide_eq_false c1];rfl
def g01(g:l0)(w:List Int):l0×Bool :=
 bif J1 g&&(V1 g.1 w && !S5 g w)then
  (bif(Y6 g w).2 then(bif(O03 (Y6 g w).1).2 then(t00 (O03 (Y6 g w).1).1,true)else((0,0,[]),false))else((0,0,[]),false))
 else((0,0,[]),false)
theorem z0r{g:l0}(hf:F0 g=true)(w:List Int):(Y6 g w).1.2.2.length<=120:=by
 have a:=T1 hf
 obtain⟨c,d,e,b⟩:=S0 hf
 have h:=Q08 (N01 a) (A2 g 0 w).1 (w.drop (A2 g 0 w).2) g.2.1
 unfold Y6
 cases decide ((A2 g 0 w).2<w.length)with
 |false=>exact b
 |true =>
  cases (P2 g).2 with
  |false=>exact Nat.zero_le _
  |true=>exact h
theorem F0o{g:l0}(h:(O03 g).2=true):U0 (O03 g).1=true/\F0 g=true/\g.2.1*g.1<=120/\O03 g=(r01 g,true):=by
 unfold O03 at h ⊢
 cases c:(F0 g&&decide (g.2.1*g.1<=120))with
 |false=>rw[c]at h;cases h
 |true =>
  rw[Bool.and_eq_true,decide_eq_true_eq]at c
  exact⟨T1 (W08 c.1 c.2),c.1,c.2,rfl⟩
theorem N0p(g:l0)(p:g.2.2.length<=1099511627776)(w:List Int)(n:w.length<=140737488355328):W6 g w=some (g01 g w):=by
 have e:=i9 g (by omega)
 have d:=x01 g.1 w n
 unfold g01
 cases hc:J1 g with
 |false =>
  rw[hc]at e
  obtain⟨a,b,c⟩:=g
  unfold W6 g8
  simp only[e,oB,Bool.not_false,cond_true,if_true,Bool.false_and,cond_false]
 |true =>
  rw[hc]at e
  have hf:=Q2 hc
  cases hwd:V1 g.1 w with
  |false =>
   rw[hwd]at d
   obtain⟨a,b,c⟩:=g
   simp only at d
   unfold W6 g8
   simp only[e,oB,Bool.not_true,Bool.not_false,List.length_singleton,cond_false]
   rw[if_neg (by simp),show W0=9223372036854775807+1 from rfl,R4.eq_2,if_pos (by simp),show gi [w] 0=some w from rfl]
   simp only[oB,d,Bool.not_false,Bool.not_true,G2,cond_true,if_true,B4,Bool.false_and,Bool.and_false,cond_false]
  |true =>
   rw[hwd]at d
   have k:=j0l (r:=g.1) hc hwd
   obtain⟨v,m,l⟩:=a0n hf hwd
   have f:=Z0m (Y6 g w).1 (by have:=z0r hf w;omega)
   have i:(O03 (Y6 g w).1).2=true->_:=λh=>n06 (F0o h).1
   obtain⟨a,b,c⟩:=g
   simp only at d
   unfold W6 g8
   simp only[e,oB,Bool.not_true,Bool.not_false,List.length_singleton,cond_false]
   rw[if_neg (by simp),show W0=9223372036854775806+1+1 from rfl,R4.eq_2,if_pos (by simp),show gi [w] 0=some w from rfl]
   simp only[oB,d,Bool.not_false,Bool.not_true,O1,cond_false,k,Bool.true_and]
   cases S5 (a,b,c) w with
   |true=>rfl
   |false =>
    simp only[Bool.false_eq_true,if_false,Bool.not_false,cond_true]
    rw[R4.eq_2,if_neg (by rw[show IntKind.i64.wrap (0+1)=1 by decide];simp)]
    simp only[oB,Y0]
    rw[Q5.eq_2,if_pos (by simp),show gi [w] 0=some w from rfl]
    simp only[oB,l]
    generalize Y6 (a,b,c) w=q at *
    obtain⟨⟨x,y,z⟩,ok⟩:=q
    cases ok with
    |false =>
     simp only[cond_false]
     rw[I0 (show J0 0 from⟨by omega,by omega⟩)];rfl
    |true =>
     simp only[cond_true]
     rw[I0 m]
     simp only[oB,Bool.not_true,Bool.false_eq_true,if_false]
     rw[Q5.eq_2,if_neg (by rw[show IntKind.i64.wrap (0+1)=1 by decide];simp)]
     simp only[oB,Y0]at f i ⊢
     rw[f]
     generalize O03 (x,y,z)=q2 at *
     obtain⟨⟨s,t,u⟩,o⟩:=q2
     cases o with
     |false=>rfl
     |true =>
      have j:=i rfl
      simp only[oB,Bool.not_true,Bool.false_eq_true,if_false,cond_true]at j ⊢
      rw[j];rfl
theorem Rd.app{x:l0}:∀ {a b:List Int} {u v z:Int},Rd x u a v->Rd x v b z->Rd x u (a++b) z
 | [],b,u,v,z,h,k=>by
  obtain rfl:u=v:=h
  exact k
 |l::a,b,u,v,z,⟨y,c,h⟩,k=>⟨y,c,Rd.app h k⟩
theorem o0g(g:l0):∀(w:List Int) (v:Int) (x:Int) (r:List Int),w.drop (A2 g v w).2=x::r->Q0 g (A2 g v w).1 x<0
 | [],v,x,r,h=>by simp[A2]at h
 |y::w,v,x,r,h=>by
  unfold A2 at h ⊢
  by_cases c:Q0 g v y<0
  ·rw[if_pos c]at h ⊢
   have h:y::w=x::r:=h
   rw[←(List.cons.inj h).1];exact c
  ·rw[if_neg c]at h ⊢
   exact o0g g w _ x r h
theorem O0p(g:l0)(w:List Int):rdw g 0 (w.take (A2 g 0 w).2)=some (A2 g 0 w).1:=by
 have a:=R02 g w 0
 refine(K0c _ _ _ _).2 ?_
 rw[V0f,List.length_take]
 exact⟨by omega,rfl⟩
def NC(es:List K0):Prop:=∀ a∈es,∀ b∈es,a≠b->z03 a b=false
theorem A0r{es:List K0}{u x z:Int}(h0:x≠0)(h:NC es)(q:∀ e∈es,e.1≠z/\e.2.2≠z)(m:∀ y,stp u x y ∉ es):NC (stp u x z::es):=by
 have n:∀ b∈es,z03 (stp u x z) b=false:=λb f=>by
  refine Bool.eq_false_iff.2 λd=>?_
  unfold z03 at d
  simp only[Bool.and_eq_true,Bool.or_eq_true,decide_eq_true_eq]at d
  have i:=q b f
  obtain⟨o,s,p⟩:=b
  unfold stp at d
  by_cases c:x<0
  ·rw[if_pos c]at d
   simp only at d i
   rcases d.2 with e|e
   ·exact i.1 e.symm
   ·refine m o ?_
    unfold stp
    rw[if_pos c,d.1,e];exact f
  ·rw[if_neg c]at d
   simp only at d i
   rcases d.2 with e|e
   ·refine m p ?_
    unfold stp
    rw[if_neg c,d.1,e];exact f
   ·exact i.2 e.symm
 intro a g b f l
 rcases List.mem_cons.1 g with k|g
 ·rcases List.mem_cons.1 f with j|f
  ·exact absurd (k.trans j.symm) l
  ·rw[k];exact n b f
 ·rcases List.mem_cons.1 f with j|f
  ·rw[j,r09];exact n a g
  ·exact h a g b f l
theorem b0n{a b:List K0}(h:NC a)(c:∀ e∈b,e∈a):NC b:=λx d y g f=>h x (c x d) y (c y g) f
theorem N0l{u x z:Int}:((stp u x z).1=u/\(stp u x z).2.2=z)∨((stp u x z).1=z/\(stp u x z).2.2=u):=by
 unfold stp
 split
 ·exact .inr ⟨rfl,rfl⟩
 ·exact .inl ⟨rfl,rfl⟩
theorem G0o{v:Int}:∀(w:List Int) (u n:Int) (es:List K0),NC es->(∀ x∈w,x≠0)->Rdc w->(∀ e∈es,(e.1≠v/\e.2.2≠v)/\e.1<n/\e.2.2<n)->v<n->u<n->u≠v->(∀ x r,w=x::r->∀ y,stp u x y ∉ es)->NC (es++Z00 v w u n)
 | [],u,n,es,h,_,_,_,_,_,_,_=>by
  show NC (es ++ [])
  rw[List.append_nil];exact h
 | [x],u,n,es,h,h0,_,f,p,m,o,i=>by
  refine b0n (A0r (z:=v) (h0 x mS) h (λe d=>(f e d).1) (i x [] rfl)) λe d=>?_
  rcases List.mem_append.1 d with d|d
  ·exact mC _ d
  ·obtain rfl:e=stp u x v:=by simpa [Z00] using d
   exact mS
 |x::y::r,u,n,es,h,h0,j,f,p,m,o,i=>by
  have k:=A0r (z:=n) (h0 x mS) h (λe d=>by have:=f e d;omega) (i x (y::r) rfl)
  have l:=G0o (v:=v) (y::r) n (n+1) (stp u x n::es) k (λz s=>h0 z (mC _ s)) j.2 (λe d=>?_) (by omega) (by omega) (by omega) (λz t e q g=>?_)
  ·refine b0n l λe d=>?_
   rcases List.mem_append.1 d with d|d
   ·exact List.mem_append.2 (.inl (mC _ d))
   ·rcases List.mem_cons.1 (show e∈stp u x n::Z00 v (y::r) n (n+1) from d)with d|d
    ·rw[d];exact List.mem_append.2 (.inl mS)
    ·exact List.mem_append.2 (.inr d)
  ·rcases List.mem_cons.1 d with d|d
   ·rw[d]
    rcases N0l (u:=u) (x:=x) (z:=n)with⟨a,b⟩|⟨a,b⟩<;>rw[a,b]<;>omega
   ·have:=f e d
    omega
  ·obtain⟨rfl,rfl⟩:=List.cons.inj e
   rcases List.mem_cons.1 g with g|g
   ·rcases S0h g with⟨a,b,c⟩|⟨a,b,c⟩
    ·omega
    ·exact j.1 a
   ·have:=f _ g
    rcases N0l (u:=n) (x:=y) (z:=q)with⟨a,b⟩|⟨a,b⟩<;>rw[a,b]at this<;>omega
theorem B0r{g:l0}(hf:F0 g=true):(g.2.2.length:Int)<=g.2.1*g.1:=by
 obtain⟨h,s,t,u⟩:=S0 hf
 have o:=i05 (C02 (T1 hf))
 have n:=(h04 (T1 hf)).1 hf
 have c:g.1=1∨g.1=2∨g.1=3:=by omega
 have m:(g.2.2.map λe=>e.1*g.1+(e.2.1-1)).Nodup:=by
  rw[List.Nodup,List.pairwise_map]
  refine List.Pairwise.imp_of_mem (λ{a b} i j p e=>?_) o
  have d:=h a i
  have k:=h b j
  have:a.1=b.1/\a.2.1=b.2.1:=by
   rcases c with c|c|c<;>rw[c]at e d k<;>omega
  have f:=n a i b j p
  unfold z03 at f
  rw[decide_eq_true this.2,decide_eq_true this.1]at f
  cases f
 have:=n00 (g.2.1*g.1).toNat _ m λx q=>by
  obtain⟨e,l,rfl⟩:=List.mem_map.1 q
  have d:=h e l
  rcases c with c|c|c<;>rw[c]at d ⊢<;>omega
 rw[List.length_map]at this
 have h0:0<=g.2.1*g.1:=by rcases c with c|c|c<;>rw[c]<;>omega
 omega
theorem c0n{g:l0}(hf:F0 g=true){w:List Int}(f:S5 g w=false)(h:(Y6 g w).2=true):
  V08 g (Y6 g w).1 id/\(Y6 g w).1.1=g.1/\∃ n,n≠0/\Rd (Y6 g w).1 0 w n:=by
 obtain⟨p,q,s,t⟩:=S0 hf
 have i:=O0p g w
 have o:=R02 g w 0
 unfold Y6 at h ⊢
 cases hc:decide ((A2 g 0 w).2<w.length)with
 |false =>
  rw[cond_false]
  refine⟨⟨λv h0 a=>⟨h0,a⟩,λe b=>b⟩,rfl,(A2 g 0 w).1,λc=>?_,?_⟩
  ·have d:(A2 g 0 w).2=w.length:=by
    have:=of_decide_eq_false hc
    omega
   unfold S5 at f
   rw[decide_eq_true d,decide_eq_true c]at f
   cases f
  ·have d:(A2 g 0 w).2=w.length:=by
    have:=of_decide_eq_false hc
    omega
   rw[d,List.take_length]at i
   exact Rd.of i
 |true =>
  rw[hc]at h
  rw[cond_true]at h ⊢
  cases ha:(P2 g).2 with
  |false=>rw[ha]at h;cases h
  |true =>
   rw[ha]at h
   rw[cond_true]at h ⊢
   rw[(b05 ha).1]at h ⊢
   have a:=f0i h
   have k:=x0o h
   have j:V08 g (N1 (g.1,g.2.1+1,g.2.2) (A2 g 0 w).1 (w.drop (A2 g 0 w).2) g.2.1).1 id:=by
    refine⟨λv m u=>?_,λe b=>a.edge e b⟩
    exact a.rng v m (by show v<g.2.1+1;omega)
   refine⟨j,K03 _ _ _ _,g.2.1,by omega,?_⟩
   have l:Rd (N1 (g.1,g.2.1+1,g.2.2) (A2 g 0 w).1 (w.drop (A2 g 0 w).2) g.2.1).1 0 (w.take (A2 g 0 w).2) (A2 g 0 w).1:=Rd.mono (x:=g) (λe b=>a.edge e b) (Rd.of i)
   have:=l.app k
   rwa [List.take_append_drop]at this
theorem H0o{g:l0}{w:List Int}(h:(g01 g w).2=true):J1 (g01 g w).1=true/\(g01 g w).1.1=g.1/\S5 (g01 g w).1 w=false/\S5 g w=false/\∀ u,S5 g u=true->S5 (g01 g w).1 u=true:=by
 unfold g01 at h ⊢
 cases hc:(J1 g&&(V1 g.1 w && !S5 g w))with
 |false=>rw[hc]at h;cases h
 |true =>
  rw[hc]at h
  rw[cond_true]at h ⊢
  simp only[Bool.and_eq_true,Bool.not_eq_true']at hc
  cases hh:(Y6 g w).2 with
  |false=>rw[hh]at h;cases h
  |true =>
   rw[hh]at h
   rw[cond_true]at h ⊢
   cases hp:(O03 (Y6 g w).1).2 with
   |false=>rw[hp]at h;cases h
   |true =>
    rw[cond_true]
    have hf:=Q2 hc.1
    obtain⟨q,s,n,x,A⟩:=c0n hf hc.2.2 hh
    obtain⟨_,o,p,D⟩:=F0o hp
    rw[D]
    have a:=W08 o p
    have fin:=y0r o p
    obtain⟨E,c,b,_⟩:=e0g a
    have t:t00 (r01 (Y6 g w).1)=Y9 (r01 (Y6 g w).1):=by
     show Y9 (J5 (r01 (Y6 g w).1)).1=_
     rw[M07 a]
    have f:=R07 (r01 (Y6 g w).1)
    have i:(0:Int)<(Y9 (r01 (Y6 g w).1)).2.1:=by
     have:=S0 c.fc
     omega
    have m:∀ e∈(Y6 g w).1.2.2,e∈(r01 (Y6 g w).1).2.2:=λe d=>S05.2 (.inl d)
    show J1 (t00 (r01 (Y6 g w).1))=true/\(t00 (r01 (Y6 g w).1)).1=g.1/\S5 (t00 (r01 (Y6 g w).1)) w=false/\S5 g w=false/\∀ u,S5 g u=true->S5 (t00 (r01 (Y6 g w).1)) u=true
    rw[t]
    refine⟨i04 a,by rw[f];exact s,?_,hc.2.2,λu B=>?_⟩
    ·obtain⟨z,j,k,l⟩:=g0g c f a (z0o fin) (iR _) i (by rw[b];exact(A.mono m).rdw a)
     refine Bool.eq_false_iff.2 λv=>?_
     have:=(j05 _ _).1 v
     rw[k]at this
     obtain rfl:=oJ this
     exact x (by rw[←l,b])
    ·have C:=((Rd.of ((j05 _ _).1 B)).mono (y:=(Y6 g w).1) λe d=>q.edge e d).mono m
     obtain⟨z,j,k,l⟩:=g0g c f a (z0o fin) (iR _) i (by rw[b];exact C.rdw a)
     refine(j05 _ _).2 ?_
     rw[k,c.inj z 0 j.1 j.2 (iR _) i (by rw[l,b])]
theorem P0t{g:l0}{w:List Int}(q:J1 g=true)(o:V1 g.1 w=true)(H:S5 g w=false)(L:g.2.1+(w.length:Int)<=40)(l:(g.2.1+(w.length:Int))*g.1<=120):(g01 g w).2=true:=by
 have hf:=Q2 q
 have s:=T1 hf
 obtain⟨D,O,P,Q⟩:=S0 hf
 obtain⟨S,T⟩:=z01 o
 have a:g.1=1∨g.1=2∨g.1=3:=by omega
 have t:=R02 g w 0
 have F:=B0r hf
 have fin:∀ x:l0,F0 x=true->x.2.1*x.1<=120->(O03 x).2=true:=λx p J=>by
  unfold O03
  rw[p,decide_eq_true J];rfl
 have C:(Y6 g w).2=true/\(O03 (Y6 g w).1).2=true:=by
  unfold Y6
  cases i:decide ((A2 g 0 w).2<w.length)with
  |false =>
   rw[cond_false]
   refine⟨rfl,fin g hf ?_⟩
   rcases a with a|a|a<;>rw[a]at l ⊢<;>omega
  |true =>
   have i:=of_decide_eq_true i
   rw[cond_true]
   have m:(P2 g).2=true:=by
    unfold P2
    rw[decide_eq_true (by omega)];rfl
   rw[m,cond_true,(b05 m).1]
   have n:=M0b D w 0 ⟨iR _,by omega⟩
   have j:=o0g g w 0
   have h:(w.drop (A2 g 0 w).2).length=w.length-(A2 g 0 w).2:=List.length_drop ..
   have f:=P0c o (A2 g 0 w).2
   generalize A2 g 0 w=R at n j h f t i ⊢
   obtain⟨v,k⟩:=R
   simp only at n j h f t i ⊢
   have E:U0 (g.1,g.2.1+1,g.2.2)=true:=by
    have:=N01 s
    rwa [(b05 m).1]at this
   generalize w.drop k=d at j h f
   have z:d≠[]:=λc=>by rw[c]at h;simp at h;omega
   have A:(N1 (g.1,g.2.1+1,g.2.2) v d g.2.1).2=true:=by
    unfold N1
    rw[show(!d.isEmpty&&decide ((g.1,g.2.1+1,g.2.2).2.1+(d.length:Int)-1<=40)&&decide ((g.1,g.2.1+1,g.2.2).2.2.length+d.length<=120))=true by
     simp only[Bool.and_eq_true,decide_eq_true_eq,Bool.not_eq_true',List.isEmpty_eq_false_iff]
     refine⟨⟨z,by omega⟩,?_⟩
     rcases a with a|a|a<;>rw[a]at l F<;>omega]
    rfl
   refine⟨A,?_⟩
   have B:=(j0e A).2
   have G:=X01 E (u:=v) (v:=g.2.1) (w:=d) ⟨n.1,by show v<g.2.1+1;omega⟩ ⟨by omega,by show g.2.1<g.2.1+1;omega⟩ f
   refine fin _ ((h04 G).2 ?_) ?_
   ·rw[B]
    have K:=G0o (v:=g.2.1) d v (g.2.1+1) g.2.2 ((h04 s).1 hf) (λx p=>((z01 f).2 x p).2.1) (E0l f) (λe b=>by have:=D e b;omega) (by omega) (by omega) (by omega) (λx r e y I=>by
     have M:=j x r e
     have N:=A0l hf I
     omega)
    refine b0n K λe b=>?_
    rcases(C4 L3 _ _ _).1 b with b|b
    ·exact List.mem_append.2 (.inl b)
    ·exact List.mem_append.2 (.inr b)
   ·rw[B]
    show(g.2.1+1+((d.length-1:Nat):Int))*g.1<=120
    have:0<d.length:=List.length_pos_iff.2 z
    rcases a with a|a|a<;>rw[a]at l ⊢<;>omega
 unfold g01
 rw[q,o,H,C.1,C.2];rfl
theorem p0g:∀(d:Nat) (g:l0),(R6 d g).1=g.1
 |0,g=>rfl
 |d+1,g=>by
  unfold R6
  cases F7 g with
  |none=>rfl
  |some k=>exact p0g d _
theorem q0g{g:l0}(a:U0 g=true):J1 (t00 g)=true:=i04 (i02 a)
theorem r0g:∀(n:Nat) (g:l0),(u00 n g).1.1=g.1
 |0,g=>rfl
 |n+1,g=>by
  unfold u00
  cases H5 g.2.2 with
  |nil=>rfl
  |cons f r=>exact r0g n _
theorem d0n(g:l0):(t00 g).1=g.1:=by
 show(R6 40 (J5 g).1).1=g.1
 rw[p0g]
 unfold J5
 cases U0 g
 ·rfl
 ·exact r0g 40 g
theorem s0g:∀(ws:List (List Int)) (g:l0),(Z03 ws g).1=g.1
 | [],g=>rfl
 |w::ws,g=>by
  show(Z03 ws (N1 g 0 w 0).1).1=g.1
  rw[s0g ws,K03]
theorem t0g{r:Int}{ws:List (List Int)}(h:(Y2 r ws).2=true):J1 (Y2 r ws).1=true/\(Y2 r ws).1.1=r:=by
 unfold Y2 at h ⊢
 cases hA:O3 r ws
 ·rw[hA]at h;cases h
 ·rw[cond_true]
  exact⟨q0g (O05 hA),by show(t00 _).1=r;rw[d0n,s0g]⟩
def X08(g:l0)(w:List Int):l0×Bool:=bif J1 g&&V1 g.1 w then
 (bif decide (((w.length:Nat):Int)=0)then(g,true)else(bif(N1 g 0 w 0).2 then(t00 (N1 g 0 w 0).1,true)else((0,0,[]),false)))else((0,0,[]),false)
theorem e0n{g:l0}(d:J1 g=true){w:List Int}(e:V1 g.1 w=true)(m:w.length<=140737488355328):Q01 g w=some (X08 g w):=by
 obtain⟨n,o,p⟩:=T08 d
 have i:=T1 (E02 d)
 have j:=i9 g (by omega)
 have f:=x01 g.1 w m
 have k:=L9 g (by omega)
 have l:=A0d i e
 have h:=n06 (X01 i (u:=0) (v:=0) (w:=w) ⟨iR _,by omega⟩ ⟨iR _,by omega⟩ e)
 unfold X08
 rw[d,e]at *
 generalize N1 g 0 w 0=q at *
 obtain⟨s,t,x⟩:=g
 obtain⟨⟨a,b,c⟩,ok⟩:=q
 unfold Q01
 simp only at f h
 simp only[j,f,k,l,oB,O1,Bool.not_true,Bool.not_false,cond_false,cond_true,Bool.false_eq_true,if_false,Bool.and_self]
 cases decide (((w.length:Nat):Int)=0)
 ·simp only[Bool.false_eq_true,if_false,cond_false]
  cases ok
  ·simp
  ·simp only[Bool.not_true,Bool.false_eq_true,if_false,cond_true,h,oB]
 ·simp
def U04:L04×Bool:=((0,0,[],[],[],(0,0,[]),0),false)
def x03(k r:Int)(l:List (List Int))(w:List Int):L04×Bool :=
 bif(Y2 r l).2&&V1 r w then
  (bif decide (k=1)then(bif(P07 (Y2 r l).1 w).2 then((k,r,l,w,(P07 (Y2 r l).1 w).1,(Y2 r l).1,0),true)else U04)
  else bif decide (k=2)then(bif(g01 (Y2 r l).1 w).2 then((k,r,l,w,[],(g01 (Y2 r l).1 w).1,0),true)else U04)
  else bif decide (k=3)then(bif(X08 (Y2 r l).1 w).2&&l06 (Y2 r l).1 (X08 (Y2 r l).1 w).1 then((k,r,l,w,[],(X08 (Y2 r l).1 w).1,0),true)else U04)
  else bif decide (k=4)then(bif(e01 (Y2 r l).1 w).2 then((k,r,l,w,[],(e01 (Y2 r l).1 w).1,0),true)else U04)
  else bif decide (k=5)then(bif decide (N03 (Y2 r l).1=((l.length:Nat):Int))then((k,r,l,w,[],(Y2 r l).1,N03 (Y2 r l).1),true)else U04)
  else bif decide (k=6)then(bif decide (w03 (Y2 r l).1>0)then((k,r,l,w,[],(Y2 r l).1,w03 (Y2 r l).1),true)else U04)
  else U04)else U04
theorem C0r(a b:l0):l06 a b=l06 b a:=decide_eq_decide.2 ⟨Eq.symm,Eq.symm⟩
theorem u0g(k r:Int)(l:List (List Int))(w:List Int)(T:l.length<=1048576)(F:∀ x∈l,x.length<=1048576)(G:V8 l)(U:w.length<=1048576):i00 k r l w=some (x03 k r l w):=by
 have p:=L0u l (by omega) (λx j=>by have:=F x j;omega)
 have o:=d0t (a:=w) (by omega)
 have s:=N0c r l (by omega) G
 have f:=x01 r w (by omega)
 have D:=λh => @t0g r l h
 unfold x03 i00
 simp only[s,oB]
 generalize Y2 r l=q at *
 obtain⟨g,ok⟩:=q
 cases ok
 ·obtain⟨b,c,d⟩:=g
  simp[G2,U04]
 have n:=D rfl
 simp only at n
 cases hW:V1 r w
 ·obtain⟨b,c,d⟩:=g
  rw[hW]at f
  simp[O1,f,U04]
 obtain⟨e,E⟩:=n
 have i:V1 g.1 w=true:=by rw[E];exact hW
 obtain⟨Q,R,S⟩:=T08 e
 have t:=l0r e i
 have f2:=N0p g (by omega) w (by omega)
 have f3:=e0n e i (by omega)
 have y:=W0f g (by omega) w (by omega)
 have z:=X0f g (by omega)
 have A:=b0a g (by omega)
 have H:=q0o g
 have I:=s0l g
 have B:∀ x:l0,x.2.2.length<=9223372036854775807->B6 x g=some (l06 g x):=λx j=>by rw[C0r];exact A0c x g j
 have C:(X08 g w).1.2.2.length<=9223372036854775807:=by
  unfold X08
  rw[e,i]
  cases decide (((w.length:Nat):Int)=0)
  ·cases (N1 g 0 w 0).2
   ·simp
   ·simp only[Bool.and_self,cond_true,cond_false]
    have:=T08 (q0g (X01 (T1 (E02 e)) (u:=0) (v:=0) (w:=w) ⟨iR _,by omega⟩ ⟨iR _,by omega⟩ i))
    omega
  ·simp only[Bool.and_self,cond_true];omega
 have m:=B _ C
 rw[hW]at f
 obtain⟨b,c,d⟩:=g
 generalize P07 (b,c,d) w=a1 at *
 generalize g01 (b,c,d) w=a2 at *
 generalize X08 (b,c,d) w=a3 at *
 generalize e01 (b,c,d) w=a4 at *
 generalize N03 (b,c,d)=a5 at *
 generalize w03 (b,c,d)=a6 at *
 obtain⟨V,N⟩:=a1
 obtain⟨⟨W,s1,s2⟩,O⟩:=a2
 obtain⟨⟨J,K,L⟩,M⟩:=a3
 obtain⟨⟨X,Y,Z⟩,P⟩:=a4
 simp only at m
 simp only[O1,o,p,f,oB,Bool.not_true,Bool.not_false,cond_false,cond_true,Bool.false_eq_true,if_false,Bool.and_self,t,f2,f3,y,z,A,m,I0 H,I0 I]
 cases decide (k=1)<;>simp only[Bool.false_eq_true,if_false,if_true,cond_false,cond_true,oB]
 ·cases decide (k=2)<;>simp only[Bool.false_eq_true,if_false,if_true,cond_false,cond_true,oB]
  ·cases decide (k=3)<;>simp only[Bool.false_eq_true,if_false,if_true,cond_false,cond_true,oB]
   ·cases decide (k=4)<;>simp only[Bool.false_eq_true,if_false,if_true,cond_false,cond_true,oB]
    ·cases decide (k=5)<;>simp only[Bool.false_eq_true,if_false,if_true,cond_false,cond_true,oB]
     ·cases decide (k=6)<;>simp only[Bool.false_eq_true,if_false,if_true,cond_false,cond_true,oB,Bool.not_false,U04]
      cases decide (a6>0)<;>rfl
     ·cases decide (a5=((l.length:Nat):Int))<;>rfl
    ·cases P<;>rfl
   ·cases M
    ·rfl
    ·simp only[O1,oB,cond_true,Bool.true_and]
     cases l06 (b,c,d) (J,K,L)<;>rfl
  ·cases O<;>rfl
 ·cases N<;>rfl
def okQ(bs:List Int)(q:Int×Int):Prop:=0<=q.1/\q.1<=(bs.length:Int)/\bs.length<=1048576
def Drw{a:Type}(bs:List Int)(o:Option (a×(Int×Int)))(p:a->Prop):Prop:=∃ x q,o=some (x,q)/\p x/\okQ bs q
theorem Drw.bind{a b:Type}{bs:List Int}{m:Option (a×(Int×Int))}{p:a->Prop}{r:b->Prop}{k:a×(Int×Int)->Option (b×(Int×Int))}(h:Drw bs m p)(e:∀ x q,p x->okQ bs q->Drw bs (k (x,q)) r):Drw bs (m.bind k) r:=by
 obtain⟨x,q,rfl,c,d⟩:=h
 exact e x q c d
theorem Drw.grd{a:Type}{bs:List Int}{p:Prop}[Decidable p]{r:a->Prop}{k:Unit->Option (a×(Int×Int))}(h:p)(b:Drw bs (k ()) r):Drw bs ((grd p).bind k) r:=by
 rw[I0 h];exact b
theorem Drw.mono{a:Type}{bs:List Int}{m:Option (a×(Int×Int))}{p r:a->Prop}(h:Drw bs m p)(d:∀ x,p x->r x):Drw bs m r:=by
 obtain⟨x,q,e,b,c⟩:=h
 exact⟨x,q,e,d x b,c⟩
theorem e0t(bs:List Int)(c:bs.length<=1048576):∀(d k fuel:Nat) (y:Int),k+d=bs.length->d<fuel->∃ z,C9 bs fuel y (k:Int)=some z
 |d,k,0,y,a,hf=>by omega
 |0,k,fuel+1,y,a,hf=>by
  rw[C9.eq_2,decide_eq_false (show ¬ (k:Int)<((bs.length:Nat):Int) by omega),cond_false,if_neg (by simp)]
  exact⟨_,rfl⟩
 |d+1,k,fuel+1,y,a,hf=>by
  have b:k<bs.length:=by omega
  rw[C9.eq_2,B3 (c5 b),V2 b (by omega)]
  split
  ·exact e0t bs c d (k+1) fuel _ (by omega) (by omega)
  ·exact⟨_,rfl⟩
theorem r0u{bs:List Int}(a:bs.length<=1048576):∃ q,P03 bs=some q/\okQ bs q:=by
 obtain⟨z,b⟩:=e0t bs a bs.length 0 W0 (IntKind.i64.wrap (10101+((bs.length:Nat):Int))) (by omega) (by unfold W0;omega)
 refine⟨(0,z),?_,iR _,Int.natCast_nonneg _,a⟩
 unfold P03
 rw[show(0:Int)=((0:Nat):Int) from rfl,b];rfl
theorem D0r(a:Int):0<=f0n a 255/\f0n a 255<=255:=by
 have h:(BitVec.ofInt 64 a &&& BitVec.ofInt 64 255).toNat<=255:=by
  rw[BitVec.toNat_and];exact Nat.le_trans Nat.and_le_right (by decide)
 unfold f0n
 rw[w64 (by omega) (by omega)];omega
theorem Q0t{bs:List Int}{q:Int×Int}(g:okQ bs q):Drw bs (l9 bs q) λx=>0<=x/\x<=255:=by
 obtain⟨a,e,b⟩:=g
 unfold l9
 by_cases c:q.1<((bs.length:Nat):Int)
 ·rw[if_pos (decide_eq_true c)]
  obtain⟨k,f⟩:=Int.eq_ofNat_of_zero_le a
  rw[f]at c ⊢
  have d:k<bs.length:=by omega
  rw[B3 (c5 d),oB,V2 d (by omega)]
  exact⟨_,_,rfl,D0r _,by simp only;omega,by simp only;omega,b⟩
 ·rw[if_neg (by simpa using c)]
  exact⟨_,_,rfl,D0r _,a,e,b⟩
theorem B09{bs:List Int}{q:Int×Int}(a:okQ bs q){n:Int}(h0:0<n)(d:n<=256):Drw bs (G7 bs q n) λx=>0<=x/\x<n:=by
 unfold G7
 rw[if_neg (by simp;omega),if_pos (by simp;omega)]
 refine(Q0t a).bind λx e c b => .grd ⟨by omega,by omega⟩ (.grd (by omega) ⟨_,_,rfl,?_,b⟩)
 rw[Int.tmod_eq_emod_of_nonneg c.1]
 exact⟨Int.emod_nonneg _ (by omega),Int.emod_lt_of_pos _ h0⟩
theorem R0t{bs:List Int}{q:Int×Int}(b:okQ bs q){n:Int}(h0:0<n)(a:n<=256):Drw bs (t04 bs q n) λ_=>True :=
 (B09 b h0 a).bind λx e d c => .grd ⟨by omega,by omega⟩ ⟨_,_,rfl,trivial,c⟩
theorem s0u{b:Type}{l:List b}{x:Int}(h0:0<=x)(c:x<((l.length:Nat):Int)):∃ y∈l,gi l x=some y:=by
 obtain⟨k,rfl⟩:=Int.eq_ofNat_of_zero_le h0
 have a:k<l.length:=by omega
 exact⟨l[k],List.getElem_mem a,B3 (c5 a)⟩
theorem n0i{bs:List Int}{q:Int×Int}(b:okQ bs q){l:List Int}(h0:0<l.length)(f:l.length<=256):Drw bs (i01 bs q l) λx=>x∈l :=
 (B09 b (n:=((l.length:Nat):Int)) (by omega) (by omega)).bind λx g a c => .grd ⟨by omega,by omega⟩ (by
  obtain⟨y,d,e⟩:=s0u a.1 a.2
  rw[e];exact⟨_,_,rfl,d,c⟩)
theorem t0u(d:Nat)(h:d<=1048576):IntKind.i64.wrap (((d+1:Nat):Int)-1)=(d:Int):=by rw[w64 (by omega) (by omega)];omega
def N0d(r:Int)(w:List Int):Prop:=∀ x∈w,x≠0 /\ -r<=x/\x<=r
theorem N0d.all{r:Int}(b:r<=256){w:List Int}(h:N0d r w):G0b w:=λx a=>by
 have:=h x a
 exact⟨by omega,by omega⟩
theorem E0r{P:Int->Prop}{b:List Int}{x:Int}(c:∀ y∈b,P y)(d:P x):∀ y∈Q6 b x,P y:=λy a=>by
 unfold Q6 at a
 cases b with
 |nil=>rw[List.mem_singleton.1 a];exact d
 |cons l t =>
  simp only at a
  cases hc:k04 l x with
  |true=>rw[hc]at a;exact c y (mC _ a)
  |false =>
   rw[hc]at a
   rcases List.mem_cons.1 a with rfl|a
   ·exact d
   ·exact c y a
theorem A0j{P:Int->Prop}:∀(w a:List Int),(∀ y∈a,P y)->(∀ y∈w,P y)->∀ y∈o00 a w,P y
 | [],a,b,_=>b
 |x::w,a,b,c=>A0j w (Q6 a x) (E0r b (c x mS)) λy d=>c y (mC _ d)
theorem F0r{bs:List Int}{rank:Int}(h0:0<rank)(h:rank<=256):∀(d fuel:Nat) (acc:List Int) (q:Int×Int),d<fuel->d+acc.length<=1000->N0d rank acc->okQ bs q ->
  Drw bs (n8 bs rank fuel (d:Int) acc q) λw=>N0d rank w/\w.length<=d+acc.length
 |d,0,acc,q,hf,_,_,_=>by omega
 |0,fuel+1,acc,q,hf,l,c,e=>by
  rw[n8.eq_2,if_neg (by simp)]
  exact⟨_,_,rfl,⟨c,by omega⟩,e⟩
 |d+1,fuel+1,acc,q,hf,l,c,e=>by
  rw[n8.eq_2,if_pos (by simp only[decide_eq_true_eq];omega)]
  refine(B09 e h0 h).bind λx s p m => .grd ⟨by omega,by omega⟩ ((R0t m (by decide) (by decide)).bind λb j _ n=>?_)
  have g:∀ y:Int,(y≠0 /\ -rank<=y/\y<=rank)->Drw bs ((grd ((acc.length + [y].length)*8<=140737488355328)).bind λ_=>n8 bs rank fuel (IntKind.i64.wrap (((d+1:Nat):Int)-1)) (acc ++ [y]) j) λw=>N0d rank w/\w.length<=d+1+acc.length:=λy o =>
   .grd (by simp only[List.length_singleton];omega) (by
    rw[t0u d (by omega)]
    refine(F0r h0 h d fuel (acc ++ [y]) j (by omega) (by simp;omega) (λz a=>?_) n).mono λw i=>⟨i.1,by have:=i.2;simp at this;omega⟩
    rcases List.mem_append.1 a with a|a
    ·exact c z a
    ·rw[List.mem_singleton.1 a];exact o)
  have f:IntKind.i64.wrap (1+x)=1+x:=w64 (by omega) (by omega)
  have k:IntKind.i64.wrap (0-IntKind.i64.wrap (1+x)) = -(1+x):=by rw[f,w64 (by omega) (by omega)];omega
  show Drw bs (if b=true then _ else _) _
  cases b
  ·rw[if_neg (by simp)];exact g _ (by rw[f];omega)
  ·rw[if_pos rfl];exact g _ (by rw[k];omega)
theorem z0s{bs:List Int}{q:Int×Int}(e:okQ bs q){rank most:Int}(h0:0<rank)(c:rank<=256)(j:0<=most)(k:most<=200):Drw bs (y03 bs q rank most) λw=>N0d rank w/\w.length<=200:=by
 unfold y03
 rw[w64 (x:=most+1) (by omega) (by omega)]
 refine(B09 e (by omega) (by omega)).bind λx i h f => .grd ⟨by omega,by omega⟩ ?_
 obtain⟨d,rfl⟩:=Int.eq_ofNat_of_zero_le h.1
 refine(F0r h0 c d W0 [] i (by unfold W0;omega) (by simp;omega) (λz a=>nomatch a) f).bind λw m b g=>?_
 have l:w.length<=200:=by have:=b.2;simp at this;omega
 show Drw bs ((j4 w).bind _) _
 rw[L02 w (b.1.all c) (by omega),oB]
 refine⟨_,_,rfl,⟨λz a=>A0j w [] (λz a=>nomatch a) b.1 z (by simpa using a),?_⟩,g⟩
 have:=M03 w []
 simp at this ⊢;omega
theorem S0t{bs:List Int}{q:Int×Int}(e:okQ bs q){rank most:Int}(h0:0<rank)(a:rank<=256)(c:0<=most)(d:most<=200):Drw bs (y03 bs q rank most) λw=>G0b w/\w.length<=200 :=
 (z0s e h0 a c d).mono λw b=>⟨b.1.all a,b.2⟩
def B0j(ws:List (List Int)):Prop:=∀ w∈ws,G0b w/\w.length<=200
theorem u0u{bs:List Int}{rank:Int}(h0:0<rank)(e:rank<=256):∀(d fuel:Nat) (acc:List (List Int)) (q:Int×Int),d<fuel->d+acc.length<=1000->B0j acc->okQ bs q ->
  Drw bs (i8 bs rank fuel (d:Int) acc q) λw=>B0j w/\w.length<=d+acc.length
 |d,0,acc,q,hf,_,_,_=>by omega
 |0,fuel+1,acc,q,hf,g,b,c=>by
  rw[i8.eq_2,if_neg (by simp)]
  exact⟨_,_,rfl,⟨b,by omega⟩,c⟩
 |d+1,fuel+1,acc,q,hf,g,b,c=>by
  rw[i8.eq_2,if_pos (by simp only[decide_eq_true_eq];omega)]
  refine(S0t c h0 e (by decide) (by decide)).bind λx j i h => .grd (by simp only[List.length_singleton];omega) ?_
  rw[t0u d (by omega)]
  refine(u0u h0 e d fuel (acc ++ [x]) j (by omega) (by simp;omega) (λz a=>?_) h).mono λw f=>⟨f.1,by have:=f.2;simp at this;omega⟩
  rcases List.mem_append.1 a with a|a
  ·exact b z a
  ·rw[List.mem_singleton.1 a];exact i
theorem A0s{bs:List Int}{q:Int×Int}(c:okQ bs q){rank:Int}(h0:0<rank)(b:rank<=256):Drw bs (q02 bs q rank) λws=>B0j ws/\ws.length<=3:=by
 unfold q02
 refine(B09 c (by decide) (by decide)).bind λx i g e => .grd ⟨by omega,by omega⟩ ?_
 obtain⟨d,rfl⟩:=Int.eq_ofNat_of_zero_le g.1
 refine(u0u h0 b d W0 [] i (by unfold W0;omega) (by simp;omega) (λz h=>nomatch h) e).bind λw j a f=>⟨_,_,rfl,⟨a.1,?_⟩,f⟩
 have:=a.2
 simp at this;omega
def byt(bs:List Int):Prop:=∀ x∈bs,0<=x/\x<256
theorem T0t{bs:List Int}(d:bs.length<=1048576)(h:byt bs){i:Int}(h0:0<=i)(b:i<=1000):∃ v,n04 bs i=some v/\0<=v/\v<256:=by
 unfold n04
 by_cases c:i<((bs.length:Nat):Int)
 ·rw[if_pos (by simpa using c)]
  obtain⟨y,a,e⟩:=s0u h0 c
  have:=h y a
  refine⟨y,?_,this.1,this.2⟩
  rw[e,oB,w64 (by omega) (by omega)]
 ·rw[if_neg (by simpa using c),I0 (by decide),oB,w64 (x:=i*37) (by omega) (by omega),w64 (x:=((bs.length:Nat):Int)*11) (by omega) (by omega),w64 (by omega) (by omega)]
  exact⟨_,rfl,Int.tmod_nonneg _ (by omega),Int.tmod_lt_of_pos _ (by decide)⟩
theorem G0r{bs:List Int}(b:bs.length<=1048576)(h:byt bs){from_ r most:Int}(h0:0<=from_)(p:from_<=100)(t:1<=r/\r<=100)(s:0<=most/\most<=100):∀(d k fuel:Nat) (acc:List Int),(k+d:Int)=most->d<fuel->acc.length=k->N0d r acc ->
  ∃ w,o8 bs from_ most r fuel (k:Int) acc=some w/\N0d r w/\(w.length:Int)<=most
 |d,k,0,acc,q,hf,_,_=>by omega
 |d,k,fuel+1,acc,q,hf,D,j=>by
  obtain⟨v,e,F,G⟩:=T0t b h (i:=from_) h0 (by omega)
  have E:Int.tmod v (most+1)<most+1:=Int.tmod_lt_of_pos _ (by omega)
  rw[o8.eq_2,e,oB,I0 (show J0 v from⟨by omega,by omega⟩),oB,w64 (x:=most+1) (by omega) (by omega),I0 (by omega),oB]
  by_cases c:(k:Int)<Int.tmod v (most+1)
  ·rw[if_pos (by simpa using c)]
   have C:0<d:=by omega
   obtain⟨d,rfl⟩:∃ n,d=n+1:=⟨d-1,by omega⟩
   rw[w64 (x:=from_+1) (by omega) (by omega),w64 (x:=from_+1+(k:Int)) (by omega) (by omega)]
   obtain⟨y,o,A,H⟩:=T0t b h (i:=from_+1+(k:Int)) (by omega) (by omega)
   have I:0<=Int.tmod y r:=Int.tmod_nonneg _ A
   have J:Int.tmod y r<r:=Int.tmod_lt_of_pos _ (by omega)
   have f:IntKind.i64.wrap (1+Int.tmod y r)=1+Int.tmod y r:=w64 (by omega) (by omega)
   have l:IntKind.i64.wrap (0-IntKind.i64.wrap (1+Int.tmod y r)) = -(1+Int.tmod y r):=by rw[f,w64 (by omega) (by omega)];omega
   rw[o,oB,I0 (show J0 y from⟨by omega,by omega⟩),oB,I0 (show r≠0 by omega),oB,I0 (by decide),oB,I0 (by decide),oB,l,f,w64 (x:=(k:Int)+1) (by omega) (by omega)]
   have m:(k:Int)+1=((k+1:Nat):Int):=by omega
   have g:∀ z:Int,(z≠0 /\ -r<=z/\z<=r)->∃ w,((grd ((acc.length + [z].length)*8<=140737488355328)).bind λ_=>o8 bs from_ most r fuel ((k:Int)+1) (acc ++ [z]))=some w/\N0d r w/\(w.length:Int)<=most:=λz B=>by
    rw[I0 (by simp only[List.length_singleton];omega),oB,m]
    refine G0r b h h0 p t s d (k+1) fuel (acc ++ [z]) (by omega) (by omega) (by simp;omega) λu a=>?_
    rcases List.mem_append.1 a with a|a
    ·exact j u a
    ·rw[List.mem_singleton.1 a];exact B
   split
   ·exact g _ (by omega)
   ·exact g _ (by omega)
  ·rw[if_neg (by simpa using c)]
   exact⟨acc,rfl,j,by omega⟩
theorem B0s{bs:List Int}(f:bs.length<=1048576)(h:byt bs){from_ r most:Int}(h0:0<=from_)(c:from_<=100)(i:1<=r/\r<=100)(a:0<=most/\most<=100):∃ u:List Int,I04 bs from_ r most=some (o00 [] u).reverse/\N0d r u/\(u.length:Int)<=most:=by
 obtain⟨d,rfl⟩:=Int.eq_ofNat_of_zero_le a.1
 obtain⟨w,e,b,g⟩:=G0r f h h0 c i a d 0 W0 [] (by omega) (F1 (by omega)) rfl λz j=>by cases j
 refine⟨w,?_,b,g⟩
 have e:o8 bs from_ (d:Int) r W0 0 []=some w:=e
 unfold I04
 rw[e,oB,L02 w (b.all (by omega)) (by omega),oB]
theorem f0t{bs:List Int}(b:bs.length<=1048576)(h:byt bs):∀(d k fuel:Nat) (acc:List Int),k+d=20->d<fuel->acc.length=k->∃ ch,F8 bs fuel (k:Int) acc=some ch
 |d,k,0,acc,c,hf,a=>by omega
 |0,k,fuel+1,acc,c,hf,a=>by
  rw[F8.eq_2,if_neg (by simp only[decide_eq_true_eq];omega)]
  exact⟨_,rfl⟩
 |d+1,k,fuel+1,acc,c,hf,a=>by
  obtain⟨v,e,h0,f⟩:=T0t b h (i:=3*(k:Int)) (by omega) (by omega)
  rw[F8.eq_2,if_pos (by simp only[decide_eq_true_eq];omega),w64 (x:=3*(k:Int)) (by omega) (by omega),e,oB,I0 (show J0 v from⟨by omega,by omega⟩),oB,I0 (by simp only[List.length_singleton];omega),oB,w64 (by omega) (by omega),show(k:Int)+1=((k+1:Nat):Int) by omega]
  exact f0t b h d (k+1) fuel _ (by omega) (by omega) (by simp[a])
theorem U0t{bs:List Int}(p:bs.length<=1048576):∃ r l,g6 bs=some (r,l)/\J0 r/\B0j l/\l.length<=4:=by
 obtain⟨q,e,s⟩:=r0u p
 obtain⟨r,C,f,j,t⟩:=n0i s (l:=[1,2,2,2,3]) (by decide) (by decide)
 have j:1<=r/\r<=3:=(by decide:∀ x∈([1,2,2,2,3]:List Int),1<=x/\x<=3) r j
 obtain⟨l,D,g,d,u⟩:=A0s t (rank:=r) (by omega) (by omega)
 obtain⟨x,E,h,B,v⟩:=B09 u (n:=14) (by decide) (by decide)
 have z:=d.2
 have c:=I0 (show J0 r from⟨by omega,by omega⟩)
 have i:=I0 (show J0 x from⟨by omega,by omega⟩)
 by_cases a:x=0
 ·obtain⟨y,F,o,k,A⟩:=n0i v (l:=[0,1,4]) (by decide) (by decide)
  have k:0<=y/\y<=4:=(by decide:∀ x∈([0,1,4]:List Int),0<=x/\x<=4) y k
  have m:J0 y:=⟨by omega,by omega⟩
  refine⟨y,l,?_,m,d.1,by omega⟩
  unfold g6 F02
  simp only[e,f,g,h,o,oB,c,i,decide_eq_true a,if_true,I0 m]
 ·have a:=decide_eq_false a
  by_cases c1:x=1
  ·refine⟨r,l ++ [[1,-1]],?_,⟨by omega,by omega⟩,λw b=>?_,by simp;omega⟩
   ·unfold g6 F02
    simp only[e,f,g,h,oB,c,i,a,Bool.false_eq_true,if_false,decide_eq_true c1,if_true]
    rw[I0 (by simp only[List.length_singleton];omega),oB]
    simp only[oB,c]
   ·rcases List.mem_append.1 b with b|b
    ·exact d.1 w b
    ·rw[List.mem_singleton.1 b]
     exact⟨by unfold G0b;decide,by decide⟩
  ·refine⟨r,l,?_,⟨by omega,by omega⟩,d.1,by omega⟩
   unfold g6 F02
   simp only[e,f,g,h,oB,c,i,a,Bool.false_eq_true,if_false,decide_eq_false c1]
theorem H0r:∀ {w:List Int} {i:Nat} {x y:Int},Rdc w->w[i]?=some y->w[i+1]?=some x->x ≠ -y
 | [],i,x,y,_,h,_=>by cases h
 | [a],i,x,y,_,_,h=>by simp at h
 |a::b::r,0,x,y,c,h,k=>by
  obtain rfl:=oJ h
  obtain rfl:=oJ k
  exact c.1
 |a::b::r,i+1,x,y,c,h,k=>H0r (w:=b::r) c.2 h k
theorem C0s{r:Int}(l:1<=r/\r<=3){w:List Int}(h:w.length<=24)(c:N0d r w)(g:Rdc w):V1 r w=true:=by
 unfold V1
 rw[show inR 1 3 r=true by simp[inR];omega,decide_eq_true h,O0c λi _ k=>?_]
 ·rfl
 ·have a:=c5 (show i<w.length by omega)
  have d:=c _ (List.mem_of_getElem? a)
  unfold C04
  rw[a]
  simp only
  generalize w[i]=x at a d
  have e:(x == 0)=false:=by simpa using d.1
  have f:inR (-r) r x=true:=by simp[inR];omega
  rw[e,f]
  cases i with
  |zero=>rfl
  |succ i =>
   have b:=c5 (show i<w.length by omega)
   have j:=c _ (List.mem_of_getElem? b)
   have:=H0r g b a
   rw[show i+1-1=i from rfl,b]
   generalize w[i]=y at b j this
   simp only[Bool.not_true,Bool.false_or,Bool.and_eq_false_iff,beq_eq_false_iff_ne]
   refine .inr ?_
   rw[w64 (by omega) (by omega)]
   omega
theorem O0l(g:l0):l06 g g=true:=decide_eq_true rfl
theorem I0r{r:Int}{ws:List (List Int)}:(Y2 r ws).1.2.2.length<=120:=by
 cases h:(Y2 r ws).2 with
 |true=>exact(S0 (Q2 (t0g h).1)).2.2.2
 |false =>
  unfold Y2 at h ⊢
  cases hA:O3 r ws with
  |true=>rw[hA]at h;cases h
  |false=>exact Nat.zero_le _
theorem v0u{r:Int}{l:List (List Int)}{w:List Int}(h:(Y2 r l).2=true)(d:O3 r l=true)(c:V1 r w=true)(e:S5 (Y2 r l).1 w=true):Q07 (1,r,l,w,(P07 (Y2 r l).1 w).1,(Y2 r l).1,0)=true:=by
 obtain⟨a,b⟩:=t0g h
 show R05 1 r l w (P07 (Y2 r l).1 w).1 (Y2 r l).1 0=true
 unfold R05 X07
 rw[d,c,a,b,h,O0l,M0t a (by rw[b];exact c) e,decide_eq_true rfl,if_pos rfl]
 simp[eqW]
theorem V0t{r:Int}{l:List (List Int)}{w:List Int}(h:(Y2 r l).2=true)(a:O3 r l=true)(e:V1 r w=true)(c:(g01 (Y2 r l).1 w).2=true):Q07 (2,r,l,w,[],(g01 (Y2 r l).1 w).1,0)=true:=by
 obtain⟨i,b⟩:=t0g h
 obtain⟨s1,s2,f,_,g⟩:=H0o c
 show R05 2 r l w [] (g01 (Y2 r l).1 w).1 0=true
 unfold R05
 rw[a,e,s1,s2,b,f,decide_eq_true rfl,if_neg (by decide),if_pos rfl,List.all_eq_true.2 λu d=>g u (l0i a u d)]
 rfl
theorem D0s(bs:List Int)(N:byt bs):G02 bs=some true:=by
 rcases Nat.lt_or_ge 1048576 bs.length with s|s
 ·unfold G02 m04
  rw[oB,if_pos (by simp only[decide_eq_true_eq];omega)]
 have K:m04 bs=some false:=by unfold m04;rw[decide_eq_false (by omega)]
 obtain⟨r,l,L,U,F,au⟩:=U0t s
 have c:V8 l:=λw b=>by have:=(F w b).2;omega
 have i:=N0c r l (by omega) c
 have j:=C0p r l (by omega) c
 have f:=w0h (Y2 r l).1 (Y2 r l).1 (by have:=I0r (r:=r) (ws:=l);omega)
 rw[O0l]at f
 cases hS:(Y2 r l).2 with
 |false =>
  generalize Y2 r l=S at i j f hS
  obtain⟨⟨ac,M,ad⟩,ok⟩:=S
  simp only at i j f hS
  subst hS
  unfold G02
  simp only[K,L,i,j,f,I0 U,oB,beq_self_eq_true,Bool.not_true,Bool.not_false,O1,cond_false,Bool.false_eq_true,if_false,if_true]
 |true =>
  have a:O3 r l=true:=by
   unfold Y2 at hS
   cases a:O3 r l with
   |true=>rfl
   |false=>rw[a]at hS;cases hS
  obtain⟨an,aE,ao⟩:=h05 a
  obtain⟨t,V⟩:=t0g hS
  have hf:=Q2 t
  obtain⟨az,aA,aB,aC⟩:=S0 hf
  have O:=O05 a
  have aa:M9 r l=some (Z03 l (r,1,[]),true):=by
   rw[E0b r l (by omega) c]
   unfold K05
   rw[a];rfl
  obtain⟨ch,A⟩:=f0t s N 20 0 W0 [] rfl (F1 (by omega)) rfl
  obtain⟨y,ar,q,ab,ap,Z,aq⟩:=o0u O ch
  have B:=n06 (T1 Z)
  rw[t0r O Z aq ap,show t00 (Z03 l (r,1,[]))=(Y2 r l).1 by unfold Y2;rw[a];rfl]at B
  have C:=U0f t l ao (by omega)
  rw[List.all_eq_true.2 (l0i a)]at C
  obtain⟨u,H,ah,aw⟩:=B0s (r:=r) (most:=6) (from_:=40) s N (by decide) (by decide) (by omega) (by decide)
  have ae:=M03 u []
  simp only[List.length_nil]at ae
  have ai:(o00 [] u).reverse.length<=6:=by rw[List.length_reverse];omega
  have G:N0d r (o00 [] u).reverse:=λx d=>A0j u [] (λy aj=>by cases aj) ah x (List.mem_reverse.1 d)
  have Y:Rdc (o00 [] u).reverse:=U0m (λx d=>by
   have:=G x d
   exact⟨⟨⟨by omega,by omega⟩,by omega⟩,this.1⟩) (by rw[List.reverse_reverse];exact H0b u [] rfl)
  generalize (o00 [] u).reverse=w at H ai G Y
  have b:=C0s an (by omega) G Y
  have g:=u0g 1 r l w (by omega) (λx d=>by have:=(F x d).2;omega) c (by omega)
  have o:=u0g 2 r l w (by omega) (λx d=>by have:=(F x d).2;omega) c (by omega)
  have D:=L0f t b
  have I:x03 1 r l w=bif(P07 (Y2 r l).1 w).2 then((1,r,l,w,(P07 (Y2 r l).1 w).1,(Y2 r l).1,0),true)else U04:=by
   unfold x03
   rw[hS,b];rfl
  have J:x03 2 r l w=bif(g01 (Y2 r l).1 w).2 then((2,r,l,w,[],(g01 (Y2 r l).1 w).1,0),true)else U04:=by
   unfold x03
   rw[hS,b];rfl
  rw[I]at g
  rw[J]at o
  have Q:IntKind.i64.wrap ((Y2 r l).1.2.1+((w.length:Nat):Int))=(Y2 r l).1.2.1+(w.length:Int):=w64 (by omega) (by omega)
  have ag:r=1∨r=2∨r=3:=by omega
  have R:IntKind.i64.wrap (((Y2 r l).1.2.1+(w.length:Int))*r)=((Y2 r l).1.2.1+(w.length:Int))*r:=by
   have af:∀ m:Int,0<=m->m<=100->IntKind.i64.wrap (m*r)=m*r:=λm ax ay=>by
    rcases ag with e|e|e<;>rw[e]<;>exact w64 (by omega) (by omega)
   exact af _ (by omega) (by omega)
  have P:=v0u hS a b
  have T:=V0t hS a b
  have v:S5 (Y2 r l).1 w=true->(g01 (Y2 r l).1 w).2=false:=λh=>by
   unfold g01
   rw[h]
   simp
  have z:S5 (Y2 r l).1 w=false->(g01 (Y2 r l).1 w).2=false->(Y2 r l).1.2.1+(w.length:Int)>40∨((Y2 r l).1.2.1+(w.length:Int))*r>120:=λh k=>by
   by_cases d1:(Y2 r l).1.2.1+(w.length:Int)<=40
   ·by_cases d2:((Y2 r l).1.2.1+(w.length:Int))*r<=120
    ·rw[P0t t (by rw[V];exact b) h d1 (by rw[V];exact d2)]at k
     cases k
    ·exact .inr (by omega)
   ·exact .inl (by omega)
  have W:(P07 (Y2 r l).1 w).2=S5 (Y2 r l).1 w:=by
   unfold P07
   cases S5 (Y2 r l).1 w<;>rfl
  rw[W]at g
  have X:(g01 (Y2 r l).1 w).2=true->(g01 (Y2 r l).1 w).1.2.2.length<=120:=λh=>(S0 (Q2 (H0o h).1)).2.2.2
  have p:S5 (Y2 r l).1 w=true->o6 (1,r,l,w,(P07 (Y2 r l).1 w).1,(Y2 r l).1,0)=some true:=λh=>by
   rw[h07 _ ⟨by show l.length<=_;omega,c,by show w.length<=_;omega,by show(Y2 r l).1.2.2.length<=_;omega⟩,P h]
  have E:(g01 (Y2 r l).1 w).2=true->o6 (2,r,l,w,[],(g01 (Y2 r l).1 w).1,0)=some true:=λh=>by
   have av:=X h
   rw[h07 _ ⟨by show l.length<=_;omega,c,by show w.length<=_;omega,by show(g01 (Y2 r l).1 w).1.2.2.length<=_;omega⟩,T h]
  clear P T X I J W
  have A:F8 bs W0 0 []=some ch:=A
  generalize (P07 (Y2 r l).1 w).1=pf at g p
  generalize g01 (Y2 r l).1 w=sp at o v z E
  obtain⟨⟨aD,s1,s2⟩,am⟩:=sp
  generalize S5 (Y2 r l).1 w=lp at g D v z p
  generalize Y2 r l=S at *
  obtain⟨⟨ac,M,ad⟩,ok⟩:=S
  obtain⟨aF,aG,aH⟩:=y
  simp only at i j f B C g o D v z p E Q R hS
  subst hS
  unfold G02
  simp only[K,L,i,j,f,aa,A,ab,B,C,H,I0 U,oB,beq_self_eq_true,Bool.not_true,Bool.not_false,O1,cond_false,Bool.false_eq_true,if_false,if_true,g,o,D]
  cases lp with
  |true =>
   have:=v rfl
   subst this
   have ak:=p rfl
   simp only[cond_true,cond_false,U04,oB,beq_self_eq_true,Bool.not_true,Bool.not_false,Bool.and_true,Bool.true_and,Bool.and_false,Bool.false_and,O1,G2,ak,Bool.false_eq_true,if_false]
  |false =>
   cases am with
   |true =>
    have al:=E rfl
    simp only[cond_true,cond_false,U04,oB,beq_self_eq_true,Bool.not_true,Bool.not_false,Bool.and_true,Bool.true_and,Bool.and_false,Bool.false_and,O1,G2,al,Bool.false_eq_true,if_false]
   |false =>
    have n:=z rfl rfl
    simp only[cond_true,cond_false,U04,oB,beq_self_eq_true,Bool.not_true,Bool.not_false,Bool.and_true,Bool.true_and,Bool.and_false,Bool.false_and,O1,G2,Bool.false_eq_true,if_false,Q,R]
    rcases n with n|n
    ·rw[decide_eq_true n];rfl
    ·rw[decide_eq_true n]
     cases decide (M+(w.length:Int)>40)<;>rfl
end Go.Proofs.YtmgikbbmpnbbjaaGreat
