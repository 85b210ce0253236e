/- Texts of the claim, joined: Plain laws: what folding does to the maps out of a graph, wh and others. -/
import Derived.Test.YthakcafglempaaaGreatPart36
import Derived.Test.YthakcafglempaaaGreatPart23
import Derived.Test.YthakcafglempaaaGreatH36
import Derived.Test.YthakcafglempaaaGreatPart24
import Derived.Test.YthakcafglempaaaGreatPart25
import Derived.Test.YthakcafglempaaaGreatPart35
import Derived.Test.YthakcafglempaaaGreatPart32
namespace Go.Proofs.YthakcafglempaaaGreat
set_option linter.all false
open Go.H
open IntKind (i64)
structure V0a (x t:j0) (g:Int->Int):Prop where
 rng:∀ v,0<=v->v<x.2.1->0<=g v/\g v<t.2.1
 edge:∀ e∈x.2.2,((g e.1,e.2.1,g e.2.2):O0)∈t.2.2
def V0a.hom{x t:j0}{g:Int->Int}(m:V0a x t g)(b:K0 t):Hom x t g where
 rng:=m.rng
 step:=λv l h0 c h=>by
  obtain⟨_,e,a,_,d⟩:=S04 h
  have f:=v01 b (m.edge e a)
  grind
def Hom.ehom{x t:j0}{g:Int->Int}(m:Hom x t g)(h:K0 x):V0a x t g where
 rng:=m.rng
 edge:=λe b=>by
  have a:=(W0 h).1 e b
  have c:=(v01 h b).1
  have f:=m.step e.1 e.2.1 a.1.1 a.1.2 (by rw[c];exact a.2.1.1)
  rw[c]at f
  have i:=m.rng _ a.2.1.1 a.2.1.2
  obtain⟨_,d,k,j,l⟩:=S04 (g:=t) (v:=g e.1) (x:=e.2.1) (by rw[f];exact i.1)
  grind
def V0a.comp{a b c:j0}{g k:Int->Int}(e:V0a a b g)(d:V0a b c k):V0a a c (λx=>k (g x)) where
 rng:=λv h0 f=>d.rng _ (e.rng v h0 f).1 (e.rng v h0 f).2
 edge:=λz h=>d.edge _ (e.edge z h)
def B0u{a b:O0}{f:F6}(h:f∈l09 a b):a.2.1=b.2.1/\((a.1=b.1/\((f.1=a.2.2/\f.2=b.2.2)∨(f.1=b.2.2/\f.2=a.2.2)))∨(a.2.2=b.2.2/\((f.1=a.1/\f.2=b.1)∨(f.1=b.1/\f.2=a.1)))):=by unfold l09 at h;grind
theorem y0m{a:O0}{f:F6}:∀ {l:List O0},f∈j04 a l->∃ b∈l,f∈l09 a b
 | [],h=>by simp[j04]at h
 |b::r,h=>by
  rcases List.mem_append.1 (show f∈l09 a b++j04 a r from h)with h|h;·grind
  obtain⟨c,d,hf⟩:=y0m h;grind
def z0m{f:F6}:∀ {l:List O0},f∈B9 l->∃ a∈l,∃ b∈l,f∈l09 a b
 | [],h=>by simp[B9]at h
 |a::r,h=>by
  rcases List.mem_append.1 (show f∈j04 a r++B9 r from h)with h|h;·grind[y0m,List.mem_cons_self,mC]
  obtain⟨c,e,b,d,hf⟩:=z0m h;grind
def T0x{x t:j0}{g:Int->Int}(m:V0a x t g)(c:K0 t){f:F6}(hf:f∈B9 x.2.2):g f.1=g f.2:=by obtain⟨a,d,b,e,h⟩:=z0m hf;obtain⟨k,l⟩:=B0u h;have i:=v01 c (m.edge a d);have j:=v01 c (m.edge b e);grind
structure Fol (x y:j0) (q:Int->Int):Prop where
 hom:V0a x y q
 base:q 0=0
 onto:∀ u,0<=u->u<y.2.1->∃ v,(0<=v/\v<x.2.1)/\q v=u
 uni:∀(t:j0) (g:Int->Int),K0 t=true->V0a x t g->∃ g',V0a y t g'/\∀ v,0<=v->v<x.2.1->g' (q v)=g v
def Fol.refl(x:j0):Fol x x id :=
 ⟨⟨λv h0 a=>⟨h0,a⟩,λe b=>b⟩,rfl,λu h0 a=>⟨u,⟨h0,a⟩,rfl⟩,λt g _ m=>⟨g,m,λ_ _ _=>rfl⟩⟩
def Fol.comp{x y z:j0}{q p:Int->Int}(a:Fol x y q)(b:Fol y z p):Fol x z (λv=>p (q v)) where
 hom:=a.hom.comp b.hom
 base:=by rw[a.base,b.base]
 onto:=λu h0 c=>by
  obtain⟨v,f,e⟩:=b.onto u h0 c
  obtain⟨w,s,o⟩:=a.onto v f.1 f.2
  grind
 uni:=λt g d m=>by
  obtain⟨j,l,h⟩:=a.uni t g d m
  obtain⟨k,n,i⟩:=b.uni t j d l
  exact⟨k,n,λv h0 c=>by rw[i _ (a.hom.rng v h0 c).1 (a.hom.rng v h0 c).2,h v h0 c]⟩
def C0u{x:j0}{f:F6}(k:X0 x)(hf:f∈B9 x.2.2):Fol x (B03 x f) (mvV f):=by
 obtain⟨n,f2,f3⟩:=l06 k f hf;refine⟨⟨λv h0 a=>?_,λe b=>(C5 j4 _ _ _).2 (.inr (List.mem_map.2 ⟨e,b,rfl⟩))⟩,?_,λu h0 a=>?_,λt g j m=>?_⟩;·show 0<=mvV f v/\mvV f v<x.2.1-1;grind[mvV]
 ·unfold mvV;rw[iE oM,iE oM]
 ·have a:u<x.2.1-1:=a;by_cases c:u<f.2;·refine⟨u,⟨h0,oM⟩,?_⟩;unfold mvV;rw[iE oM,iE oM]
  refine⟨u+1,⟨oM,oM⟩,?_⟩;unfold mvV;grind
 have b:=T0x m j hf;have l:∀ v,(if mvV f v<f.2 then g (mvV f v)else g (mvV f v+1))=g v:=λv=>by unfold mvV;grind
 refine⟨λu=>if u<f.2 then g u else g (u+1),⟨λu h0 a=>?_,λe b=>?_⟩,λv _ _=>l v⟩
 ·have a:u<x.2.1-1:=a;show 0<=(if u<f.2 then g u else g (u+1))/\(if u<f.2 then g u else g (u+1))<t.2.1;split;·exact m.rng u h0 oM
  exact m.rng (u+1) oM oM
 rcases(C5 j4 _ _ _).1 b with h|h;·cases h
 obtain⟨d,i,rfl⟩:=List.mem_map.1 h;have:=m.edge d i;show(((if mvV f d.1<f.2 then g (mvV f d.1)else g (mvV f d.1+1)),d.2.1,(if mvV f d.2.2<f.2 then g (mvV f d.2.2)else g (mvV f d.2.2+1))):O0)∈t.2.2;grind
theorem A0m:∀(n:Nat) {g:j0},X0 g->∃ q,Fol g (L02 n g).1 q
 |0,g,h=>⟨id,Fol.refl g⟩
 |n+1,g,h=>by
  unfold L02;cases e:B9 g.2.2 with
  |nil=>exact⟨id,Fol.refl g⟩
  |cons f r =>have a:f∈B9 g.2.2:=oG;obtain⟨q,b⟩:=A0m n (l07 h (l06 h f a));exact⟨_,(C0u h a).comp b⟩
def R0h{g:j0}(h:X0 g):∃ q,Fol g (P9 g).1 q:=by grind[A0m,P9]
def Rd(x:j0):Int->List Int->Int->Prop
 |u,[],v=>u=v
 |u,l::w,v=>∃ z,stp u l z∈x.2.2/\Rd x z w v
def R0n(g:Int->Int)(u l z:Int):((g (stp u l z).1,(stp u l z).2.1,g (stp u l z).2.2):O0)=stp (g u) l (g z):=by unfold stp;split<;>rfl
def Rd.map{x t:j0}{g:Int->Int}(m:V0a x t g):∀ {w:List Int} {u v:Int},Rd x u w v->Rd t (g u) w (g v)
 | [],u,v,h=>congrArg g h
 |l::w,u,v,⟨z,a,h⟩=>⟨g z,by rw[←R0n];exact m.edge _ a,Rd.map m h⟩
def t0w{t:j0}(a:K0 t){u l z:Int}(h:stp u l z∈t.2.2):Q0 t u l=z/\0<=z:=by have c:=v01 a h;have b:=(W0 a).1 _ h;unfold stp at c b;grind
def Rd.rdw{t:j0}(a:K0 t):∀ {w:List Int} {u v:Int},Rd t u w v->rdw t u w=some v
 | [],u,v,h=>congrArg some h
 |l::w,u,v,⟨z,c,h⟩=>by have b:=t0w a c;unfold Go.Proofs.YthakcafglempaaaGreat.rdw;rw[b.1,iE oM];exact Rd.rdw a h
theorem Rd.of{t:j0}:∀ {w:List Int} {u v:Int},Go.Proofs.YthakcafglempaaaGreat.rdw t u w=some v->Rd t u w v
 | [],u,v,h=>oJ h
 |l::w,u,v,h=>by
  unfold Go.Proofs.YthakcafglempaaaGreat.rdw at h;by_cases c:Q0 t u l<0;·grind
  rw[iE c]at h;obtain⟨_,e,b,a,_⟩:=S04 (g:=t) (v:=u) (x:=l) oM;exact⟨_,by rw[←a];exact b,Rd.of h⟩
def Rd.mono{x y:j0}(h:∀ e∈x.2.2,e∈y.2.2):∀ {w:List Int} {u v:Int},Rd x u w v->Rd y u w v
 | [],u,v,k=>k
 |l::w,u,v,⟨z,a,k⟩=>⟨z,h _ a,Rd.mono h k⟩
theorem D0i{g:j0}{u v:Int}{w:List Int}(h:(V1 g u w v).2):w≠[]/\(V1 g u w v).1=(g.1,g.2.1+((w.length-1:Nat):Int),L4 V0 g.2.2 (g03 v w u g.2.1)):=by unfold V1 at h ⊢;grind
def u0k{x:j0}(v:Int):∀(w:List Int) (u n:Int),w≠[]->(∀ e∈g03 v w u n,e∈x.2.2)->Rd x u w v
 | [],u,n,h,_=>absurd rfl h
 | [l],u,n,_,h=>⟨v,h _ mS,rfl⟩
 |l::y::r,u,n,_,h=>⟨n,h _ mS,u0k v (y::r) n (n+1) (λe=>by cases e) λe a=>h e (mC _ a)⟩
def k0q{t:j0}(i:K0 t)(v:Int):∀(w:List Int) (u n:Int) (G:Int->Int),w≠[]->u<n->v<n->rdw t (G u) w=some (G v) -> ∃ d:Int->Int,(∀ z,z<n->d z=G z)/\(∀ e∈g03 v w u n,((d e.1,e.2.1,d e.2.2):O0)∈t.2.2)/\∀ z,n<=z->z<n+((w.length-1:Nat):Int)->0<=d z/\d z<t.2.1
 | [],u,n,G,h,_,_,_=>absurd rfl h
 | [l],u,n,G,_,p,x,h=>by
  refine⟨G,λz _=>rfl,λe f=>?_,λz h0 o=>?_⟩
  ·obtain rfl:e=stp u l v:=by simpa [g03] using f
   obtain⟨z,g,j⟩:=Rd.of h;obtain rfl:z=G v:=j;rw[R0n];exact g
  simp at o;omega
 |l::y::r,u,n,G,_,p,x,h=>by
  obtain⟨z,g,j⟩:=Rd.of h;have s:=(W0 i).1 _ g;have C:0<=z/\z<t.2.1:=by unfold stp at s;grind
  obtain⟨d,a,b,c⟩:=k0q i v (y::r) n (n+1) (λk=>if k=n then z else G k) (λe=>by cases e) oM oM (by show rdw t (if n=n then z else G n) (y::r)=some (if v=n then z else G v);rw[iP rfl,iE oM];exact Rd.rdw i j);have q:d n=z:=oG;have m:∀ k,k<n->d k=G k:=λk A=>oG;refine⟨d,m,λe f=>?_,λk h0 o=>?_⟩
  ·rcases mE.1 (show e∈stp u l n::g03 v (y::r) n (n+1) from f)with rfl|f;·rw[R0n,q,m u p];exact g
   exact b e f
  grind
def D0u{x:j0}{u v:Int}{w:List Int}(h:(V1 x u w v).2):V0a x (V1 x u w v).1 id:=by obtain⟨a,b⟩:=D0i h;rw[b];exact⟨λz h0 a=>⟨h0,oG⟩,λe c=>(C5 j4 _ _ _).2 (.inl c)⟩
def U0x{x:j0}{u v:Int}{w:List Int}(h:(V1 x u w v).2):Rd (V1 x u w v).1 u w v:=by obtain⟨a,b⟩:=D0i h;rw[b];exact u0k v w u x.2.1 a λe c=>(C5 j4 _ _ _).2 (.inr c)
def u0w{x t:j0}{u v:Int}{w:List Int}(s:X0 x)(p:u<x.2.1)(q:v<x.2.1)(h:(V1 x u w v).2)(o:K0 t){g:Int->Int}(m:V0a x t g)(n:rdw t (g u) w=some (g v)): ∃ j,V0a (V1 x u w v).1 t j/\∀ z,z<x.2.1->j z=g z:=by
 obtain⟨i,l⟩:=D0i h;obtain⟨G,a,b,c⟩:=k0q o v w u x.2.1 g i p q n;refine⟨G,?_,a⟩;rw[l];refine⟨λz h0 i=>?_,λe f=>?_⟩
 ·have i:z<x.2.1+((w.length-1:Nat):Int):=i;by_cases d:z<x.2.1;·rw[a z d];exact m.rng z h0 d
  simp_all
 rcases(C5 j4 _ _ _).1 f with f|f;·have k:=(Y2 s).1 e f;rw[a _ k.1.2,a _ k.2.1.2];exact m.edge e f
 exact b e f
def B0m:∀(ws:List (List Int)) (g:j0),V0a g (G07 ws g) id
 | [],g=>⟨λv h0 a=>⟨h0,a⟩,λe b=>b⟩
 |w::r,g=>by
  have c:=B0m r (V1 g 0 w 0).1;cases h:(V1 g 0 w 0).2;·grind[V1,decide,G07,id]
  exact(D0u h).comp c
theorem o0t:∀(ws:List (List Int)) (g:j0),0<=g.2.1->g.2.1+(tot ws:Int)<=40->g.2.2.length+tot ws<=120->∀ w∈ws,Rd (G07 ws g) 0 w 0
 | [],g,h0,d,e,w,b=>by cases b
 |a::r,g,h0,d,e,w,b=>by
  have f:tot (a::r)=a.length+tot r:=rfl;rw[f]at d e;rcases mE.1 b with rfl|b
  ·by_cases c:w = [];·rw[c];exact rfl
   have j:0<w.length:=List.length_pos_iff.2 c;have h:(V1 g 0 w 0).2:=by unfold V1;grind
   exact(U0x h).mono (B0m r (V1 g 0 w 0).1).edge
  have i:(V1 g 0 a 0).1.2.1<=g.2.1+a.length/\(V1 g 0 a 0).1.2.2.length<=g.2.2.length+a.length/\0<=(V1 g 0 a 0).1.2.1:=by
   cases h:(V1 g 0 a 0).2;·grind[V1,decide]
   grind[D0i,O01,g03,Z09]
  exact o0t r (V1 g 0 a 0).1 oM oM oM w b
theorem E0u{r:Int}{ws:List (List Int)}(h:j2 r ws):tot ws<40:=by simp_all[j2,aE,dE]
theorem F0u{r:Int}{ws:List (List Int)}(h:j2 r ws=true):∀ w∈ws,Rd (G07 ws (r,1,[])) 0 w 0:=by
 grind[E0u,o0t,List.length_nil]
def Cmp(t:j0):Prop:=∀ v,0<=v->v<t.2.1->∀ l,l≠0 -> -t.1<=l->l<=t.1->0<=Q0 t v l
def l0q{a b:j0}{f k:Int->Int}(m:Mor a b f)(n:Mor b a k)(h:∀ v,0<=v->v<a.2.1->k (f v)=v):a.2.1.toNat<=b.2.1.toNat:=by
 have:=z0r a.2.1.toNat ((List.range b.2.1.toNat).map λi:Nat=>k (i:Int)) λi c=>by have d:=m.rng (i:Int) oM oM;exact List.mem_map.2 ⟨(f (i:Int)).toNat,List.mem_range.2 oM,oG⟩
 simpa using this
def m0q{a b:j0}(i:K1 a){f k:Int->Int}(m:Mor a b f)(n:Mor b a k):∀ v,0<=v->v<a.2.1->k (f v)=v:=λv h0 l=>by have hf:=e08 i;refine Rch.sub (P:=λz=>k (f z)=z) (by rw[m.base,n.base]) (λe j=>?_) (h0q i h0 l);have c:=(W0 hf).1 e j;have d:=v01 hf j;have s1:=m.step e.1 e.2.1 c.1.1 c.1.2 oG;have s2:=m.step e.2.2 (-e.2.1) c.2.1.1 c.2.1.2 (by rw[d.2];exact c.1.1);rw[d.1]at s1;rw[d.2]at s2;have g:=m.rng _ c.1.1 c.1.2;have h:=m.rng _ c.2.1.1 c.2.1.2;have o:=n.step (f e.1) e.2.1 g.1 g.2 (by rw[s1];exact h.1);have p:=n.step (f e.2.2) (-e.2.1) h.1 h.2 (by rw[s2];exact g.1);grind
def Mor.toHom{a b:j0}{f:Int->Int}(m:Mor a b f):Hom a b f:=⟨m.rng,m.step⟩
theorem v0z{a b:j0}(o:K1 a)(q:K1 b)(u:b.1=a.1){f k:Int->Int}(m:Mor a b f)(n:Mor b a k):a=b:=by
 have g:=e08 o;have i:=e08 q;have d:=m0q o m n;have p:=m0q q n m;have s1:=l0q m n d;have s2:=l0q n m p;have z:=(W0 g).2.2.1;have A:=(W0 i).2.2.1;have s:=m.toHom.ehom g;have t:=n.toHom.ehom i;have iso:Iso a b f a.2.1.toNat := {
  rank:=u
  nt:=oM
  nc:=oM
  ft:=g
  fc:=i
  rng:=λx h0 d=>by
   have:=m.rng x h0 oM
   omega
  inj:=λx y v C w D h=>by rw[←d x v oM,←d y w oM,h]
  mem:=λc=>by
   constructor
   ·intro j
    have l:=(W0 i).1 c j
    exact⟨_,t.edge c j,by
     show c=(f (k c.1),c.2.1,f (k c.2.2))
     rw[p _ l.1.1 l.1.2,p _ l.2.1.1 l.2.1.2]⟩
   ·rintro⟨e,j,rfl⟩
    exact s.edge e j }
 have:=iso.canon m.base λx h0 d=>J0h g (h0q o h0 oM);grind[s0k]
def Rdc:List Int->Prop
 |x::y::r=>y ≠ -x/\Rdc (y::r)
 |_=>True
def Rdc.tail{x:Int}{w:List Int}(h:Rdc (x::w)):Rdc w:=by
 cases w with
 |nil=>exact trivial
 |cons y r=>exact h.2
def v0k:∀ {w:List Int},(∀ x∈w,I3 x/\x≠0)->Red w.reverse->Rdc w
 | [],_,_=>trivial
 | [x],_,_=>trivial
 |x::y::r,d,h=>by rw[List.reverse_cons]at h;obtain⟨a,_,b⟩:=(N0n _ _).1 h;refine⟨λc=>?_,v0k (λz e=>d z (mC _ e)) a⟩;have:=b y x oS rfl;grind[List.mem_cons_self,q07]
def v0w{r:Int}{w:List Int}(h:J1 r w):Rdc w:=by obtain⟨_,b⟩:=V7 h;refine v0k (λx a=>⟨(b x a).1,(b x a).2.1⟩) ?_;have:=N08 w [] rfl;rwa [←List.reverse_reverse (A6 [] w),T03 h]at this
def w0k{c t:j0}{b:Int->Int}(d:Emb c t b)(g:K0 t)(m:∀ y,0<=y->y<t.2.1->(∃ u,(0<=u/\u<c.2.1)/\b u=y)∨z03 y t.2.2<2 ∨ ¬ Rch t.2.2 0 y): ∀(w:List Int) (v z:Int),Rdc w->0<=v->v<c.2.1->0<=z->z<c.2.1->Rch t.2.2 0 (b v)->rdw t (b v) w=some (b z)->rdw c v w=some z
 | [],v,z,_,i,j,k,l,_,h=>congrArg some (d.inj v z i j k l (oJ h))
 |x::w,v,z,p,i,j,k,l,C,h=>by
  unfold rdw at h;by_cases c1:Q0 t (b v) x<0;·grind
  rw[iE c1]at h;have f:0<=Q0 t (b v) x:=oM;have n:=(i0q (a:=0) f).1 C;have fin:∀ u,0<=u->u<c.2.1->b u=Q0 t (b v) x->rdw c v (x::w)=some z:=λu q s e=>by have hf:=d.full v u x i j q s e.symm;unfold rdw;rw[hf,iE oM];rw[←e]at h n;exact w0k d g m w u z p.tail q s k l n h
  rcases m _ f (k0c g f)with⟨u,o,e⟩|E;·exact fin u o.1 o.2 e
  cases w with
  |nil=>exact fin z k l (oJ h).symm
  |cons A w =>
   have D:0<=Q0 t (Q0 t (b v) x) A:=by unfold rdw at h;grind
   have F:=d04 g rfl f;have G:=(d.hom.rng v i j).1;have:=n0t g (v:=Q0 t (b v) x) λy=>by
    by_cases c3:y = -x;·exact⟨A,by rw[c3];exact p.1,D⟩
    grind
   grind
theorem C0m:∀(d:Nat) {h:j0},K0 h->∀ w,Rdc w->rdw h 0 w=some 0->rdw (t9 d h) 0 w=some 0
 |0,h,hf,w,e,a=>a
 |d+1,h,hf,w,e,a=>by
  unfold t9;cases hl:F9 h with
  |none=>exact a
  |some k =>
   obtain⟨v,x,z,A⟩:=W0 hf;have u:=X0c hl;obtain⟨q,C,s,t⟩:=c08 (A3 hf) hl;have g:=R0f hf (n07 k h.2.1.toNat 0) q s t;have f:getI (wo k h.2.1.toNat 0) 0=0:=by obtain⟨n,p⟩:∃ n,h.2.1.toNat=n+1:=⟨h.2.1.toNat-1,oM⟩;rw[p];unfold wo;rw[iE oM];rfl
   have j:(0:Int)<(L7 h (wo k h.2.1.toNat 0)).2.1:=by show(0:Int)<(((wo k h.2.1.toNat 0).length:Nat):Int);omega
   refine C0m d g.fc w e (w0k g hf (λy D E=>?_) w 0 0 e (iR _) j (iR _) j (by rw[f];exact .base) (by rw[f];exact a));by_cases c:y.toNat=k;·have b:=r0w _ _ _ hl;unfold O0a at b;rw[←c,show((y.toNat:Nat):Int)=y by omega,Bool.or_eq_true,(dE),Bool.not_eq_true',decide_eq_false_iff_not]at b;refine .inr (b.imp id λl m=>l ((k06 _ _ _).2 m))
   have:=k0k k h.2.1.toNat 0 y.toNat (Nat.zero_le _) oM c;rw[show((y.toNat:Nat):Int)=y by omega]at this;obtain⟨i,o⟩:=List.getElem?_of_mem this;refine .inl ⟨(i:Int),⟨oM,?_⟩,g0d o⟩;show(i:Int)<(((wo k h.2.1.toNat 0).length:Nat):Int);grind
def G0u{h:j0}(hf:K0 h){w:List Int}(j:Rdc w)(n:rdw h 0 w=some 0):rdw (z07 h) 0 w=some 0:=by
 have e:=A3 hf;obtain⟨s,u,v,x⟩:=W0 hf;have b:=C03 40 hf;have g:=L08 40 e oM;obtain⟨o,p2,p,q⟩:=W0 b;have a:=N04 b;have c:=R0f b a.1.1 a.1.2 a.2 (Nat.le_trans (A01 _ _ a.1.1 a.1.2) oM);have k:getI (Q2 (t9 40 h)) 0=0:=by obtain⟨t,d⟩:=M08 (t9 40 h);rw[d];rfl
 have h0:(0:Int)<(L7 (t9 40 h) (Q2 (t9 40 h))).2.1:=by show(0:Int)<(((Q2 (t9 40 h)).length:Nat):Int);omega
 refine w0k c b (λy l m=>?_) w 0 0 j (iR _) h0 (iR _) h0 (by rw[k];exact .base) (by grind[C0m]);obtain⟨i,f⟩:=List.getElem?_of_mem (c0a b g l m);refine .inl ⟨(i:Int),⟨oM,?_⟩,g0d f⟩;show(i:Int)<(((Q2 (t9 40 h)).length:Nat):Int);grind
def D0m{r:Int}{ws:List (List Int)}(h:j2 r ws):∀ w∈ws,o9 (D2 r ws).1 w:=λw d=>by obtain⟨g,f,e⟩:=r02 h;have a:=P08 h;obtain⟨q,b⟩:=R0h a;have hf:=t04 a;have c:=((F0u h w d).map b.hom).rdw hf;rw[b.base]at c;have:=G0u hf (v0w (e w d)) c;unfold D2;rw[h];exact(R04 _ _).2 this
def Q0d(g:j0):Prop:=∀ v,Rch g.2.2 0 v->∀ x∈U7 g.1.toNat 1,∃ z,z∈j01 v x g.2.2
theorem a0h{g:j0}(b:inG g)(h0:0<g.2.1){v:Int}(h:Rch g.2.2 0 v):0<=v/\v<g.2.1:=by have:=Rch.sub (es:=g.2.2) (v:=0) (P:=λv=>v=0∨(0<=v/\v<g.2.1)) (.inl rfl) (λe a=>⟨λ_ => .inr (b e a).2.1,λ_ => .inr (b e a).1⟩) h;grind
def n0q{es:List O0}{v x z:Int}(h:Rch es 0 v)(a:z∈j01 v x es):Rch es 0 z:=by obtain⟨e,c,b⟩:=V2.1 a;grind[Rch.closed]
def E0r{P:List Int}{a:O0}:∀ {es:List O0},a∈pE P es↔∃ e∈es,(0<=getI P e.1/\0<=getI P e.2.2)/\a=(getI P e.1,e.2.1,getI P e.2.2)
 | []=>by simp[pE]
 |e::r=>by
  unfold pE;by_cases c:0<=getI P e.1/\0<=getI P e.2.2;·rw[dT c.1,dT c.2];simp only[Bool.and_self,cT,mE,E0r (es:=r),exists_eq_or_imp];grind
  have:(decide (0<=getI P e.1)&&decide (0<=getI P e.2.2))=false:=by grind
  rw[this];simp only[zF,mE,E0r (es:=r),exists_eq_or_imp];grind
def E0m{g:j0}(n:inG g)(h0:0<g.2.1){o:List Int}(u:inV g.2.1.toNat o)(s:o.Nodup)(H:∃ t,o=0::t)(I:∀ v,Rch g.2.2 0 v->v∈o)(hf:Q0d g):Q0d (L7 g o):=by
 obtain⟨t,rfl⟩:=H;have C:getI (plc g.2.1.toNat (0::t)) 0=0:=p0e u s (i:=0) rfl;have k:∀ v,Rch g.2.2 0 v->0<=getI (plc g.2.1.toNat (0::t)) v:=λv c=>by grind[List.getElem?_of_mem,p0e]
 have p:∀ f,f∈(L7 g (0::t)).2.2↔∃ e∈g.2.2,(0<=getI (plc g.2.1.toNat (0::t)) e.1/\0<=getI (plc g.2.1.toNat (0::t)) e.2.2)/\f=(getI (plc g.2.1.toNat (0::t)) e.1,e.2.1,getI (plc g.2.1.toNat (0::t)) e.2.2):=λf=>by show f∈L4 V0 [] (pE _ g.2.2)↔_;rw[C5 j4,←E0r];simp
 have J:=λ{x y:Int} q G l m=>A0i (x:=x) (y:=y) u s q G l m;generalize getI (plc g.2.1.toNat (0::t))=P at *;have back:∀ d,Rch (L7 g (0::t)).2.2 0 d->∃ v,Rch g.2.2 0 v/\d=P v:=λd h=>by
  refine Rch.sub (P:=λd=>∃ v,Rch g.2.2 0 v/\d=P v) ⟨0,.base,C.symm⟩ (λf D=>?_) h;obtain⟨e,j,⟨L,p2⟩,rfl⟩:=(p f).1 D;have K:=n e j;constructor;·rintro⟨v,c,m⟩;have F:=a0h n h0 c;grind[Rch.closed]
  rintro⟨v,c,m⟩;have F:=a0h n h0 c;grind[Rch.closed]
 intro d E x q;obtain⟨v,c,rfl⟩:=back d E;obtain⟨z,A⟩:=hf v c x q;have w:=n0q c A;refine⟨P z,V2.2 ?_⟩;obtain⟨e,j,l⟩:=V2.1 A;rcases l with⟨a,b,rfl,rfl⟩|⟨a,b,rfl,rfl⟩;·exact⟨(P e.1,e.2.1,P e.2.2),(p _).2 ⟨e,j,⟨k _ c,k _ w⟩,rfl⟩,.inl ⟨a,b,rfl,rfl⟩⟩
 exact⟨(P e.1,e.2.1,P e.2.2),(p _).2 ⟨e,j,⟨k _ w,k _ c⟩,rfl⟩,.inr ⟨a,b,rfl,rfl⟩⟩
def F0r(v:Int):List O0->Nat
 | []=>0
 |e::r=>(if e.1=v then 1 else 0)+F0r v r
def G0r(v:Int):List O0->Nat
 | []=>0
 |e::r=>(if e.2.2=v then 1 else 0)+G0r v r
def x0k(v:Int):∀ es,z03 v es=F0r v es+G0r v es
 | []=>rfl
 |e::r=>by have:=x0k v r;grind[z03,y0f,F0r,G0r]
theorem o0q{v:Int}:∀ {es:List O0} {e:O0},e∈es->e.1=v->1<=F0r v es
 |x::r,e,h,a=>by
  rcases mE.1 h with rfl|h;·simp_all[F0r,iP]
  have:=o0q h a;simp only[F0r];omega
theorem p0q{v:Int}:∀ {es:List O0} {e:O0},e∈es->e.2.2=v->1<=G0r v es
 |x::r,e,h,a=>by
  rcases mE.1 h with rfl|h;·simp_all[G0r,iP]
  have:=p0q h a;simp only[G0r];omega
def w0w{g:j0}(l:1<=g.1)(hf:Q0d g){v:Int}(b:Rch g.2.2 0 v):2<=z03 v g.2.2:=by
 have a:=Z0j g.1.toNat 1 1 (Nat.le_refl _) oM;obtain⟨z,f⟩:=hf v b 1 a.1;obtain⟨y,c⟩:=hf v b (-1) a.2;obtain⟨e,k,h⟩:=V2.1 f;obtain⟨d,j,i⟩:=V2.1 c;rw[x0k];have s1:1<=F0r v g.2.2:=by grind[o0q]
 grind[s2,G0r,p0q]
def q0q{a:Nat->Bool}:∀ {d v k:Nat},lf a d v=some k->a k
 |0,v,k,h=>nomatch h
 |d+1,v,k,h=>by
  unfold lf at h;cases hb:a v;·rw[hb]at h;exact q0q h
  grind
def V0x(k d:Nat)(a:1<=k):∃ t,wo k (d+1) 0=0::t:=by unfold wo;rw[iE oM];exact⟨_,rfl⟩
theorem y0k:∀(d:Nat) {g:j0},K0 g=true->Q0d g->Q0d (t9 d g)
 |0,g,h,hf=>hf
 |d+1,g,h,hf=>by
  unfold t9
  cases e:F9 g with
  |none=>exact hf
  |some k =>
   obtain⟨i,t,u,w⟩:=W0 h
   obtain⟨b,o,j,l⟩:=c08 (A3 h) e
   have p:=X0c e
   refine y0k d (o07 h b (n07 _ _ _) j l) (E0m i (by omega) b (n07 _ _ _) ?_ (λv f=>?_) hf)
   ·obtain⟨n,q⟩:∃ n,g.2.1.toNat=n+1:=⟨g.2.1.toNat-1,by omega⟩
    simp_all[V0x]
   ·have s:=a0h i (by omega) f
    have:=k0k k g.2.1.toNat 0 v.toNat (by omega) (by omega) (λc=>by
     have a:=q0q e
     have m:(k:Int)=v:=by omega
     unfold O0a at a
     rw[m,Bool.or_eq_true]at a
     rcases a with a|a
     ·have:=w0w (by omega) hf f
      grind
     grind[o0r,k06,decide_eq_true])
    rwa [show((v.toNat:Nat):Int)=v by omega]at this
def H0u{g:j0}(h:K0 g)(hf:Q0d g):Q0d (z07 g):=by
 have b:=C03 40 h;have i:F9 (t9 40 g)=none:=by obtain⟨c,d,e,f⟩:=W0 h;grind[L08,A3]
 obtain⟨c,d,e,f⟩:=W0 b;obtain⟨a,j⟩:=N04 b;show Q0d (L7 (t9 40 g) (Q2 (t9 40 g)));refine E0m c oM a.2 a.1 (M08 _) (λv k=>?_) (y0k 40 h hf);grind[a0h,c0a]
def z0k{g:j0}{v:Int}:∀(a:List Int),(∀ x∈a,0<=Q0 g v x)->P0d g v a = []
 | [],_=>rfl
 |x::a,h=>by unfold P0d;have:=h x mS;rw[dF (show ¬ Q0 g v x<0 by omega),z0k a λy b=>h y (mC _ b)];rfl
def A0k{g:j0}:∀(d k:Nat),(∀ v:Nat,k<=v->v<k+d->∀ x∈U7 g.1.toNat 1,0<=Q0 g (v:Int) x)->I0f g d k = []
 |0,k,h=>rfl
 |d+1,k,h=>by unfold I0f;rw[z0k _ (h k (Nat.le_refl _) oM),A0k d (k+1) λv a b=>h v oM oM];rfl
def x0w{g:j0}(h:K0 g)(hf:Q0d g):U07 (z07 g):=by
 have e:=j0m h;have a:=G2 e;have f:=H0u h hf;obtain⟨k,o,p,q⟩:=W0 a;have i:F9 (z07 g)=none:=by simp_all[K1,aE,Option.isNone_iff_eq_none]
 have n:P04 (z07 g) = []:=by
  unfold P04;refine A0k _ 0 λv l m x j=>?_;have b:Rch (z07 g).2.2 0 (v:Int):=by
   by_cases c:v=0;·subst c;exact .base
   have:=Z0c i v oM oM;unfold O0a at this;simp only[Bool.or_eq_false_iff,Bool.not_eq_false',dE]at this;exact(k06 _ _ _).1 this.2
  obtain⟨z,d⟩:=f _ b x j;rw[Y06 a d];exact(a0h k oM (n0q b d)).1
 grind[U07]
def m05(g:j0)(l:Int):Nat->Nat->List Int
 |0,_=>[]
 |d+1,k=>if Q0 g (k:Int) l<0 then(k:Int)::m05 g l d (k+1)else m05 g l d (k+1)
def a0i(g:j0)(l:Int):Nat->Nat->List Int
 |0,_=>[]
 |d+1,k=>if Q0 g (k:Int) l<0 then a0i g l d (k+1)else(k:Int)::a0i g l d (k+1)
theorem T0f(g:j0)(l:Int):∀ d k,(m05 g l d k).length+(a0i g l d k).length=d
 |0,k=>rfl
 |d+1,k=>by have:=T0f g l d (k+1);unfold m05 a0i;split<;>simp only[lC]<;>omega
theorem i0a{g:j0}{l v:Int}:∀ {d k:Nat},v∈m05 g l d k↔∃ j:Nat,v=(j:Int)/\(k<=j/\j<k+d)/\Q0 g v l<0
 |0,k=>⟨(λh=>by cases h),λ⟨j,_,h,_⟩=>oM⟩
 |d+1,k=>by have a:=i0a (g:=g) (l:=l) (v:=v) (d:=d) (k:=k+1);grind[m05,absurd]
theorem j0a{g:j0}{l v:Int}:∀ {d k:Nat},v∈a0i g l d k↔∃ j:Nat,v=(j:Int)/\(k<=j/\j<k+d)/\0<=Q0 g v l
 |0,k=>⟨(λh=>by cases h),λ⟨j,_,h,_⟩=>oM⟩
 |d+1,k=>by have a:=j0a (g:=g) (l:=l) (v:=v) (d:=d) (k:=k+1);grind[a0i]
theorem t0e(g:j0)(l:Int):∀ d k,(m05 g l d k).Nodup
 |0,k=>List.nodup_nil
 |d+1,k=>by
  unfold m05;split;·refine List.nodup_cons.2 ⟨λh=>?_,t0e g l d (k+1)⟩;grind[i0a]
  exact t0e g l d (k+1)
def u0e(g:j0)(l:Int):∀ d k,(a0i g l d k).Nodup
 |0,k=>List.nodup_nil
 |d+1,k=>by
  unfold a0i;split;·exact u0e g l d (k+1)
  refine List.nodup_cons.2 ⟨λh=>?_,u0e g l d (k+1)⟩;grind[j0a]
def p0t:∀ {a b:List Int},a.Nodup->(∀ x∈a,x∈b)->a.length<=b.length
 | [],b,_,_=>Nat.zero_le _
 |x::a,b,g,h=>by obtain⟨d,f⟩:=List.nodup_cons.1 g;have i:=h x mS;have:=p0t (b:=b.erase x) f λy c=>(List.mem_erase_of_ne (λe=>d (by rw[←e];exact c))).2 (h y (mC _ c));grind
def y0w{g:j0}(hf:K0 g)(l:Int):(a0i g l g.2.1.toNat 0).length<=(a0i g (-l) g.2.1.toNat 0).length:=by
 obtain⟨n,u,w,x⟩:=W0 hf;have h:((a0i g l g.2.1.toNat 0).map λv=>Q0 g v l).Nodup:=by rw[List.Nodup,List.pairwise_map];refine List.Pairwise.imp_of_mem (λ{a b} f d t e=>?_) (u0e g l g.2.1.toNat 0);obtain⟨_,_,_,c⟩:=j0a.1 f;obtain⟨_,_,_,s⟩:=j0a.1 d;have o:=d04 hf rfl c;grind[d04]
 have:=p0t (b:=a0i g (-l) g.2.1.toNat 0) h λy m=>by obtain⟨v,k,rfl⟩:=List.mem_map.1 m;obtain⟨j,p,q,c⟩:=j0a.1 k;have d:=d04 hf rfl c;have i:=i04 n v l;refine j0a.2 ⟨(Q0 g v l).toNat,oM,?_,by rw[d];omega⟩;rcases i with e|e<;>omega
 rwa [List.length_map]at this
theorem E0i{g:j0}(hf:K0 g)(l:Int):(m05 g l g.2.1.toNat 0).length=(m05 g (-l) g.2.1.toNat 0).length:=by have b:=y0w hf l;have a:=y0w hf (-l);rw[Int.neg_neg]at a;grind[T0f]
def h0l(l:Int):List Int->List Int->List O0
 |a::A,b::B=>(a,l,b)::h0l l A B
 |_,_=>[]
theorem U0f(l:Int):∀(A B:List Int),A.length=B.length->(h0l l A B).length=A.length
 | [],[],_=>rfl
 |a::A,b::B,h=>by simp only[h0l,lC,U0f l A B (by simpa using h)]
 | [],b::B,h=>by simp at h
 |a::A,[],h=>by simp at h
def l0c(l:Int):∀(A B:List Int) (i:Nat) (a b:Int),A[i]?=some a->B[i]?=some b->(h0l l A B)[i]?=some (a,l,b)
 |x::A,y::B,0,a,b,c,d=>by grind[h0l]
 |x::A,y::B,i+1,a,b,c,d=>by simp at c d;simpa [h0l] using l0c l A B i a b c d
 | [],B,i,a,b,c,d=>by simp at c
 |x::A,[],i,a,b,c,d=>by simp at d
def r0q(l:Int):∀(A B:List Int) (e:O0),e∈h0l l A B->e.2.1=l/\∃ i:Nat,A[i]?=some e.1/\B[i]?=some e.2.2
 |a::A,b::B,e,h=>by
  rcases mE.1 h with rfl|h;·exact⟨rfl,0,rfl,rfl⟩
  obtain⟨c,i,d,f⟩:=r0q l A B e h;exact⟨c,i+1,by simpa using d,by simpa using f⟩
 | [],B,e,h=>by cases B<;>cases h
 |a::A,[],e,h=>by cases h
def S0n(g:j0)(l:Int):List O0:=h0l l (m05 g l g.2.1.toNat 0) (m05 g (-l) g.2.1.toNat 0)
def nwA(g:j0):Nat->Nat->List O0
 |0,_=>[]
 |d+1,l=>S0n g (l:Int)++nwA g d (l+1)
def q0t{g:j0}{e:O0}:∀ {d l:Nat},e∈nwA g d l↔∃ j:Nat,(l<=j/\j<l+d)/\e∈S0n g (j:Int)
 |0,l=>⟨(λh=>by cases h),λ⟨j,h,_⟩=>oM⟩
 |d+1,l=>by rw[nwA,List.mem_append,q0t (d:=d) (l:=l+1)];grind
def B0k{g:j0}(hf:K0 g)(l:Int):(S0n g l).length<=40:=by obtain⟨a,b,c,d⟩:=W0 hf;have:=T0f g l g.2.1.toNat 0;grind[S0n,U0f,E0i]
def r0t{g:j0}(hf:K0 g):∀ d l,(nwA g d l).length<=40*d
 |0,l=>Nat.zero_le _
 |d+1,l=>by have a:=B0k hf (l:Int);have b:=r0t hf d (l+1);rw[nwA,(lA)];omega
def r07(g:j0):j0:=(g.1,g.2.1,L4 V0 g.2.2 (nwA g g.1.toNat 1))
def P06(g:j0):j0×Bool:=bif K0 g&&decide (g.2.1*g.1<=120)then(r07 g,true)else((0,0,[]),false)
def C0k{d:Type}(c:d->d->Int):∀(a b l:List d),L4 c l (a++b)=L4 c (L4 c l a) b
 | [],b,l=>rfl
 |x::a,b,l=>C0k c a b (a02 c x l)
def C0y(A B:List Int)(l r n:Int)(k:A.length=B.length)(m:A.length<=1000):∀(d i fuel:Nat) (es:List O0),i+d=A.length->d<fuel->es.length+d<=100000 -> M5 A B l fuel (i:Int) r n es=some (r,n,L4 V0 es ((h0l l A B).drop i))
 |d,i,0,es,f,hf,g=>oM
 |0,i,fuel+1,es,f,hf,g=>by rw[M5.eq_2,oB,C0 oM,oB,iE oG,D1 (by grind[U0f])];rfl
 |d+1,i,fuel+1,es,f,hf,g=>by have h:i<A.length:=oM;have c:=V3 h;have e:=V3 (show i<B.length by omega);generalize A[i]=a at c;generalize B[i]=b at e;have p:=l0c l A B i a b c e;have j:=O01 [(a,l,b)] es;have o:L4 V0 es [(a,l,b)]=a02 V0 (a,l,b) es:=rfl;rw[o]at j;simp only[lC,lN]at j;have q:=C0y A B l r n k m d (i+1) fuel (a02 V0 (a,l,b) es) oM oM oM;rw[M5.eq_2,oB,C0 oM,oB,iP oG,U1 c,oB,U1 e,oB,R07 _ _ oM,oB,Z1 h oM,q,I1 p];rfl
def D0y(A B:List Int)(l r n:Int)(j:A.length=B.length)(k:A.length<=1000):∀(d i fuel:Nat) (es:List O0),i+d=A.length->d<fuel->es.length+d<=100000 -> P5 A.length A B l fuel (i:Int) r n es=some (r,n,es++(h0l l A B).drop i)
 |d,i,0,es,f,hf,g=>oM
 |0,i,fuel+1,es,f,hf,g=>by simp_all[P5.eq_2,iE,dE,D1,U0f]
 |d+1,i,fuel+1,es,f,hf,g=>by have h:i<A.length:=oM;have c:=V3 h;have e:=V3 (show i<B.length by omega);generalize A[i]=a at c;generalize B[i]=b at e;have m:=l0c l A B i a b c e;have o:=D0y A B l r n j k d (i+1) fuel (es ++ [(a,l,b)]) oM oM (by simp;omega);rw[P5.eq_2,iP oG,U1 c,oB,U1 e,oB,oB,C0 (by simp;omega),oB,Z1 h oM,o,I1 m];simp
def E0y{g:j0}(i:K0 g){l:Int}(n : -3<=l/\l<=3):∀(d k fuel:Nat) (a b:List Int),k+d=g.2.1.toNat->d<fuel->a.length<=k->b.length<=k -> P3 g.2.1 g.1 g.2.2 l fuel (k:Int) a b=some (a++m05 g l d k,b++m05 g (-l) d k)
 |d,k,0,a,b,h,hf,c,e=>oM
 |0,k,fuel+1,a,b,h,hf,c,e=>by rw[P3.eq_2,iE oG];simp[m05]
 |d+1,k,fuel+1,a,b,h,hf,c,e=>by
  obtain⟨j,u,m,v⟩:=W0 i;have s:=D05 g (k:Int) l ⟨⟨oM,oM⟩,oM⟩ oM;have t:=D05 g (k:Int) (-l) ⟨⟨oM,oM⟩,oM⟩ oM;have p:=N02 j m.2 (k:Int) l;have q:=N02 j m.2 (k:Int) (-l);have f:=λa b c e=>E0y i n d (k+1) fuel a b oM oM c e;have o:i64.wrap ((k:Int)+1)=((k+1:Nat):Int):=by rw[w64 oM oM];omega
  rw[P3.eq_2,iP oG];simp only[show(g.1,g.2.1,g.2.2)=g from rfl,show i64.wrap (0-l) = -l by grind[w64],s,t,oB,C0 p,C0 q,o];unfold m05;by_cases c1:Q0 g (k:Int) l<0<;>by_cases c2:Q0 g (k:Int) (-l)<0;·rw[iP (dT c1),iP c1,iP c2,iP (dT c2),C0 (by simp;omega),oB,C0 (by simp;omega),oB,f _ _ (by simp;omega) (by simp;omega)];simp
  ·rw[iP (dT c1),iP c1,iE c2,iE (by simpa using c2),C0 (by simp;omega),oB,f _ _ (by simp;omega) oM];simp
  ·rw[iE (by simpa using c1),iE c1,iP c2,iP (dT c2),C0 (by simp;omega),oB,f _ _ oM (by simp;omega)];simp
  grind
def F0y{g:j0}(i:K0 g){l:Int}(n : -3<=l/\l<=3):∀(d k fuel:Nat) (a b:List Int),k+d=g.2.1.toNat->d<fuel->a.length<=k->b.length<=k -> Q3 g.2.1 g.1 g.2.2 l fuel (k:Int) a b=some (a++m05 g l d k,b++m05 g (-l) d k)
 |d,k,0,a,b,h,hf,c,e=>oM
 |0,k,fuel+1,a,b,h,hf,c,e=>by rw[Q3.eq_2,iE oG];simp[m05]
 |d+1,k,fuel+1,a,b,h,hf,c,e=>by
  obtain⟨j,u,m,v⟩:=W0 i;have s:=r04 g (k:Int) l ⟨⟨oM,oM⟩,oM⟩ oM;have t:=r04 g (k:Int) (-l) ⟨⟨oM,oM⟩,oM⟩ oM;have p:=N02 j m.2 (k:Int) l;have q:=N02 j m.2 (k:Int) (-l);have f:=λa b c e=>F0y i n d (k+1) fuel a b oM oM c e;have o:i64.wrap ((k:Int)+1)=((k+1:Nat):Int):=by grind[w64]
  rw[Q3.eq_2,iP oG];simp only[show(g.1,g.2.1,g.2.2)=g from rfl,show i64.wrap (0-l) = -l by grind[w64],s,t,oB,C0 p,C0 q,o];unfold m05;by_cases c1:Q0 g (k:Int) l<0<;>by_cases c2:Q0 g (k:Int) (-l)<0;·rw[iP (dT c1),iP c1,iP c2,iP (dT c2),C0 (by simp;omega),oB,C0 (by simp;omega),oB,f _ _ (by simp;omega) (by simp;omega)];simp
  ·rw[iP (dT c1),iP c1,iE c2,iE (by simpa using c2),C0 (by simp;omega),oB,f _ _ (by simp;omega) oM];simp
  ·rw[iE (by simpa using c1),iE c1,iP c2,iP (dT c2),C0 (by simp;omega),oB,f _ _ oM (by simp;omega)];simp
  grind
def G0y{g:j0}(a:K0 g)(c b:Int):∀(d l fuel:Nat) (es:List O0),l+d=g.1.toNat+1->1<=l->d<fuel->es.length+40*d<=10000 -> N5 g.1 g.2.1 g.2.2 fuel (l:Int) c b es=some (c,b,L4 V0 es (nwA g d l))
 |d,l,0,es,i,h,hf,j=>oM
 |0,l,fuel+1,es,i,h,hf,j=>by rw[N5.eq_2,iE oG];rfl
 |d+1,l,fuel+1,es,i,h,hf,j=>by obtain⟨p,q,s,t⟩:=W0 a;have f:=E0y a (l:=(l:Int)) oM g.2.1.toNat 0 P0 [] [] oM (j1 oM) oS oS;rw[show((0:Nat):Int)=0 from rfl,(nA),(nA)]at f;have m:=T0f g (l:Int) g.2.1.toNat 0;have e:=C0y (m05 g (l:Int) g.2.1.toNat 0) (m05 g (-(l:Int)) g.2.1.toNat 0) (l:Int) c b (E0i a _) oM (m05 g (l:Int) g.2.1.toNat 0).length 0 P0 es oM (j1 oM) oM;rw[show((0:Nat):Int)=0 from rfl,(dZ)]at e;have n:=B0k a (l:Int);have o:=O01 (S0n g (l:Int)) es;have k:=G0y a c b d (l+1) fuel (L4 V0 es (S0n g (l:Int))) oM oM oM oM;rw[N5.eq_2,iP oG,f,oB];simp only;rw[e,oB,Z1 (show l<1000 by omega) oM,nwA,C0k];exact k
def H0y{g:j0}(a:K0 g)(c b:Int):∀(d l fuel:Nat) (es:List O0),l+d=g.1.toNat+1->1<=l->d<fuel->es.length+40*d<=10000 -> Q5 g.1 g.2.1 g.2.2 fuel (l:Int) c b es=some (c,b,es++nwA g d l)
 |d,l,0,es,i,h,hf,j=>oM
 |0,l,fuel+1,es,i,h,hf,j=>by rw[Q5.eq_2,iE oG];simp[nwA]
 |d+1,l,fuel+1,es,i,h,hf,j=>by obtain⟨o,p,q,s⟩:=W0 a;have f:=F0y a (l:=(l:Int)) oM g.2.1.toNat 0 P0 [] [] oM (j1 oM) oS oS;rw[show((0:Nat):Int)=0 from rfl,(nA),(nA)]at f;have m:=T0f g (l:Int) g.2.1.toNat 0;have e:=D0y (m05 g (l:Int) g.2.1.toNat 0) (m05 g (-(l:Int)) g.2.1.toNat 0) (l:Int) c b (E0i a _) oM (m05 g (l:Int) g.2.1.toNat 0).length 0 P0 es oM (j1 oM) oM;rw[show((0:Nat):Int)=0 from rfl,(dZ)]at e;have n:=B0k a (l:Int);have k:=H0y a c b d (l+1) fuel (es++S0n g (l:Int)) oM oM oM oG;rw[Q5.eq_2,iP oG,f,oB];simp only;rw[oB,C0 oM,oB,e,oB,Z1 (show l<1000 by omega) oM,nwA,←List.append_assoc];exact k
def z0w{n r:Int}(a:1<=n/\n<=40)(b:1<=r/\r<=3):i64.wrap (n*r)=n*r:=by have:r=1∨r=2∨r=3:=oM;rcases this with rfl|rfl|rfl<;>exact w64 oM oM
def H0r(g:j0)(k:g.2.2.length<=1099511627776):Y9 g=some (P06 g):=by
 have d:=g02 g oM;have j:=s04 g oM;unfold P06;cases hf:K0 g;·rw[hf]at d;obtain⟨a,b,c⟩:=g;unfold Y9;grind
 rw[hf]at d;obtain⟨l,f,h,m⟩:=W0 hf;have e:=G0y hf g.1 g.2.1 g.1.toNat 1 P0 g.2.2 oM oM (j1 oM) oM;rw[show((1:Nat):Int)=1 from rfl]at e;have i:=z0w h f;unfold r07;obtain⟨a,b,c⟩:=g;simp only at i e f h ⊢;unfold Y9;grind
def I0r(g:j0)(l:g.2.2.length<=1099511627776):a00 g=some (P06 g):=by
 have d:=Y02 g oM;have k:=N00 g oM;unfold P06;cases hf:K0 g;·rw[hf]at d;obtain⟨a,b,c⟩:=g;unfold a00;grind
 rw[hf]at d;obtain⟨n,h,i,o⟩:=W0 hf;have e:=H0y hf g.1 g.2.1 g.1.toNat 1 P0 g.2.2 oM oM (j1 oM) oM;rw[show((1:Nat):Int)=1 from rfl]at e;have j:=z0w i h;have m:=r0t hf g.1.toNat 1;have f:=W0b (g.2.2++nwA g g.1.toNat 1) oG;rw[Q0j (T05 (A3 hf))]at f;unfold r07;obtain⟨a,b,c⟩:=g;simp only at j e h i f ⊢;unfold a00;grind
def k0a{g:j0}{e:O0}:e∈(r07 g).2.2↔e∈g.2.2∨∃ j:Nat,(1<=j/\j<1+g.1.toNat)/\e∈S0n g (j:Int):=by unfold r07;simp only;rw[C5 j4,q0t]
def l0a{g:j0}{j:Nat}{e:O0}(h:e∈S0n g (j:Int)):e.2.1=(j:Int)/\(∃ i:Nat,(m05 g (j:Int) g.2.1.toNat 0)[i]?=some e.1/\(m05 g (-(j:Int)) g.2.1.toNat 0)[i]?=some e.2.2) /\ ((0<=e.1/\e.1.toNat<g.2.1.toNat)/\Q0 g e.1 (j:Int)<0)/\((0<=e.2.2/\e.2.2.toNat<g.2.1.toNat)/\Q0 g e.2.2 (-(j:Int))<0):=by obtain⟨p,i,c,d⟩:=r0q _ _ _ _ h;obtain⟨a,f,k,l⟩:=i0a.1 (mG c);obtain⟨b,m,n,o⟩:=i0a.1 (mG d);grind
theorem A0w{l:List Int}(h:l.Nodup){i j:Nat}{x:Int}(a:l[i]?=some x)(b:l[j]?=some x):i=j:=by
 grind[List.getElem?_eq_some_iff,Nat.lt_trichotomy,absurd,List.pairwise_iff_getElem]
theorem B0w{a b:O0}(c:a.1=b.1)(d:a.2.1=b.2.1)(e:a.2.2=b.2.2):a=b:=by obtain⟨f,g,h⟩:=a;obtain⟨i,j,k⟩:=b;simp only at c d e;rw[c,d,e]
theorem s0t{g:j0}(hf:K0 g){a b:O0}(c:a∈(r07 g).2.2)(d:b∈(r07 g).2.2)(p:a.2.1=b.2.1)(q:a.1=b.1∨a.2.2=b.2.2):a=b:=by
 obtain⟨h,v,w,z⟩:=W0 hf;rcases k0a.1 c with c|⟨i,n,c⟩<;>rcases k0a.1 d with d|⟨j,o,d⟩;·have e:=v01 hf c;have m:=v01 hf d;grind
 ·have e:=v01 hf c;have l:=h a c;obtain⟨f,_,f3,k⟩:=l0a d;grind
 ·have e:=v01 hf d;have l:=h b d;obtain⟨f,_,f3,k⟩:=l0a c;grind
 obtain⟨f,⟨x,f2,f3⟩,_,_⟩:=l0a c;obtain⟨s,⟨y,t,u⟩,_,_⟩:=l0a d;grind[A0w,t0e,B0w,oJ]
def T0n{g:j0}(hf:K0 g):inG (r07 g):=λe a=>by
 obtain⟨b,h,j,k⟩:=W0 hf;rcases k0a.1 a with a|⟨i,f,a⟩;·exact b e a
 obtain⟨c,_,f3,d⟩:=l0a a;show(0<=e.1/\e.1<g.2.1)/\(0<=e.2.2/\e.2.2<g.2.1)/\1<=e.2.1/\e.2.1<=g.1;omega
def s0q{g:j0}(hf:K0 g):Asc V0 (r07 g).2.2:=I02 j4 _ _ (T05 (A3 hf))
def C0w{g:j0}(hf:K0 g)(l:g.2.1*g.1<=120):(r07 g).2.2.length<=120:=by
 obtain⟨q,s,t,u⟩:=W0 hf;have d:=T0n hf;have m:=d0a (s0q hf);have k:((r07 g).2.2.map λe=>e.1*g.1+(e.2.1-1)).Nodup:=by rw[List.Nodup,List.pairwise_map];refine List.Pairwise.imp_of_mem (λ{a b} h i p e=>?_) m;have f:(0<=a.1/\a.1<g.2.1)/\(0<=a.2.2/\a.2.2<g.2.1)/\1<=a.2.1/\a.2.1<=g.1:=d a h;have o:(0<=b.1/\b.1<g.2.1)/\(0<=b.2.2/\b.2.2<g.2.1)/\1<=b.2.1/\b.2.1<=g.1:=d b i;have c:g.1=1∨g.1=2∨g.1=3:=oM;grind[s0t]
 have:=A01 120 _ k λx n=>by obtain⟨e,j,rfl⟩:=List.mem_map.1 n;have f:(0<=e.1/\e.1<g.2.1)/\(0<=e.2.2/\e.2.2<g.2.1)/\1<=e.2.1/\e.2.1<=g.1:=d e j;have c:g.1=1∨g.1=2∨g.1=3:=oM;rcases c with c|c|c<;>rw[c]at l f ⊢<;>omega
 rwa [List.length_map]at this
def m0c{g:j0}(hf:K0 g)(e:g.2.1*g.1<=120):K0 (r07 g):=by
 obtain⟨l,f,h,m⟩:=W0 hf;have d:X0 (r07 g):=(b03 _).2 ⟨T0n hf,f,h,C0w hf e,s0q hf⟩;refine(W0c d).2 λa i b j k=>?_;unfold Q07;cases c:(decide (a.2.1=b.2.1)&&(decide (a.1=b.1) || decide (a.2.2=b.2.2)));·rfl
 simp only[aE,Bool.or_eq_true,dE]at c;grind[absurd,s0t]
def I0u{g:j0}(hf:K0 g):Q0d (r07 g):=λv o x d=>by
 obtain⟨w,y,z,A⟩:=W0 hf;have s:0<=v/\v<g.2.1:=a0h (T0n hf) (show(0:Int)<g.2.1 by omega) o;have d:x∈U7 g.1.toNat 1:=d;obtain⟨j,t,u,p⟩:=J0f _ _ _ d;have up:∀ e∈g.2.2,e∈(r07 g).2.2:=λe b=>k0a.2 (.inl b);rcases z04 g v x with⟨f,_⟩|f
 ·have m:x=(j:Int)∨x = -(j:Int):=p;have q:=E0i hf (j:Int);rcases m with rfl|rfl;·have c:v∈m05 g (j:Int) g.2.1.toNat 0:=i0a.2 ⟨v.toNat,oM,oM,oM⟩;obtain⟨i,a⟩:=List.getElem?_of_mem c;have n:=(gI.1 a).1;have l:=V3 (show i<(m05 g (-(j:Int)) g.2.1.toNat 0).length by omega);exact⟨_,V2.2 ⟨(v,(j:Int),_),k0a.2 (.inr ⟨j,oM,mG (l0c _ _ _ i _ _ a l)⟩),.inl ⟨oM,rfl,rfl,rfl⟩⟩⟩
  have c:v∈m05 g (-(j:Int)) g.2.1.toNat 0:=i0a.2 ⟨v.toNat,oM,oM,oM⟩;obtain⟨i,a⟩:=List.getElem?_of_mem c;have n:=(gI.1 a).1;have k:=V3 (show i<(m05 g (j:Int) g.2.1.toNat 0).length by omega);exact⟨_,V2.2 ⟨(_,(j:Int),v),k0a.2 (.inr ⟨j,oM,mG (l0c _ _ _ i _ _ k a)⟩),.inr ⟨oM,oS,rfl,rfl⟩⟩⟩
 obtain⟨e,b,h⟩:=V2.1 f;exact⟨_,V2.2 ⟨e,up e b,h⟩⟩
def D0w{g:j0}(hf:K0 g)(a:g.2.1*g.1<=120):U07 (z07 (r07 g)):=x0w (m0c hf a) (I0u hf)
def e04(g:j0)(w:List Int):j0×Bool :=
 bif decide ((L2 g 0 w).2<w.length)then
  (bif(t6 g).2 then V1 (t6 g).1 (L2 g 0 w).1 (w.drop (L2 g 0 w).2) g.2.1 else((0,0,[]),false))
 else(g,true)
def J0r{g:j0}(hf:K0 g){w:List Int}(C:J1 g.1 w):D04 g w=some (e04 g w):=by
 unfold e04;have m:=A3 hf;obtain⟨p,G,D,H⟩:=W0 hf;obtain⟨wl,E⟩:=V7 C;have o:∀ x∈w,I3 x:=λx f=>(E x f).1;have z:(0:Int)<=0/\(0:Int)<g.2.1:=⟨iR _,oM⟩;have i:=x0u hf z o oM;have e:=g05 g w 0;have d:=u0n g hf 0 z (w.take (L2 g 0 w).2) (λx f=>o x (List.mem_of_mem_take f)) oG;rw[m0k,List.length_take,show min (L2 g 0 w).2 w.length=(L2 g 0 w).2 by omega,dF (Nat.lt_irrefl _)]at d;have j:=h05 p D.2 w 0 ⟨oM,oM⟩;have F:=s04 g oM;have l:=Z0b (xs:=w) (k:=(L2 g 0 w).2) e;have s:=E05 (xs:=w) (k:=(L2 g 0 w).2) e;have t:=Y0h m;have A:=Q08 p w 0 z;have y:=y07 m;have q:(t6 g).2->_:=λh=>M0d (g:=(t6 g).1) (u:=(L2 g 0 w).1) (v:=g.2.1) (w:=w.drop (L2 g 0 w).2) y (by grind[e0d]) (by grind[e0d]) (by simp_all[e0d,r0m]);generalize L2 g 0 w=R at *;obtain⟨v,n⟩:=R;obtain⟨a,b,c⟩:=g;simp only at i d j l s e A q ⊢;unfold D04;simp only[i,oB];rw[C0 (show H0 ((n:Nat):Int) from⟨oM,oM⟩),oB];by_cases c1:n<w.length;·rw[iE oG,dT c1,l,oB,d];simp only[zF,oB];rw[C0 j,oB,t];grind
 grind
def K0r{g:j0}(hf:K0 g){w:List Int}(s:J1 g.1 w): ∃ v:Int,H0 v/\l05 g w=some (bif(e04 g w).2 then((e04 g w).1,v,true)else((0,0,[]),0,false)):=by
 unfold e04;have j:=A3 hf;obtain⟨d,D,e,E⟩:=W0 hf;obtain⟨wl,A⟩:=V7 s;have t:∀ x∈w,I3 x:=λx y=>(A x y).1;have z:(0:Int)<=0/\(0:Int)<g.2.1:=⟨iR _,oM⟩;have f:=v0j g d e.2 oM 0 w t oM;have l:=g05 g w 0;have i:=h05 d e.2 w 0 ⟨oM,oM⟩;have o:=E05 (xs:=w) (k:=(L2 g 0 w).2) l;have C:=Z0h j;have q:=Q08 d w 0 z;have p:=y07 j;have m:(t6 g).2->_:=λh=>N0d (g:=(t6 g).1) (u:=(L2 g 0 w).1) (v:=g.2.1) (w:=w.drop (L2 g 0 w).2) p (by grind[e0d]) (by rw[(e0d h).1];simp only;omega) (by simp_all[e0d,r0m]);generalize L2 g 0 w=R at *;obtain⟨v,n⟩:=R;obtain⟨a,b,c⟩:=g;simp only at f i o l q m e ⊢;unfold l05;simp only[f,oB];rw[C0 i,oB,C0 (show H0 ((n:Nat):Int) from⟨oM,oM⟩),oB];by_cases c1:n<w.length;·refine⟨b,⟨oM,oM⟩,?_⟩;grind
 grind
def z02(g:j0)(w:List Int):j0×Bool :=
 bif K1 g&&(J1 g.1 w && !o9 g w)then
  (bif(e04 g w).2 then(bif(P06 (e04 g w).1).2 then(q06 (P06 (e04 g w).1).1,true)else((0,0,[]),false))else((0,0,[]),false))
 else((0,0,[]),false)
theorem t0q{g:j0}(hf:K0 g)(w:List Int):(e04 g w).1.2.2.length<=120:=by have a:=A3 hf;obtain⟨b,c,d,e⟩:=W0 hf;have h:=E0p (y07 a) (L2 g 0 w).1 (w.drop (L2 g 0 w).2) g.2.1;unfold e04;grind
def U0n{g:j0}(h:(P06 g).2):X0 (P06 g).1/\K0 g/\g.2.1*g.1<=120/\P06 g=(r07 g,true):=by
 unfold P06 at h ⊢;cases c:(K0 g&&decide (g.2.1*g.1<=120));·rw[c]at h;cases h
 simp_all[aE,dE,A3,m0c]
def J0u(g:j0)(m:g.2.2.length<=1099511627776)(w:List Int)(l:w.length<=140737488355328):L8 g w=some (z02 g w):=by
 have h0:=s04 g oM;have e:=h0c g oM;have d:=y03 g.1 w l;unfold z02;cases hc:K1 g;·rw[hc]at e;obtain⟨a,b,c⟩:=g;unfold L8 Z9;grind
 rw[hc]at e;have hf:=G2 hc;cases hwd:J1 g.1 w;·rw[hwd]at d;obtain⟨a,b,c⟩:=g;simp only at d;unfold L8 Z9;simp only[h0,e,oB,bT,bF,lS,zF];rw[iE oS,show P0=9223372036854775807+1 from rfl,O5.eq_2,iP oS,show gi [w] 0=some w from rfl];simp only[oB,d,bF,bT,O1,cT,if_true,M2,Bool.false_and,Bool.and_false,zF]
 rw[hwd]at d;have f:=O08 (r:=g.1) hc hwd;have i:=J0r hf hwd;have j:=H0r (e04 g w).1 (by grind[t0q]);have k:(P06 (e04 g w).1).2->_:=λh=>N0h (U0n h).1;obtain⟨a,b,c⟩:=g;simp only at d;unfold L8 Z9;simp only[h0,e,oB,bT,bF,lS,zF];rw[iE oS,show P0=9223372036854775806+1+1 from rfl,O5.eq_2,iP oS,show gi [w] 0=some w from rfl];simp only[oB,d,bF,bT,H1,zF,f,Bool.true_and];cases o9 (a,b,c) w
 ·simp only[fT,if_false,i,oB,bF,cT];generalize e04 (a,b,c) w=q at *;obtain⟨⟨x,y,z⟩,ok⟩:=q;cases ok;·rfl
  simp only[bT,fT,if_false,cT];rw[O5.eq_2,iE (by rw[show i64.wrap (0+1)=1 by decide];simp)];simp only[oB,S0]at j k ⊢;grind
 rfl
def K0u(g:j0)(n:g.2.2.length<=1099511627776)(w:List Int)(m:w.length<=140737488355328):M8 g w=some (z02 g w):=by
 have e:=q00 g oM;have d:=U00 g.1 w m;unfold z02;cases hc:K1 g;·rw[hc]at e;obtain⟨a,b,c⟩:=g;unfold M8 b00;grind
 rw[hc]at e;have hf:=G2 hc;cases hwd:J1 g.1 w;·rw[hwd]at d;obtain⟨a,b,c⟩:=g;simp only at d;unfold M8 b00;simp only[e,oB,bT,bF,lS,zF];rw[iE oS,show P0=9223372036854775807+1 from rfl,R5.eq_2,iP oS,show gi [w] 0=some w from rfl];simp only[oB,d,bF,bT,O1,cT,if_true,M2,Bool.false_and,Bool.and_false,zF]
 rw[hwd]at d;have f:=T0p (r:=g.1) hc hwd;obtain⟨v,l,i⟩:=K0r hf hwd;have j:=I0r (e04 g w).1 (by grind[t0q]);have k:(P06 (e04 g w).1).2->_:=λh=>O0h (U0n h).1;obtain⟨a,b,c⟩:=g;simp only at d;unfold M8 b00;simp only[e,oB,bT,bF,lS,zF];rw[iE oS,show P0=9223372036854775806+1+1 from rfl,R5.eq_2,iP oS,show gi [w] 0=some w from rfl];simp only[oB,d,bF,bT,H1,zF,f,Bool.true_and];cases o9 (a,b,c) w
 ·simp only[fT,if_false,bF,cT];rw[R5.eq_2,iE (by rw[show i64.wrap (0+1)=1 by decide];simp)];simp only[oB,S0];rw[n7.eq_2,iP oS,show gi [w] 0=some w from rfl];simp only[oB,i];generalize e04 (a,b,c) w=q at *;obtain⟨⟨x,y,z⟩,ok⟩:=q;cases ok;·simp only[zF];rw[C0 (show H0 0 from⟨oM,oM⟩)];rfl
  simp only[cT];rw[C0 l];simp only[oB,bT,fT,if_false];rw[n7.eq_2,iE (by rw[show i64.wrap (0+1)=1 by decide];simp)];simp only[oB,S0]at j k ⊢;grind
 rfl
def Rd.app{x:j0}:∀ {a b:List Int} {u v z:Int},Rd x u a v->Rd x v b z->Rd x u (a++b) z
 | [],b,u,v,z,h,k=>by obtain rfl:u=v:=h;exact k
 |l::a,b,u,v,z,⟨y,c,h⟩,k=>⟨y,c,Rd.app h k⟩
theorem D0k:∀(d:Nat) (g:j0),(t9 d g).1=g.1
 |0,g=>rfl
 |d+1,g=>by
  unfold t9;cases F9 g with
  |none=>rfl
  |some k=>exact D0k d _
theorem L0r{g:j0}(a:X0 g):K1 (q06 g):=j0m (t04 a)
theorem E0k:∀(n:Nat) (g:j0),(L02 n g).1.1=g.1
 |0,g=>rfl
 |n+1,g=>by
  unfold L02;cases B9 g.2.2 with
  |nil=>rfl
  |cons f r=>exact E0k n _
theorem M0r(g:j0):(q06 g).1=g.1:=by show(t9 40 (P9 g).1).1=g.1;grind[D0k,P9,X0,E0k]
theorem F0k:∀(ws:List (List Int)) (g:j0),(G07 ws g).1=g.1
 | [],g=>rfl
 |w::ws,g=>by show(G07 ws (V1 g 0 w 0).1).1=g.1;rw[F0k ws,o06]
def W0a{r:Int}{ws:List (List Int)}(h:(D2 r ws).2):K1 (D2 r ws).1/\(D2 r ws).1.1=r:=by
 unfold D2 at h ⊢;cases hA:j2 r ws;·rw[hA]at h;cases h
 rw[(cT)];grind[L0r,P08,q06,M0r,F0k]
def N0r(g:j0)(w:List Int):j0×Bool:=bif K1 g&&J1 g.1 w then (bif decide (((w.length:Nat):Int)=0)then(g,true)else(bif(V1 g 0 w 0).2 then(q06 (V1 g 0 w 0).1,true)else((0,0,[]),false)))else((0,0,[]),false)
def S08:j6×Bool:=((0,0,[],[],[],(0,0,[]),0),false)
def I7(k r:Int)(l:List (List Int))(w:List Int):j6×Bool :=
 bif(D2 r l).2&&J1 r w then
  (bif decide (k=1)then(bif(W03 (D2 r l).1 w).2 then((k,r,l,w,(W03 (D2 r l).1 w).1,(D2 r l).1,0),true)else S08)
  else bif decide (k=2)then(bif(z02 (D2 r l).1 w).2 then((k,r,l,w,[],(z02 (D2 r l).1 w).1,0),true)else S08)
  else bif decide (k=3)then(bif(N0r (D2 r l).1 w).2&&V0b (D2 r l).1 (N0r (D2 r l).1 w).1 then((k,r,l,w,[],(N0r (D2 r l).1 w).1,0),true)else S08)
  else bif decide (k=4)then(bif(d0d (D2 r l).1 w).2 then((k,r,l,w,[],(d0d (D2 r l).1 w).1,0),true)else S08)
  else bif decide (k=5)then(bif decide (n0k (D2 r l).1=((l.length:Nat):Int))then((k,r,l,w,[],(D2 r l).1,n0k (D2 r l).1),true)else S08)
  else bif decide (k=6)then(bif decide (f08 (D2 r l).1>0)then((k,r,l,w,[],(D2 r l).1,f08 (D2 r l).1),true)else S08)
  else S08)else S08
def I0w:∀ {w:List Int} {i:Nat} {x y:Int},Rdc w->w[i]?=some y->w[i+1]?=some x->x ≠ -y
 | [],i,x,y,_,h,_=>by cases h
 | [a],i,x,y,_,_,h=>by simp at h
 |a::b::r,0,x,y,c,h,k=>by obtain rfl:=oJ h;obtain rfl:=oJ k;exact c.1
 |a::b::r,i+1,x,y,c,h,k=>I0w (w:=b::r) c.2 h k
def W0n{r:Int}(l:1<=r/\r<=3){w:List Int}(h:w.length<=24)(c:u0q r w)(g:Rdc w):J1 r w:=by
 unfold J1;rw[show inR 1 3 r=true by simp[inR];omega,dT h,Y0g λi _ k=>?_];·rfl
 have a:=V3 (show i<w.length by omega);have d:=c _ (mG a);unfold C08;rw[a];simp only;generalize w[i]=x at a d;have e:(x == 0)=false:=by simpa using d.1
 have f:inR (-r) r x:=by simp[inR];omega
 rw[e,f];cases i with
 |zero=>rfl
 |succ i =>have b:=V3 (show i<w.length by omega);have j:=c _ (mG b);have:=I0w g b a;rw[show i+1-1=i from rfl,b];generalize w[i]=y at b j this;simp only[bT,Bool.false_or,Bool.and_eq_false_iff,beq_eq_false_iff_ne];grind[w64]
def J0w(g:j0):V0b g g:=dT rfl
def v0q{r:Int}{ws:List (List Int)}:(D2 r ws).1.2.2.length<=120:=by
 cases h:(D2 r ws).2;·unfold D2 at h ⊢;grind
 exact(W0 (G2 (W0a h).1)).2.2.2
def I0y{r:Int}{l:List (List Int)}{w:List Int}(h:(D2 r l).2)(a:j2 r l)(e:J1 r w)(c:o9 (D2 r l).1 w):Q0n (1,r,l,w,(W03 (D2 r l).1 w).1,(D2 r l).1,0):=by obtain⟨b,d⟩:=W0a h;show j0c 1 r l w (W03 (D2 r l).1 w).1 (D2 r l).1 0;unfold j0c Q0f;simp_all[J0w,u0z,dT,iP,eqW]
def C0A(r:Int)(l:List (List Int))(w:List Int)(t:l.length<=1048576)(o:∀ x∈l,x.length<=1048576)(p:K7 l)(u:w.length<=1048576):l03 1 r l w=some (I7 1 r l w):=by
 have f:=w0z l oM (λx s=>by have:=o x s;omega);have i:=q0m r l oM p;have a:=y03 r w oM;have m:=λh => @W0a r l h;unfold I7 l03 r06 t05;rw[f,oB,C0 (by simp only[lN];omega),oB,(nA)];simp only[i,oB];generalize D2 r l=q at *;obtain⟨g,ok⟩:=q;cases ok;·obtain⟨b,c,d⟩:=g;simp[O1,S08]
 have e:=m rfl;simp only at e;cases hW:J1 r w;·obtain⟨b,c,d⟩:=g;rw[hW]at a;simp[H1,a,S08]
 obtain⟨k,n⟩:=e;have j:=d0q k (by rw[n];exact hW);rw[hW]at a;obtain⟨b,c,d⟩:=g;generalize W03 (b,c,d) w=a1 at *;obtain⟨v,p2⟩:=a1;simp only[H1,a,oB,bT,bF,zF,cT,fT,if_false,Bool.and_self,j,decide_true,if_true];cases p2<;>rfl
def D0A(r:Int)(l:List (List Int))(w:List Int)(v:l.length<=1048576)(s:∀ x∈l,x.length<=1048576)(t:K7 l)(y:w.length<=1048576):m03 1 r l w=some (I7 1 r l w):=by
 have j:=e0A l oM (λx u=>by have:=s x u;omega);have i:=F0w (a:=w) oM;have k:=X0g r l oM t;have b:=U00 r w oM;have o:=λh => @W0a r l h;unfold I7 m03;simp only[k,oB];generalize D2 r l=q at *;obtain⟨g,ok⟩:=q;cases ok;·obtain⟨c,d,e⟩:=g;simp[O1,S08]
 have f:=o rfl;simp only at f;cases hW:J1 r w;·obtain⟨c,d,e⟩:=g;rw[hW]at b;simp[H1,b,S08]
 obtain⟨n,p⟩:=f;have m:=e0q n (by rw[p];exact hW);rw[hW]at b;obtain⟨c,d,e⟩:=g;generalize W03 (c,d,e) w=a1 at *;obtain⟨z,p2⟩:=a1;simp only[H1,i,j,b,oB,bT,bF,zF,cT,fT,if_false,Bool.and_self,m,decide_true,if_true];cases p2<;>rfl
def g0A(r:Int)(ws:List (List Int))(w d:List Int)(g:j0)(n:Int)(h:ws.length<=140737488355328)(i:K7 ws)(s:w.length<=140737488355328)(f:g.2.2.length<=140737488355328): R6 (1,r,ws,w,d,g,n)=some (j0c 1 r ws w d g n):=by
 have m:=g06 r ws h i;have o:=U00 r w s;have p:=q00 g f;have q:=w0u g f ws h i;unfold j0c;obtain⟨a,b,c⟩:=g;unfold R6;simp only[m,oB];cases hA:j2 r ws;·simp only[bF,bT,O1,oB,cT,if_true,Bool.false_and,zF]
 simp only[bT,bF,H1,o,oB,zF];cases hW:J1 r w;·simp only[bF,bT,O1,oB,cT,if_true,Bool.false_and,Bool.and_false,zF]
 simp only[bT,bF,H1,p,oB,zF];cases hc:K1 (a,b,c);·simp only[bF,cT,if_true,Bool.and_false,zF]
 simp only[bT,zF];by_cases hr:a=r;·subst hr;have e:=z0u hc;have j:=I0x hc;have k:=y0u e d;have l:=Z0g (a:=P0h (a01 (a,b,c)) d) (b:=w) (by have:=P0x e d;omega);simp only[decide_true,bT,fT,if_false,if_true,Bool.and_self,cT,q,oB];cases Q0f (a,b,c) ws<;>simp[H1,O1,j,k,l]
 simp only[dF hr,bF,if_true,Bool.and_false,Bool.false_and,zF]
def J0y(r:Int)(a:1<=r/\r<=3):R7 (r,[])=some true:=by unfold R7 l02;simp only[d02];rw[show inR 1 3 r=true by simp[inR];omega,oB,show P0=(P0-1)+1 from rfl,S5.eq_2,iE oD];rfl
def h0A{r:Int}(g:1<=r/\r<=3){c:j6}(e:c.2.1=r)(f:R6 c=some true):R7 (r,[c])=some true:=by obtain⟨k,d,ws,w,p,⟨a,b,es⟩,n⟩:=c;simp only at e;subst e;unfold R7 l02;simp only[d02];rw[show inR 1 3 d=true by simp[inR];omega,oB,show P0=(P0-2)+1+1 from rfl,S5.eq_2,iP oS];simp only[show gi [((k,d,ws,w,p,(a,b,es),n):j6)] 0=some (k,d,ws,w,p,(a,b,es),n) from rfl,oB,decide_true,bT,bF,H1,f,zF];rw[iE oD,show i64.wrap (0+1)=1 from oD,S5.eq_2,iE oS];rfl
def E0A{r:Int}(i:1<=r/\r<=3){c:j6}(d:c.2.1=r)(h:f0A c)(g:R6 c=some true):X03 (r,[]) c=some ((r,[c]),true):=by have e:=G0w c h;have f:=J0y r i;obtain⟨k,j,ws,w,p,⟨a,b,es⟩,n⟩:=c;simp only at d;subst d;unfold X03 P02;simp only;rw[show P0=(P0-1)+1 from rfl,j9.eq_2,iE oD,oB];simp only[oB,f,e,g,decide_true,bT,bF,zF,H1];rw[iE oD,C0 oS,oB];rfl
def t0t{a:List Int}(b:a.length<=1099511627776):N4 a=some a:=by unfold N4;rw[C0 (by simp;omega)];rfl
def sm(r:Int)(w:List Int):Prop:=∀ x∈w,x≠0 /\ -r<=x/\x<=r
def i0A{r:Int}(b:r<=3){w:List Int}(h:sm r w):H07 w:=λx a=>by have:=h x a;exact⟨oM,oM⟩
def u0t{x:Int}(a : -3<=x)(b:x<=3):ng x = -x:=by unfold ng;rw[w64 oM oM];omega
def W0x{r:Int}(d:r<=3){l x:Int}(h0:l≠0)(a : -r<=l)(b:l<=r):Q04 l x=decide (x = -l):=by
 unfold Q04;rw[u0t oM oM,show(l == 0)=false by simpa using h0,show(l == -9223372036854775808)=false by simp;omega];by_cases c:x = -l;·simp[c]
 simp[c]
def K0w{r:Int}{b:List Int}{x:Int}(c:sm r b)(d:x≠0 /\ -r<=x/\x<=r):sm r (A7 b x):=by
 unfold A7;cases b with
 |nil=>intro y a;simp at a;rw[a];exact d
 |cons l t =>
  simp only;cases Q04 l x
  ·intro y a;rcases mE.1 a with rfl|a;·exact d
   exact c y a
  exact λy a=>c y (mC _ a)
def F0i{r:Int}:∀(w a:List Int),sm r a->sm r w->sm r (A6 a w)
 | [],a,b,_=>b
 |x::w,a,b,c=>F0i w (A7 a x) (K0w b (c x mS)) λy d=>c y (mC _ d)
def rdP(l:List Int):Prop:=∀ A x y B,l=A++x::y::B->y ≠ -x
def x0z{P m Q:List Int}(h:rdP (P++(m++Q))):rdP m:=λA x y B e=>h (P++A) x y (B++Q) (by rw[e];simp)
def y0z{l:List Int}(h:rdP l):rdP l.reverse:=λA x y B e=>by have:=h B.reverse y x A.reverse (by have:=congrArg List.reverse e;rw[List.reverse_reverse]at this;rw[this];simp);omega
def L0w{r:Int}(i:r<=3):∀ {l:List Int},sm r l->Red l->rdP l
 | [],_,_,A,x,y,B,e=>by cases A<;>cases e
 | [a],_,_,A,x,y,B,e=>by
  cases A with
  |nil=>cases e
  |cons b A=>cases A<;>cases e
 |a::b::t,j,h,A,x,y,B,e=>by
  cases A with
  |nil =>simp only[nA,List.cons.injEq]at e;obtain⟨rfl,rfl,rfl⟩:=e;have d:=j b oS;have g:=h;simp only[Red,aE]at g;have f:=g.1;rw[W0x i d.1 d.2.1 d.2.2]at f;simp only[Bool.not_eq_true',decide_eq_false_iff_not]at f;omega
  |cons c A =>simp only[List.cons_append,List.cons.injEq]at e;exact L0w i (λx k=>j x (mC _ k)) (Q0p h) A x y B e.2
def ccA:Nat->List Int->List Int×List Int
 |0,l=>(l,[])
 |n+1,l=>if 2<=l.length/\l.headD 0 = -(l.getLastD 0)then((ccA n l.tail.dropLast).1,l.headD 0::(ccA n l.tail.dropLast).2)else(l,[])
def z0z{l:List Int}(h:2<=l.length):∃ a m b,l=a::(m ++ [b])/\l.headD 0=a/\l.getLastD 0=b/\l.tail.dropLast=m:=by
 cases l with
 |nil=>simp at h
 |cons a r =>
  have c:r≠[]:=λe=>by rw[e]at h;simp at h
  refine⟨a,r.dropLast,r.getLast c,by rw[List.dropLast_concat_getLast],rfl,?_,rfl⟩;cases r with
  |nil=>exact absurd rfl c
  |cons b t=>simp[List.getLastD,List.getLast]
def b0h:∀(n:Nat) (l:List Int),∃ q,l=(ccA n l).2++((ccA n l).1++q)
 |0,l=>⟨[],by simp[ccA]⟩
 |n+1,l=>by
  unfold ccA;split
  ·rename_i c;obtain⟨a,m,b,e,f,h,g⟩:=z0z c.1;obtain⟨q,d⟩:=b0h n l.tail.dropLast;refine⟨q ++ [b],?_⟩;rw[g]at d ⊢;rw[f];conv=>lhs;rw[e,d]
   simp
  exact⟨[],oS⟩
def V0f{n:Nat}{l:List Int}(h : ¬ (2<=l.length/\l.headD 0 = -(l.getLastD 0))):ccA n l=(l,[]):=by
 cases n with
 |zero=>rfl
 |succ n=>unfold ccA;rw[iE h]
def v0t(n:Nat)(l:List Int):(ccA n l).1.length<=l.length/\(ccA n l).2.length<=l.length:=by obtain⟨q,e⟩:=b0h n l;have:=congrArg List.length e;simp only[lA]at this;omega
def X0x{r:Int}{n:Nat}{l:List Int}(h:sm r l):sm r (ccA n l).1/\sm r (ccA n l).2:=by obtain⟨q,e⟩:=b0h n l;exact⟨λx a=>h x (by rw[e];simp[a]),λx a=>h x (by rw[e];simp[a])⟩
def G0k{a:Type}{xs:List a}{i j:Nat}(b:i<=j)(c:j<=xs.length):b05 xs (i:Int) (j:Int)=some ((xs.take j).drop i):=by unfold b05;rw[iP ⟨oM,oM,oM⟩];simp
def K0y{r:Int}(v:r<=3):∀(n fuel:Nat) (x p:List Int),x.length<=n->n<fuel->sm r x->x.length+p.length<=1000000 -> N8 fuel x p=some ((ccA n x).1,p++(ccA n x).2)
 |n,0,x,p,u,hf,d,t=>oM
 |n,fuel+1,x,p,u,hf,d,t=>by
  rw[N8.eq_2];by_cases c:2<=x.length
  ·obtain⟨a,m,b,e,f,g,o⟩:=z0z c;have C:=d a (by rw[e];simp);have D:=d b (by rw[e];simp);have E:x.length=m.length+2:=by rw[e];simp
   have l:gi x 0=some a:=by rw[e];exact U1 (k:=0) rfl
   have q:gi x (i64.wrap (((x.length:Nat):Int)-1))=some b:=by rw[w64 oM oM,show((x.length:Nat):Int)-1=((m.length+1:Nat):Int) by omega];refine U1 ?_;rw[e];simp
   rw[show decide (((x.length:Nat):Int)>1)=true from dT oM];simp only[H1,l,q,oB,cT];rw[show i64.wrap (0-b) = -b from u0t oM oM];obtain⟨n,rfl⟩:∃ A,n=A+1:=⟨n-1,oM⟩;by_cases c2:a = -b
   ·have w:ccA (n+1) x=((ccA n m).1,a::(ccA n m).2):=by show(if 2<=x.length/\x.headD 0 = -(x.getLastD 0)then((ccA n x.tail.dropLast).1,x.headD 0::(ccA n x.tail.dropLast).2)else(x,[]))=_;rw[iP ⟨c,by rw[f,g];exact c2⟩,f,o]
    have s:b05 x 1 (i64.wrap (((x.length:Nat):Int)-1))=some m:=by rw[w64 oM oM,show((x.length:Nat):Int)-1=((m.length+1:Nat):Int) by omega];have:=G0k (xs:=x) (i:=1) (j:=m.length+1) oM oM;rw[show((1:Nat):Int)=1 from rfl]at this;rw[this,e];simp
    rw[dT c2];simp only[H1,l,oB,cT];rw[show i64.wrap (0-a) = -a from u0t oM oM,show decide (a = -a)=false from dF oM,iP (show(!false)=true from rfl),C0 (by simp;omega),oB,s,oB,
     K0y v n fuel m (p ++ [a]) oM oM (λy z=>d y (by rw[e];simp[z])) (by simp;omega),w]
    simp
   rw[dF c2];simp only[O1,oB,zF,fT,if_false];rw[V0f λh=>c2 (by rw[←f,←g];exact h.2)];simp
  rw[show decide (((x.length:Nat):Int)>1)=false from dF oM];simp only[O1,oB,zF,fT,if_false];rw[V0f λh=>c h.1];simp
def n04(w:List Int):List Int×List Int:=ccA (A6 [] w).length (A6 [] w).reverse
def M0w{r:Int}(a:r<=3){w:List Int}(b:sm r w)(j:w.length<=300000):A02 w=some (n04 w):=by have c:=K8 w (i0A a b) oM;have f:=j05 w [];simp only[lN]at f;have g:sm r (A6 [] w).reverse:=λx h=>F0i w [] (λy i=>by cases i) b x (List.mem_reverse.1 h);have d:=K0y a (A6 [] w).length P0 (A6 [] w).reverse [] oS (j1 oM) g (by simp;omega);have e:=v0t (A6 [] w).length (A6 [] w).reverse;rw[List.length_reverse]at e;unfold A02 n04;rw[c,oB,d,oB];simp only[nA];rw[C0 (by simp;omega),oB]
def i0l{c:List Int}{k:Nat}(h:2*k+2<=c.length){a b:Int}(f:c[k]?=some a)(g:c[c.length-k-1]?=some b): (c.take (c.length-k)).drop k=a::((c.take (c.length-(k+1))).drop (k+1) ++ [b]):=by
 have d:c.take (c.length-k)=c.take (c.length-(k+1)) ++ [b]:=by rw[show c.length-k=(c.length-k-1)+1 by omega,Q0l g,show c.length-k-1=c.length-(k+1) by omega]
 rw[d,List.drop_append_of_le_length (by rw[List.length_take];omega)];have e:(c.take (c.length-(k+1))).drop k=a::(c.take (c.length-(k+1))).drop (k+1):=I1 (by rw[List.getElem?_take,iP oM];exact f);rw[e];rfl
def L0y{r:Int}(u:r<=3)(c:List Int)(j:sm r c)(s:c.length<=1000000):∀(n k fuel:Nat),c.length<=2*k+n->2*k<=c.length->n<fuel -> ∃ d,2*d<=c.length/\k<=d/\J7 c fuel (k:Int) ((c.length-k:Nat):Int)=some ((d:Int),((c.length-d:Nat):Int))/\ccA n ((c.take (c.length-k)).drop k)=((c.take (c.length-d)).drop d,(c.take d).drop k)
 |n,k,0,t,i,hf=>oM
 |n,k,fuel+1,t,i,hf=>by
  have m:∀(h : ¬ (2<=((c.take (c.length-k)).drop k).length/\((c.take (c.length-k)).drop k).headD 0 = -(((c.take (c.length-k)).drop k).getLastD 0))),ccA n ((c.take (c.length-k)).drop k)=((c.take (c.length-k)).drop k,(c.take k).drop k):=λh=>by rw[V0f h,List.drop_eq_nil_of_le (show(c.take k).length<=k by rw[List.length_take];omega)]
  have l:i64.wrap (((c.length-k:Nat):Int)-(k:Int))=((c.length-2*k:Nat):Int):=by rw[w64 oM oM];omega
  by_cases h2:2*k+2<=c.length
  ·have f:=V3 (show k<c.length by omega);have g:=V3 (show c.length-k-1<c.length by omega);generalize c[k]=a at f;generalize c[c.length-k-1]=b at g;have p:=j a (mG f);have A:=j b (mG g);have q:=i0l h2 f g;have e:((c.take (c.length-k)).drop k).headD 0=a/\((c.take (c.length-k)).drop k).getLastD 0=b/\((c.take (c.length-k)).drop k).tail.dropLast=(c.take (c.length-(k+1))).drop (k+1)/\2<=((c.take (c.length-k)).drop k).length:=by
    rw[q];refine⟨rfl,?_,?_,oS⟩;·rw[←List.cons_append,List.getLastD_concat]
    simp
   have o:gi c (i64.wrap (((c.length-k:Nat):Int)-1))=some b:=by rw[w64 oM oM,show((c.length-k:Nat):Int)-1=((c.length-k-1:Nat):Int) by omega];exact U1 g
   rw[J7.eq_2,l,show decide (((c.length-2*k:Nat):Int) ≥ 2)=true from dT oM];simp only[H1,U1 f,o,oB,N0a,cT];rw[show i64.wrap (0-a) = -a from u0t oM oM,show(a == 0)=false by simpa using p.1,show(a == -9223372036854775808)=false by simp;omega];by_cases c2:b = -a
   ·obtain⟨n,rfl⟩:∃ v,n=v+1:=⟨n-1,oM⟩;obtain⟨d,w,C,y,z⟩:=L0y u c j s n (k+1) fuel oM oM oM;refine⟨d,w,oM,?_,?_⟩;·rw[show(b == -a)=true by simpa using c2];simp only[bF,Bool.and_self,if_true];rw[w64 (x:=(k:Int)+1) oM oM,w64 oM oM,show(k:Int)+1=((k+1:Nat):Int) by omega,show((c.length-k:Nat):Int)-1=((c.length-(k+1):Nat):Int) by omega];exact y
    show(if 2<=((c.take (c.length-k)).drop k).length/\((c.take (c.length-k)).drop k).headD 0 = -(((c.take (c.length-k)).drop k).getLastD 0)then((ccA n ((c.take (c.length-k)).drop k).tail.dropLast).1,((c.take (c.length-k)).drop k).headD 0::(ccA n ((c.take (c.length-k)).drop k).tail.dropLast).2)else((c.take (c.length-k)).drop k,[]))=_;rw[iP ⟨e.2.2.2,by rw[e.1,e.2.1];omega⟩,e.1,e.2.2.1,z];simp only;rw[show(c.take d).drop k=a::(c.take d).drop (k+1) from I1 (by rw[List.getElem?_take,iP oM];exact f)]
   refine⟨k,i,Nat.le_refl _,?_,m λh=>c2 (by have:=h.2;rw[e.1,e.2.1]at this;omega)⟩;rw[show(b == -a)=false by simpa using c2];simp only[Bool.and_false,fT,if_false]
  refine⟨k,i,Nat.le_refl _,?_,m λh=>by have:=h.1;rw[List.length_drop,List.length_take]at this;omega⟩;rw[J7.eq_2,l,show decide (((c.length-2*k:Nat):Int) ≥ 2)=false from dF oM];simp only[O1,oB,zF,fT,if_false]
def j0l(w:List Int)(a:w.length<=1099511627776):R4 w=some (A6 [] w).reverse:=by unfold R4;rw[k05 [w] oS (by simp only[e0l];omega)];rfl
def N0w{r:Int}(g:r<=3){w:List Int}(h:sm r w)(o:w.length<=300000):B02 w=some (n04 w):=by have d:=j0l w oM;have f:=j05 w [];simp only[lN]at f;have k:sm r (A6 [] w).reverse:=λx l=>F0i w [] (λy m=>by cases m) h x (List.mem_reverse.1 l);unfold B02 n04;rw[d,oB];have e:(A6 [] w).length=(A6 [] w).reverse.length:=oS;rw[e];generalize (A6 [] w).reverse=c at *;obtain⟨n,p,q,a,b⟩:=L0y g c k oM c.length 0 P0 oM oM (j1 oM);rw[show((0:Nat):Int)=0 from rfl,Nat.sub_zero]at a;rw[(dZ),Nat.sub_zero,List.take_length,(dZ)]at b;rw[a,oB,b];simp only;rw[G0k oM oM,oB,t0t (by rw[List.length_drop,List.length_take];omega),oB];have h0:=G0k (xs:=c) (i:=0) (j:=n) oM oM;rw[show((0:Nat):Int)=0 from rfl,(dZ)]at h0;rw[h0,oB,t0t (by rw[List.length_take];omega),oB]
end Go.Proofs.YthakcafglempaaaGreat
