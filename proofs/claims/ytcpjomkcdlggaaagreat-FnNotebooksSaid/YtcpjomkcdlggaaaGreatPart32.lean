/- Texts of the claim, joined: Plain laws: the core of a folded graph is a core and others. -/
import Derived.Test.YtcpjomkcdlggaaaGreatPart31
import Derived.Test.YtcpjomkcdlggaaaGreatPart29
import Derived.Test.YtcpjomkcdlggaaaGreatPart20
import Derived.Test.YtcpjomkcdlggaaaGreatH36
import Derived.Test.YtcpjomkcdlggaaaGreatPart21
import Derived.Test.YtcpjomkcdlggaaaGreatPart22
namespace Go.Proofs.YtcpjomkcdlggaaaGreat
set_option linter.all false
open Go.H
open IntKind (i64)
def r0k:∀(d:Nat) {g:z0},U0 g=true->g.2.1.toNat<=d+1->N01 (S06 d g)=none
 |0,g,a,h=>by
  cases e:N01 g with
  |none=>exact e
  |some k=>have:=K0n e;omega
 |d+1,g,a,h=>by
  unfold S06
  cases e:N01 g with
  |none=>exact e
  |some k =>
   obtain⟨b,i,c,f⟩:=o0h a e
   exact r0k d (J0e a b c f) (by show(((wo k g.2.1.toNat 0).length:Nat):Int).toNat<=d+1;omega)
theorem S0t{g:z0}(hf:N0 g=true){v x y z:Int}(s:y∈s02 v x g.2.2)(t:z∈s02 v x g.2.2):y=z:=by
 obtain⟨e,p,l⟩:=R8.1 s
 obtain⟨k,q,m⟩:=R8.1 t
 by_cases hne:e=k
 ·subst hne
  rcases l with⟨a,b,c,rfl⟩|⟨a,b,c,rfl⟩<;>rcases m with⟨h,i,j,rfl⟩|⟨h,i,j,rfl⟩<;>first|rfl|omega
 ·have f:=(u0d (C3 hf)).1 hf e p k q hne
  unfold b08 at f
  simp only[Bool.and_eq_false_iff,Bool.or_eq_false_iff,decide_eq_false_iff_not]at f
  rcases l with⟨a,b,c,d⟩|⟨a,b,c,d⟩<;>rcases m with⟨h,i,j,o⟩|⟨h,i,j,o⟩<;>first|omega|(exfalso;rcases f with f|⟨u,w⟩<;>omega)
theorem b0b(g:z0)(v x:Int):(D1 g v x = -1/\s02 v x g.2.2 = [])∨D1 g v x∈s02 v x g.2.2:=by
 unfold D1
 cases e:I05 g v x with
 |nil =>
  simp_all[List.eq_nil_iff_forall_not_mem,I05,J01,t05]
 |cons a l=>grind[a0m,List.mem_cons_self]
def c0b{g:z0}(hf:N0 g=true){v x y:Int}(a:y∈s02 v x g.2.2):D1 g v x=y:=by
 grind[b0b,S0t]
def F0p:∀(d i e:Nat),i<=e->e<i+d->(e:Int)∈B7 d i /\ -(e:Int)∈B7 d i
 |0,i,e,f,g=>by omega
 |d+1,i,e,f,g=>by
  simp only[B7,mE]
  by_cases c:e=i
  ·subst c;simp
  ·obtain⟨a,b⟩:=F0p d (i+1) e (by omega) (by omega)
   grind
theorem q0m(g:z0)(v:Int):∀(b u:List Int) (x:Int),x∈b->0<=D1 g v x->D1 g v x∈v05 g v b u
 |y::r,u,x,a,h0=>by
  rw[v05]
  rcases mE.1 a with rfl|a
  ·obtain⟨t,e⟩:=i06 g v r (C0b u (D1 g v x))
   rw[e]
   refine List.mem_append_left _ ?_
   grind[C0b,List.mem_append_right,List.mem_singleton,D1,absurd]
  ·exact q0m g v r _ x a h0
def K0e(g:z0)(a:List Int):∀(f i:Nat) (u:List Int),∃ t,p01 g a f i u=u++t
 |0,i,u=>⟨[],by simp[p01]⟩
 |f+1,i,u=>by
  unfold p01
  split
  ·rename_i v _
   obtain⟨d,b⟩:=i06 g v a u
   obtain⟨e,c⟩:=K0e g a f (i+1) (v05 g v a u)
   grind
  simp_all
theorem s0k{r:Int}{n:Nat}{es:List O0}(d:inG (r,(n:Int),es))(a:List Int):∀(f i:Nat) (u:List Int),gud n u->n+1<=f+i->i<=u.length ->
  (∀ c,c<i->∀ v,u[c]?=some v->∀ x∈a,0<=D1 (r,(n:Int),es) v x->D1 (r,(n:Int),es) v x∈u) ->
  ∀ v∈p01 (r,(n:Int),es) a f i u,∀ x∈a,0<=D1 (r,(n:Int),es) v x->D1 (r,(n:Int),es) v x∈p01 (r,(n:Int),es) a f i u
 |0,i,u,b,j,h,g=>by have:=o01 n u b.1 b.2;omega
 |f+1,i,u,b,j,h,g=>by
  unfold p01
  cases e:u[i]? with
  |none =>
   grind[List.getElem?_eq_none_iff,D1,List.getElem?_of_mem,List.getElem?_eq_some_iff]
  |some w =>
   have l:=(List.getElem?_eq_some_iff.1 e).1
   obtain⟨t,k⟩:=i06 (r,(n:Int),es) w a u
   refine s0k d a f (i+1) _ (k08 d w a u b) (by omega) (by grind) λc m v o x p h0=>?_
   grind[List.getElem?_append_left,q0m,List.mem_append_left]
def t0k(g:z0):∃ t,S7 g=0::t:=by
 obtain⟨t,e⟩:=K0e g (B7 g.1.toNat 1) (g.2.1.toNat+1) 0 [0]
 exact⟨t,e⟩
def G0p{g:z0}(hf:N0 g=true){x:Int}(h:Rch g.2.2 0 x):x∈S7 g:=by
 obtain⟨d,f,i,t⟩:=F1 hf
 have m:=t0k g
 have j:∀ v∈S7 g,∀ x∈B7 g.1.toNat 1,0<=D1 g v x->D1 g v x∈S7 g:=by
  obtain⟨r,n,es⟩:=g
  simp only at f i
  obtain⟨N,rfl⟩:∃ N:Nat,n=(N:Int):=⟨n.toNat,by omega⟩
  exact s0k d _ (((N:Int)).toNat+1) 0 [0] ⟨by simp,λx l=>by grind⟩ (by grind) (Nat.zero_le _) (λa c=>by omega)
 refine Rch.sub (P:=λx=>x∈S7 g) ?_ (λe b=>?_) h
 ·grind
 ·have k:=d e b
  obtain⟨a,c⟩:∃ a:Nat,e.2.1=(a:Int):=⟨e.2.1.toNat,by omega⟩
  obtain⟨o,p⟩:=F0p g.1.toNat 1 a (by omega) (by omega)
  have q:D1 g e.1 (a:Int)=e.2.2:=c0b hf (R8.2 ⟨e,b,.inl ⟨by omega,c,rfl,rfl⟩⟩)
  have s:D1 g e.2.2 (-(a:Int))=e.1:=c0b hf (R8.2 ⟨e,b,.inr ⟨by omega,by omega,rfl,rfl⟩⟩)
  constructor
  all_goals grind
def N0n{a:Nat->Bool}:∀ {d v:Nat},lf a d v=none->∀ k,v<=k->k<v+d->a k=false
 |0,v,h,k,b,e=>by omega
 |d+1,v,h,k,b,e=>by
  unfold lf at h
  cases hb:a v with
  |true=>rw[hb]at h;cases h
  |false =>
   rw[hb]at h
   by_cases c:k=v
   ·rw[c];exact hb
   ·exact N0n (d:=d) (v:=v+1) h k (by omega) (by omega)
def u0k{a:Nat->Bool}:∀ {d v:Nat},(∀ k,v<=k->k<v+d->a k=false)->lf a d v=none
 |0,v,h=>rfl
 |d+1,v,h=>by
  unfold lf
  rw[h v (Nat.le_refl _) (by omega)]
  exact u0k λk b c=>h k (by omega) (by omega)
def r0m{g:z0}(hf:N0 g=true)(b:N01 g=none){x:Int}(h0:0<=x)(d:x<g.2.1):x∈S7 g:=by
 refine G0p hf ?_
 by_cases c:x=0
 ·subst c;exact .base
 ·have:=N0n b x.toNat (by omega) (by omega)
  unfold k0h at this
  simp only[Bool.or_eq_false_iff,Bool.not_eq_false',dE]at this
  have a:=this.2
  rw[show((x.toNat:Nat):Int)=x by omega]at a
  exact(b0g _ _ _).1 a
def s0m{n:Nat}:∀(o:List Int) (k:Nat) (A:List Int),A.length=n->inV n o->o.Nodup->∀(i:Nat) (v:Int),o[i]?=some v->getI (W03 A k o) v=((k+i:Nat):Int)
 | [],k,A,c,b,f,i,v,a=>by simp at a
 |w::r,k,A,c,b,f,i,v,a=>by
  have e:=b w mS
  obtain⟨g,h⟩:=List.nodup_cons.1 f
  cases i with
  |zero =>
   simp at a;subst a
   rw[W03,g0k r _ _ w (by simp[c]) (λu d=>b u (mC _ d)) e.1 g,C07 e.1 (by omega) e.1,if_pos rfl];rfl
  |succ i =>
   rw[W03,s0m r (k+1) _ (by simp[c]) (λu d=>b u (mC _ d)) h i v (by simpa using a)]
   omega
def B0v{n:Nat}{o:List Int}(c:inV n o)(a:o.Nodup){i:Nat}{v:Int}(b:o[i]?=some v):getI (plc n o) v=(i:Int):=by
 have:=s0m o 0 (List.replicate n (-1)) (by simp) c a i v b
 rw[Nat.zero_add]at this;exact this
def h0r(P:List Int):∀(es:List O0),(∀ e∈es,0<=getI P e.1/\0<=getI P e.2.2)->pE P es=es.map λe=>(getI P e.1,e.2.1,getI P e.2.2)
 | [],h=>rfl
 |e::r,h=>by
  have a:=h e mS
  unfold pE
  rw[show(decide (0<=getI P e.1)&&decide (0<=getI P e.2.2))=true by simp[a.1,a.2],h0r P r λb c=>h b (mC _ c)]
  rfl
def t0m(e:O0):∀ {l:List O0},e ∉ l->(p02 V0 e l).Perm (e::l)
 | [],_=>List.Perm.refl _
 |y::l,h=>by
  have d:=t0m e (l:=l) λa=>h (mC _ a)
  unfold p02
  split
  ·exact List.Perm.refl _
  ·split
   ·rename_i c
    exact absurd (W7.eq _ _ c) λb=>h (by grind)
   grind
def h0i:∀(r acc:List O0),(acc++r).Nodup->(V4 V0 acc r).Perm (acc++r)
 | [],acc,h=>by simp[V4]
 |x::r,acc,h=>by
  have a:(acc++x::r).Perm (x::(acc++r)):=List.perm_middle
  have b:=a.nodup_iff.1 h
  have f:x ∉ acc:=λd=>(List.nodup_cons.1 b).1 (List.mem_append_left _ d)
  have e:=t0m x f
  have c:(p02 V0 x acc++r).Perm (x::(acc++r)):=e.append_right r
  rw[V4]
  exact((h0i r _ (c.nodup_iff.2 b)).trans c).trans a.symm
def T0t(v:Int){l a:List O0}(h:l.Perm a):z06 v l=z06 v a:=by
 induction h with
 |nil=>rfl
 |cons x _ d=>simp only[z06,d]
 |swap x y l=>simp only[z06];omega
 |trans _ _ b c=>rw[b,c]
def H0p{a:Int->Int}{v:Int}:∀(es:List O0),(∀ e∈es,(a e.1=a v↔e.1=v)/\(a e.2.2=a v↔e.2.2=v))->z06 (a v) (es.map λe=>(a e.1,e.2.1,a e.2.2))=z06 v es
 | [],h=>rfl
 |e::r,h=>by
  obtain⟨d,f⟩:=h e mS
  have g:=H0p r λb c=>h b (mC _ c)
  simp_all[List.map_cons,z06,k0v,if_pos,if_neg]
def C0v:∀(m:Nat) (o:List Int),(∀ i:Nat,i<m->(i:Int)∈o)->m<=o.length
 |0,o,h=>Nat.zero_le _
 |m+1,o,h=>by
  have c:=h m (by omega)
  have a:=C0v m (o.erase (m:Int)) λi b=>(List.mem_erase_of_ne (by omega)).2 (h i (by omega))
  grind
def r0h{es:List O0}(c:Asc V0 es):es.Nodup:=by
 refine List.Pairwise.imp (λ{a b} h e=>?_) c
 rw[e,W7.refl]at h;omega
def I0p{es:List O0}(a:Asc V0 es):V4 V0 [] es=es :=
 D0e W7 (H04 W7 _ _ .nil) a λx=>by rw[J01 W7];simp
def i0r{t:z0}(hf:N0 t=true)(aa:N01 t=none):D2 (A4 t)=true:=by
 have an:=C3 hf
 obtain⟨F,aV,aW,aX⟩:=F1 hf
 have ah:=q0a an
 obtain⟨⟨J,D⟩,ay⟩:=r0d hf
 have ar:=o01 _ _ J D
 have X:∀ x:Int,0<=x->x<t.2.1->x∈S7 t:=λx h0 d=>r0m hf aa h0 d
 obtain⟨aY,aC⟩:=t0k t
 obtain⟨n,aw⟩:∃ n:Nat,t.2.1=(n:Int):=⟨t.2.1.toNat,by omega⟩
 have T:t.2.1.toNat=n:=by omega
 rw[T]at D ar
 have ad:(S7 t).length=n:=by
  have:=C0v n (S7 t) λi K=>X _ (by omega) (by omega)
  omega
 let P:Int->Int:=getI (plc n (S7 t))
 have O:∀(i:Nat) (v:Int),(S7 t)[i]?=some v->P v=(i:Int):=λi v K=>B0v D J K
 have V:∀ x:Int,0<=x->x<t.2.1->0<=P x/\P x<(n:Int):=λx h0 d=>by
  obtain⟨i,K⟩:=List.getElem?_of_mem (X x h0 d)
  grind
 have A:∀ x y:Int,0<=x->x<t.2.1->0<=y->y<t.2.1->P x=P y->x=y:=λx y h0 d m aL h=>G0s D J h0 m (V x h0 d).1 h
 have Q:P 0=0:=O 0 0 (by rw[aC];rfl)
 have az:pE (plc n (S7 t)) t.2.2=t.2.2.map λe=>(P e.1,e.2.1,P e.2.2):=h0r _ _ λe g=>by
  have:=F e g
  grind
 have I:A4 t=(t.1,(n:Int),V4 V0 [] (t.2.2.map λe=>(P e.1,e.2.1,P e.2.2))):=by
  unfold A4 G00
  rw[T,az,ad]
 have ao:∀ e∈t.2.2,∀ j∈t.2.2,((P e.1,e.2.1,P e.2.2):O0)=(P j.1,j.2.1,P j.2.2)->e=j:=λe g j R h=>by
  have a:=F e g
  have b:=F j R
  simp only[Prod.mk.injEq]at h
  have d:=A _ _ a.1.1 a.1.2 b.1.1 b.1.2 h.1
  have m:=A _ _ a.2.1.1 a.2.1.2 b.2.1.1 b.2.1.2 h.2.2
  obtain⟨aH,G,U⟩:=e
  obtain⟨aJ,aK,f2⟩:=j
  simp only at d m h
  rw[d,m,h.2.1]
 have av:(t.2.2.map λe=>((P e.1,e.2.1,P e.2.2):O0)).Nodup:=by
  have:=r0h ah
  rw[List.Nodup,List.pairwise_map]
  exact List.Pairwise.imp_of_mem (λ{a b} ak C h e=>h (ao a ak b C e)) this
 have L:∀ j,j∈(A4 t).2.2↔∃ e∈t.2.2,j=(P e.1,e.2.1,P e.2.2):=λj=>by
  rw[I]
  simp only
  rw[J01 W7]
  simp only[List.not_mem_nil,false_or,List.mem_map]
  exact⟨λ⟨e,d,m⟩=>⟨e,d,m.symm⟩,λ⟨e,d,m⟩=>⟨e,d,m.symm⟩⟩
 have H:N0 (A4 t)=true:=x0c hf (by rw[T];exact D) J ay (by omega)
 have Y:=C3 H
 have M:(A4 t).2.1=(n:Int):=by rw[I]
 have aN:∀ v:Int,0<=v->v<t.2.1->z06 (P v) (A4 t).2.2=z06 v t.2.2:=λv h0 d=>by
  rw[I]
  simp only
  rw[T0t _ (h0i _ [] (by simpa using av)),nA]
  refine H0p _ λe g=>?_
  have:=F e g
  exact⟨⟨λh=>A _ _ this.1.1 this.1.2 h0 d h,λh=>by rw[h]⟩,⟨λh=>A _ _ this.2.1.1 this.2.1.2 h0 d h,λh=>by rw[h]⟩⟩
 have aB:∀ x,Rch t.2.2 0 x->Rch (A4 t).2.2 0 (P x):=λx p =>
  Rch.sub (P:=λx=>Rch (A4 t).2.2 0 (P x)) (by show Rch _ 0 (P 0);rw[Q];exact .base) (λe g=>Rch.closed (P e.1,e.2.1,P e.2.2) ((L _).2 ⟨e,g,rfl⟩)) p
 have aq:N01 (A4 t)=none:=by
  unfold N01
  refine u0k λk aU aF=>?_
  rw[M,iN]at aF
  obtain⟨v,E⟩:∃ v,(S7 t)[k]?=some v:=⟨_,gG (by omega)⟩
  have aS:=D v (mG E)
  have W:=O k v E
  have aR:v≠0:=λh=>by rw[h,Q]at W;omega
  have C:=N0n aa v.toNat (by omega) (by omega)
  unfold k0h at C ⊢
  rw[show((v.toNat:Nat):Int)=v by omega]at C
  simp only[Bool.or_eq_false_iff,Bool.not_eq_false',dE,decide_eq_false_iff_not]at C ⊢
  refine⟨?_,?_⟩
  ·grind
  ·rw[←W]
   exact(b0g _ _ _).2 (aB v ((b0g _ _ _).1 C.2))
 have ax:∀ v x:Int,0<=v->v<t.2.1->(D1 t v x = -1/\D1 (A4 t) (P v) x = -1)∨((0<=D1 t v x/\D1 t v x<t.2.1)/\D1 (A4 t) (P v) x=P (D1 t v x)):=λv x h0 d=>by
  rcases b0b t v x with⟨G,U⟩|G
  ·left
   refine⟨G,?_⟩
   rcases b0b (A4 t) (P v) x with⟨N,aG⟩|N
   ·exact N
   ·exfalso
    obtain⟨j,R,S⟩:=R8.1 N
    obtain⟨e,g,rfl⟩:=(L j).1 R
    have w:=F e g
    have:∃ y,y∈s02 v x t.2.2:=by
     rcases S with⟨a,b,c,_⟩|⟨a,b,c,_⟩
     ·exact⟨_,R8.2 ⟨e,g,.inl ⟨a,b,A _ _ w.1.1 w.1.2 h0 d c,rfl⟩⟩⟩
     ·exact⟨_,R8.2 ⟨e,g,.inr ⟨a,b,A _ _ w.2.1.1 w.2.1.2 h0 d c,rfl⟩⟩⟩
    obtain⟨y,af⟩:=this
    rw[U]at af;cases af
  ·right
   generalize D1 t v x=y at G
   obtain⟨e,g,S⟩:=R8.1 G
   have w:=F e g
   rcases S with⟨a,b,c,rfl⟩|⟨a,b,c,rfl⟩
   ·exact⟨w.2.1,c0b H (R8.2 ⟨_,(L _).2 ⟨e,g,rfl⟩,.inl ⟨a,b,by show P e.1=P v;rw[c],rfl⟩⟩)⟩
   ·exact⟨w.1,c0b H (R8.2 ⟨_,(L _).2 ⟨e,g,rfl⟩,.inr ⟨a,b,by show P e.2.2=P v;rw[c],rfl⟩⟩)⟩
 have aD:∀ u:List Int,gud n u->∀ x∈u,0<=x/\x<t.2.1:=λu o x p=>by have:=o.2 x p;omega
 have aP:inG (t.1,(n:Int),t.2.2):=by
  grind
 have aO:(t.1,(n:Int),t.2.2)=t:=by
  rw[←aw]
 have aj:∀(u:List Int) (y z:Int),gud n u->(y = -1/\z = -1)∨((0<=y/\y<t.2.1)/\z=P y)->C0b (u.map P) z=(C0b u y).map P:=λu y z o h=>by
  unfold C0b
  rcases h with⟨rfl,rfl⟩|⟨⟨h0,d⟩,rfl⟩
  ·rw[if_neg (by omega),if_neg (by omega)]
  ·have ab:P y∈u.map P↔y∈u:=by
    constructor
    ·intro h
     obtain⟨x,p,e⟩:=List.mem_map.1 h
     grind
    grind
   by_cases c:y∈u
   ·rw[if_neg λq=>q.2 (ab.2 c),if_neg λq=>q.2 c]
   ·rw[if_pos ⟨(V y h0 d).1,λq=>c (ab.1 q)⟩,if_pos ⟨h0,c⟩];simp
 have aM:∀(v:Int),0<=v->v<t.2.1->∀(s u:List Int),gud n u->v05 (A4 t) (P v) s (u.map P)=(v05 t v s u).map P:=λv h0 d s=>by
  induction s with
  |nil=>intro u o;rfl
  |cons x l ag =>
   intro u o
   have p:D1 t v x = -1∨(0<=D1 t v x/\D1 t v x<(n:Int)):=by
    grind
   rw[v05,v05,aj u _ _ o (ax v x h0 d),ag _ (x0s o p)]
 have ai:∀(f i:Nat) (u:List Int) (s:List Int),gud n u->p01 (A4 t) s f i (u.map P)=(p01 t s f i u).map P:=λf=>by
  induction f with
  |zero=>intro i u s o;rfl
  |succ f ag =>
   intro i u s o
   unfold p01
   rw[List.getElem?_map]
   cases e:u[i]? with
   |none=>rfl
   |some v =>
    have E:=aD u o v (mG e)
    grind[gud,v05,k08]
 have ae:S7 (A4 t)=(S7 t).map P:=by
  have d:(A4 t).1=t.1:=by rw[I]
  have m:=ai (n+1) 0 [0] (B7 t.1.toNat 1) ⟨by simp,λx p=>by simp at p;subst p;omega⟩
  rw[List.map_cons,List.map_nil,Q]at m
  show p01 (A4 t) (B7 (A4 t).1.toNat 1) ((A4 t).2.1.toNat+1) 0 [0]=(p01 t (B7 t.1.toNat 1) (t.2.1.toNat+1) 0 [0]).map P
  grind
 have ap:∀ i:Nat,i<n->(S7 (A4 t))[i]?=some (i:Int):=λi K=>by
  rw[ae,List.getElem?_map]
  obtain⟨v,E⟩:∃ v,(S7 t)[i]?=some v:=⟨_,gG (by omega)⟩
  rw[E,Option.map_some,O i v E]
 obtain⟨⟨am,ac⟩,_⟩:=r0d H
 rw[M,iN]at ac
 have aQ:∀ x:Int,0<=x->x<(n:Int)->getI (plc n (S7 (A4 t))) x=x:=λx h0 d=>by
  have:=B0v ac am (ap x.toNat (by omega))
  rw[show((x.toNat:Nat):Int)=x by omega]at this;exact this
 have au:(S7 (A4 t)).length=n:=by rw[ae,List.length_map,ad]
 have Z:=(V2 Y).1
 have al:A4 (A4 t)=A4 t:=by
  have aA:pE (plc n (S7 (A4 t))) (A4 t).2.2=(A4 t).2.2:=by
   rw[h0r _ _ λe g=>by
    have:=Z e g
    grind]
   refine(List.map_congr_left λe g=>?_).trans (List.map_id _)
   have:=Z e g
   grind
  show G00 (A4 t) (S7 (A4 t))=A4 t
  unfold G00
  rw[M,iN,aA,I0p (q0a Y),au]
  rw[←M]
 unfold D2
 rw[H,aq,al]
 simp[f0e]
def u0m{g:z0}(hf:N0 g=true):D2 (p0h g)=true:=by
 have a:=C3 hf
 have:=(V2 a).2.2.1
 exact i0r (X03 40 hf) (r0k 40 a (by omega))
def J0p{r:Int}{w:List Int}(h:G2 r w=true):∀ k,k<=w.length->o05 [] (w.take k)=(w.take k).reverse
 |0,_=>rfl
 |k+1,j=>by
  have i:=J0p h k (by omega)
  have c:=U3 (show k<w.length by omega)
  generalize w[k]=x at c
  have g:w.take (k+1)=w.take k ++ [x]:=o0s c
  rw[g,M0j,i,List.reverse_append]
  show b04 (w.take k).reverse x=x::(w.take k).reverse
  cases k with
  |zero=>rfl
  |succ a =>
   have d:=U3 (show a<w.length by omega)
   generalize w[a]=y at d
   rw[o0s d,List.reverse_append]
   show b04 (y::(w.take a).reverse) x=_
   have e:=h
   simp only[G2,aE,dE]at e
   have b:=o0d e.2 (a+1) (Nat.zero_le _) (by omega)
   unfold l09 at b
   rw[c]at b
   simp only[Nat.add_sub_cancel,d,Bool.or_eq_false_iff,show decide (0<a+1)=true by simp,Bool.true_and]at b
   have f:O0f y x=false:=by unfold O0f ng;rw[b.2,Bool.and_false]
   simp only[b04,f,cF]
   rfl
theorem i0g{r:Int}{w:List Int}(h:G2 r w=true):(o05 [] w).reverse=w:=by
 have:=J0p h w.length (Nat.le_refl _)
 rw[List.take_length]at this
 rw[this,List.reverse_reverse]
def B01(g:z0)(w:List Int):Bool:=decide ((O2 g 0 w).2=w.length)&&decide ((O2 g 0 w).1=0)
def P4{g:z0}(h:D2 g=true):N0 g=true:=by
 unfold D2 at h
 simp only[aE]at h
 exact h.1
theorem C06{r:Int}{g:z0}{w:List Int}(i:D2 g=true)(j:G2 r w=true):B9 g w=some (B01 g w):=by
 have hf:=P4 i
 obtain⟨p,t,q,u⟩:=F1 hf
 obtain⟨wl,k⟩:=M05 j
 have f:=s00 w (λx e=>(k x e).1.1) (by omega)
 rw[i0g j]at f
 have l:=S0q g hf 0 ⟨iR _,by omega⟩ w (λx e=>(k x e).1) (by omega)
 have m:=a0b g (by omega)
 have h:U2 g=some true:=by
  obtain⟨a,b,c⟩:=g
  unfold U2
  simp only[m,i,oB]
 have o:=m0a p q.2 w 0 ⟨by omega,by omega⟩
 have s:=B07 g w 0
 unfold B01
 obtain⟨a,b,c⟩:=g
 unfold B9
 simp only[f,oB,l]
 by_cases d:(O2 (a,b,c) 0 w).2<w.length
 ·simp only[decide_eq_true d,cond_true]
  rw[D0 (show F0 (-1) from⟨by omega,by omega⟩),oB,h]
  have:decide ((O2 (a,b,c) 0 w).2=w.length)=false:=decide_eq_false (by omega)
  rw[this];rfl
 ·simp only[decide_eq_false d,cond_false]
  rw[D0 o,oB,h]
  have:decide ((O2 (a,b,c) 0 w).2=w.length)=true:=decide_eq_true (by omega)
  rw[this]
  simp only[oB,cond_true,Bool.true_and]
def rdw(g:z0):Int->List Int->Option Int
 |v,[]=>some v
 |v,x::w=>if D1 g v x<0 then none else rdw g (D1 g v x) w
def v0m(g:z0):∀(w:List Int) (v u:Int),rdw g v w=some u↔((O2 g v w).2=w.length/\(O2 g v w).1=u)
 | [],v,u=>by simp[rdw,O2]
 |x::w,v,u=>by
  have a:=v0m g w (D1 g v x) u
  unfold rdw O2
  by_cases c:D1 g v x<0
  ·rw[if_pos c,if_pos c];simp
  ·rw[if_neg c,if_neg c,a];simp
def U0t(g:z0)(w:List Int):B01 g w=true↔rdw g 0 w=some 0:=by
 unfold B01
 rw[v0m];simp
def H0s(g:z0):∀(a b:List Int) (v:Int),rdw g v (a++b)=(rdw g v a).bind λu=>rdw g u b
 | [],b,v=>rfl
 |x::a,b,v=>by
  have d:=H0s g a b (D1 g v x)
  show(if D1 g v x<0 then none else rdw g (D1 g v x) (a++b))=(if D1 g v x<0 then none else rdw g (D1 g v x) a).bind λu=>rdw g u b
  by_cases c:D1 g v x<0
  ·rw[if_pos c,if_pos c];rfl
  ·rw[if_neg c,if_neg c];exact d
theorem t0a{g:z0}(hf:N0 g=true){v x u:Int}(h:D1 g v x=u)(h0:0<=u):D1 g u (-x)=v:=by
 rcases b0b g v x with⟨e,_⟩|e
 ·omega
 ·rw[h]at e
  obtain⟨d,i,f⟩:=R8.1 e
  refine c0b hf (R8.2 ⟨d,i,?_⟩)
  rcases f with⟨a,b,c,rfl⟩|⟨a,b,c,rfl⟩
  ·exact .inr ⟨by omega,by omega,rfl,c.symm⟩
  ·exact .inl ⟨by omega,b,rfl,c.symm⟩
structure Mor (a b:z0) (f:Int->Int):Prop where
 base:f 0=0
 rng:∀ v,0<=v->v<a.2.1->0<=f v/\f v<b.2.1
 step:∀ v x,0<=v->v<a.2.1->0<=D1 a v x->D1 b (f v) x=f (D1 a v x)
def Mor.rdw{a b:z0}{f:Int->Int}(m:Mor a b f)(i:inG a):∀(w:List Int) (v u:Int),0<=v->v<a.2.1->rdw a v w=some u->rdw b (f v) w=some (f u)
 | [],v,u,h0,g,h=>by
  simp only[Go.Proofs.YtcpjomkcdlggaaaGreat.rdw,Option.some.injEq]at h ⊢
  rw[h]
 |x::w,v,u,h0,g,h=>by
  unfold Go.Proofs.YtcpjomkcdlggaaaGreat.rdw at h ⊢
  by_cases c:D1 a v x<0
  ·rw[if_pos c]at h;cases h
  ·rw[if_neg c]at h
   have j:=m.step v x h0 g (by omega)
   have d:0<=D1 a v x/\D1 a v x<a.2.1:=by
    rcases J05 i v x with e|e
    ·omega
    ·exact e
   have k:=m.rng _ d.1 d.2
   rw[j,if_neg (by omega)]
   exact Mor.rdw m i w _ u d.1 d.2 h
def Mor.loop{a b:z0}{f:Int->Int}(m:Mor a b f)(c:N0 a=true){w:List Int}(h:B01 a w=true):B01 b w=true:=by
 obtain⟨d,e,g,i⟩:=F1 c
 rw[U0t]at h ⊢
 have:=m.rdw d w 0 0 (iR _) (by omega) h
 rwa [m.base]at this
abbrev Im:=List Int×List Int
def j0r(a b:Im):Prop:=(∃ t,b.2=a.2++t)/\∀ v∈a.2,getI b.1 v=getI a.1 v
def j0r.refl(s:Im):j0r s s:=⟨⟨[],by simp⟩,λ_ _=>rfl⟩
def j0r.trans{b c d:Im}(h:j0r b c)(h':j0r c d):j0r b d:=by
 obtain⟨⟨t,e⟩,f⟩:=h
 obtain⟨⟨j,g⟩,i⟩:=h'
 exact⟨⟨t++j,by rw[g,e,List.append_assoc]⟩,λv a=>(i v (by rw[e];exact List.mem_append_left _ a)).trans (f v a)⟩
def i0y(a b:z0)(v x:Int)(s:Im):Prop:=0<=D1 a v x->D1 a v x∈s.2/\D1 b (getI s.1 v) x=getI s.1 (D1 a v x)
def i0y.le{a b:z0}{v x:Int}{c g:Im}(j:v∈c.2)(h:i0y a b v x c)(l:j0r c g):i0y a b v x g:=λh0=>by
 obtain⟨d,i⟩:=h h0
 obtain⟨⟨t,e⟩,f⟩:=l
 exact⟨by rw[e];exact List.mem_append_left _ d,by rw[f v j,f _ d];exact i⟩
def V0t{g:z0}(h:D2 g=true):N01 g=none:=by
 unfold D2 at h
 simp only[aE,Option.isNone_iff_eq_none]at h
 exact h.2.1
abbrev Tr8:=List (Option (List Int))×List Int
def trS(g:z0)(v x:Int)(s:Tr8):Tr8:=if 0<=D1 g v x/\D1 g v x ∉ s.2 then(s.1.set (D1 g v x).toNat (some ((A9 s.1 v).getD [] ++ [x])),s.2 ++ [D1 g v x])else s
def L0e(g:z0)(v:Int):List Int->Tr8->Tr8
 | [],s=>s
 |x::r,s=>L0e g v r (trS g v x s)
def D06(g:z0)(b:List Int):Nat->Nat->Tr8->Tr8
 |0,i,a=>a
 |f+1,i,a=>match a.2[i]? with
  |some v=>D06 g b f (i+1) (L0e g v b a)
  |none=>a
def T3(g:z0)(p:Int):List Int:=p01 g (B7 g.1.toNat 1) (g.2.1.toNat+1) 0 [p]
def e07(g:z0)(p:Int):Tr8:=D06 g (B7 g.1.toNat 1) (g.2.1.toNat+1) 0 ((List.replicate g.2.1.toNat none).set p.toNat (some []),[p])
def I0s(g:z0)(v x:Int)(s:Tr8):(trS g v x s).2=C0b s.2 (D1 g v x):=by
 unfold trS C0b
 split<;>rfl
def v0k(g:z0)(v:Int):∀(b:List Int) (a:Tr8),(L0e g v b a).2=v05 g v b a.2
 | [],a=>rfl
 |x::r,a=>by rw[L0e,v0k g v r,I0s];rfl
def w0m(g:z0)(b:List Int):∀(f i:Nat) (a:Tr8),(D06 g b f i a).2=p01 g b f i a.2
 |0,i,a=>rfl
 |f+1,i,a=>by
  unfold D06 p01
  cases a.2[i]? with
  |none=>rfl
  |some v=>simp only[w0m g b f,v0k]
def y0c(g:z0)(p:Int):(e07 g p).2=T3 g p:=w0m _ _ _ _ _
structure TOk (g:z0) (p:Int) (n:Nat) (s:Tr8):Prop where
 ok:WOk n s.1 s.2
 gd:gud n s.2
 base:p∈s.2
 word:A9 s.1 p=some []
 par:∀ y∈s.2,y≠p->∃ v∈s.2,∃ x,x∈B7 g.1.toNat 1/\D1 g v x=y/\∃ a,A9 s.1 v=some a/\A9 s.1 y=some (a ++ [x])
 red:∀ y∈s.2,∀ a,A9 s.1 y=some a->Red a.reverse=true
def WOk.add{n:Nat}{b:List (Option (List Int))}{u:List Int}(a:WOk n b u){y:Int}(d:0<=y)(h:y<(n:Int))(v x:Int):WOk n (b.set y.toNat (some ((A9 b v).getD [] ++ [x]))) (u ++ [y]):=by
 have g:=a.short v
 refine⟨by simp[a.len],λz h0 e=>?_,λz=>?_⟩
 ·rw[w03 d (by have:=a.len;omega) h0]
  by_cases c:z=y
  ·rw[if_pos c];simp[c]
  ·rw[if_neg c,a.iff z h0 e];simp[c]
 ·by_cases hz:0<=z
  ·rw[w03 d (by have:=a.len;omega) hz]
   by_cases c:z=y
   ·grind
   ·rw[if_neg c];have:=a.short z;grind
  ·have f:A9 (b.set y.toNat (some ((A9 b v).getD [] ++ [x]))) z=A9 (b.set y.toNat (some ((A9 b v).getD [] ++ [x]))) 0:=by
    unfold A9;rw[show z.toNat=(0:Int).toNat by omega]
   rw[f,w03 d (by have:=a.len;omega) (iR 0)]
   by_cases c:(0:Int)=y
   ·grind
   ·rw[if_neg c];have:=a.short 0;grind
def WOk.get{n:Nat}{b:List (Option (List Int))}{u:List Int}(f:WOk n b u){v:Int}(h0:0<=v)(c:v<(n:Int))(d:v∈u):∃ a,A9 b v=some a:=by
 cases e:A9 b v with
 |none=>exact absurd d ((f.iff v h0 c).1 (by rw[e];rfl))
 |some a=>exact⟨a,rfl⟩
def f07{R:Nat}(b:R<=900){x:Int}(a:x∈B7 R 1):j5 x/\x≠0 /\ -(R:Int)<=x/\x<=(R:Int):=by
 obtain⟨c,d,e,f⟩:=f0g _ _ _ a
 exact⟨⟨⟨by omega,by omega⟩,by omega⟩,by omega,by omega,by omega⟩
def D0v{l x:Int}(a:j5 l)(h:O0f l x=true):x = -l:=by
 unfold O0f at h
 simp only[aE,beq_iff_eq]at h
 rw[h.2];exact p0c a.1 a.2
def TOk.add{g:z0}(hf:N0 g=true){p:Int}{n:Nat}(T:g.2.1=(n:Int)){q:Tr8}(h:TOk g p n q){v x:Int}(k:v∈q.2)(U:x∈B7 g.1.toNat 1):TOk g p n (trS g v x q):=by
 obtain⟨O,V,W,X⟩:=F1 hf
 unfold trS
 split
 ·rename_i c
  obtain⟨s,D⟩:=c
  have N:D1 g v x<(n:Int):=by
   rcases J05 O v x with e|e<;>omega
  obtain⟨f,u⟩:=q
  obtain⟨o,j,base,Q,C,J⟩:=h
  simp only at k s D o j base Q C J ⊢
  have A:=j.2 v k
  obtain⟨a,w⟩:=o.get A.1 A.2 k
  have S:=o.len
  have keep:∀ z∈u,A9 (f.set (D1 g v x).toNat (some ((A9 f v).getD [] ++ [x]))) z=A9 f z:=λz I=>by
   have:=j.2 z I
   rw[w03 s (by omega) this.1,if_neg λ(e:z=D1 g v x)=>D (by rw[←e];exact I)]
  have new:A9 (f.set (D1 g v x).toNat (some ((A9 f v).getD [] ++ [x]))) (D1 g v x)=some (a ++ [x]):=by
   simp_all[w03,if_pos]
  refine⟨o.add s N v x,⟨List.nodup_append.2 ⟨j.1,by simp,λa w b m=>?_⟩,λy d=>?_⟩,List.mem_append_left _ base,?_,λy d M=>?_,λy d b m=>?_⟩
  ·grind
  ·rcases List.mem_append.1 d with d|d
   ·exact j.2 y d
   grind
  ·grind
  ·rcases List.mem_append.1 d with d|d
   ·obtain⟨P,K,R,H,E,b,F,i⟩:=C y d M
    grind
   grind
  ·rcases List.mem_append.1 d with d|d
   ·grind
   ·simp at d;subst d
    rw[new]at m;cases m
    have G:=J v k a w
    rw[List.reverse_append]
    show Red (x::a.reverse)=true
    cases e:a.reverse with
    |nil=>rfl
    |cons l t =>
     rw[e]at G
     unfold Red
     rw[G,Bool.and_true]
     cases hc:O0f l x with
     |false=>rfl
     |true =>
      exfalso
      have L:v≠p:=λF=>by
       grind
      obtain⟨P,K,R,H,E,b,F,i⟩:=C v k L
      rw[w]at i
      injection i with i
      rw[i,List.reverse_append]at e
      simp only[List.reverse_cons,List.reverse_nil,nA,List.cons_append,List.cons.injEq]at e
      rw[←e.1]at hc
      have:=D0v (f07 (by omega) H).1 hc
      have m:=t0a hf E A.1
      grind
 ·exact h
def b0j(g:z0)(v x:Int)(s:Tr8):∃ t,(trS g v x s).2=s.2++t:=by simp_all[I0s,h0k]
def w0k(g:z0)(v:Int)(b:List Int)(a:Tr8):∃ t,(L0e g v b a).2=a.2++t:=by simp_all[v0k,i06]
def TOk.inn{g:z0}(hf:N0 g=true){p:Int}{n:Nat}(d:g.2.1=(n:Int)){v:Int}:∀(f:List Int) {a:Tr8},TOk g p n a->v∈a.2->(∀ x∈f,x∈B7 g.1.toNat 1)->TOk g p n (L0e g v f a)
 | [],a,h,c,b=>h
 |x::r,a,h,c,b=>by
  obtain⟨t,e⟩:=b0j g v x a
  exact TOk.inn hf d r (h.add hf d c (b x mS)) (by rw[e];exact List.mem_append_left _ c) λy i=>b y (mC _ i)
def TOk.out{g:z0}(hf:N0 g=true){p:Int}{n:Nat}(b:g.2.1=(n:Int)):∀(f i:Nat) {a:Tr8},TOk g p n a->TOk g p n (D06 g (B7 g.1.toNat 1) f i a)
 |0,i,a,h=>h
 |f+1,i,a,h=>by
  unfold D06
  cases e:a.2[i]? with
  |none=>exact h
  |some v=>exact TOk.out hf b f (i+1) (h.inn hf b _ (mG e) λx c=>c)
def E0v(N:Nat)(x:Int):A9 (List.replicate N (none:Option (List Int))) x=none:=by
 unfold A9
 rw[List.getD_eq_getElem?_getD,List.getElem?_replicate];split<;>rfl
def v0d(g:z0){p:Int}{N:Nat}(c:0<=p/\p<(N:Int)):TOk g p N ((List.replicate N none).set p.toNat (some []),[p]):=by
 have d:∀ x,0<=x->A9 ((List.replicate N (none:Option (List Int))).set p.toNat (some [])) x=if x=p then some []else none:=λx h0=>by
  rw[w03 c.1 (by simp;omega) h0,E0v]
 refine⟨⟨by simp,λx h0 i=>?_,λx=>?_⟩,⟨by simp,λx j=>by grind⟩,by simp,?_,λy f h=>?_,λy f a b=>?_⟩
 ·grind
 ·have:∀ x,0<=x->((A9 ((List.replicate N (none:Option (List Int))).set p.toNat (some [])) x).getD []).length<=1:=λx h0=>by
   rw[d x h0];split<;>simp
  by_cases hz:0<=x
  ·exact this x hz
  ·have e:A9 ((List.replicate N (none:Option (List Int))).set p.toNat (some [])) x=A9 ((List.replicate N (none:Option (List Int))).set p.toNat (some [])) 0:=by
    unfold A9;rw[show x.toNat=(0:Int).toNat by omega]
   grind
 ·simp only
  rw[d p c.1,if_pos rfl]
 ·grind
 ·simp at f;subst f
  simp only at b
  rw[d y c.1,if_pos rfl]at b
  cases b;rfl
def w0d{g:z0}(hf:N0 g=true){p:Int}(a:0<=p/\p<g.2.1):TOk g p g.2.1.toNat (e07 g p):=by
 obtain⟨b,c,d,e⟩:=F1 hf
 exact TOk.out hf (by omega) _ _ (v0d g ⟨a.1,by omega⟩)
def t0x{g:z0}(hf:N0 g=true)(p:Int){n:Nat}(u:g.2.1=(n:Int))(b:List Int)(s:∀ x∈b,x∈B7 g.1.toNat 1)(A:b.length<=1000000)(v:Int):∀(d k fuel:Nat) (a:Tr8),TOk g p n a->v∈a.2->k+d=b.length->d<fuel ->
  l4 b g.1 g.2.1 g.2.2 v fuel (k:Int) a.1 a.2=some (L0e g v (b.drop k) a)
 |d,k,0,a,c,f,m,hf=>by omega
 |0,k,fuel+1,a,c,f,m,hf=>by
  rw[l4.eq_2,if_neg (by simp;omega),Z0 (by omega)];rfl
 |d+1,k,fuel+1,a,c,f,m,H=>by
  obtain⟨z,L,F,M⟩:=F1 hf
  have q:k<b.length:=by omega
  have i:=U3 q
  have j:=s _ (mG i)
  have o:=I1 i
  generalize b[k]=x at i j o
  have D:=(f07 (by omega) j).1
  have I:=o01 n a.2 c.gd.1 c.gd.2
  have J:=J05 z v x
  have C:=c.add hf u f j
  obtain⟨t,G⟩:=b0j g v x a
  have E:=t0x hf p u b s A v d (k+1) fuel (trS g v x a) C (by grind) (by omega) (by omega)
  have e:=c.ok
  have w:=c.gd.2 v f
  rw[l4.eq_2,if_pos (by simp;omega),o,L0e,←E]
  simp only[Z1 i,oB,show(g.1,g.2.1,g.2.2)=g from rfl,M08 g v x D (by omega),D0 (V03 z F.2 v x),E2 q (show b.length<=9223372036854775807 by omega)]
  unfold trS
  generalize D1 g v x=y at *
  by_cases c1:0<=y
  ·have l:y<(n:Int):=by omega
   simp only[show decide (y ≥ 0)=true by simpa using c1,E1,giO e.len c1 l,oB,cT]
   by_cases c2:y∈a.2
   ·have : ¬ ((A9 a.1 y).isNone=true):=λh=>(e.iff y c1 l).1 h c2
    rw[if_neg this,if_neg λh=>h.2 c2]
   ·have:(A9 a.1 y).isNone=true:=(e.iff y c1 l).2 c2
    have K:=e.short v
    rw[if_pos this,if_pos ⟨c1,c2⟩,giO e.len w.1 w.2,oB,A0s (by omega),oB,D0 (by simp;omega),oB,D0 (by simp;omega),oB]
  ·simp only[show decide (y ≥ 0)=false by simpa using c1,K1,oB,cF]
   rw[if_neg (by simp),if_neg λh=>c1 h.1]
def u0x{g:z0}(hf:N0 g=true)(p:Int){n:Nat}(d:g.2.1=(n:Int)):∀(f i fuel:Nat) (a:Tr8),TOk g p n a->i<=a.2.length->n+1<=i+f->f<fuel ->
  D6 g.1 g.2.1 g.2.2 fuel (i:Int) a.1 a.2=some (D06 g (B7 g.1.toNat 1) f i a)
 |f,i,0,a,b,j,h,hf=>by omega
 |0,i,fuel+1,a,b,j,h,hf=>by have:=o01 n a.2 b.gd.1 b.gd.2;omega
 |f+1,i,fuel+1,a,b,j,h,m=>by
  obtain⟨s,u,w,y⟩:=F1 hf
  have o:=o01 n a.2 b.gd.1 b.gd.2
  rw[D6.eq_2,oB,D0 (by omega),oB]
  by_cases hk:i<a.2.length
  ·have c:=U3 hk
   generalize a.2[i]=v at c
   have k:=mG c
   have h0:=t0x hf p d (B7 g.1.toNat 1) (λx c=>c) (by rw[v03];omega) v (B7 g.1.toNat 1).length 0 P0 a b k (by omega) (X0 (by rw[v03];omega))
   rw[show((0:Nat):Int)=0 from rfl,dZ]at h0
   obtain⟨t,e⟩:=w0k g v (B7 g.1.toNat 1) a
   have q:=u0x hf p d f (i+1) fuel _ (b.inn hf d _ k λx c=>c) (by grind) (by omega) (by omega)
   have l:m01 g.1=some (B7 g.1.toNat 1):=by
    have:=Y0q g.1.toNat (by omega)
    rwa [show((g.1.toNat:Nat):Int)=g.1 by omega]at this
   rw[if_pos (by simpa using hk),Z1 c,oB,l,oB,h0,oB]
   grind[E2,D06]
  simp_all[List.getElem?_eq_none,if_neg,D06]
def d0b(g:z0)(p:Int):List (List Int):=(e07 g p).1.map λo=>o.getD []
def x0k{g:z0}(hf:N0 g=true){p:Int}(b:0<=p/\p<g.2.1):d9 g p=some (T3 g p,d0b g p):=by
 obtain⟨d,e,f,h⟩:=F1 hf
 have a:g.2.1=((g.2.1.toNat:Nat):Int):=by omega
 have h0:=u0x hf p a (g.2.1.toNat+1) 0 P0 _ (v0d g (N:=g.2.1.toNat) ⟨b.1,by omega⟩) (by simp) (by omega) (X0 (by omega))
 have c:gi (List.replicate g.2.1.toNat (none:Option (List Int))) p=some none:=by
  have:=Z1 (xs:=List.replicate g.2.1.toNat (none:Option (List Int))) (k:=p.toNat) (x:=none) (by rw[List.getElem?_replicate,if_pos (by omega)])
  rwa [show((p.toNat:Nat):Int)=p by omega]at this
 rw[←y0c]
 grind[d0b,e07,d9,D0]
def tw(g:z0)(p v:Int):List Int:=(A9 (e07 g p).1 v).getD []
structure o0l (g:z0) (p:Int) (t:Int->List Int):Prop where
 z:t p = []
 par:∀ y∈T3 g p,y≠p->∃ v∈T3 g p,∃ x,x∈B7 g.1.toNat 1/\D1 g v x=y/\t y=t v ++ [x]
 red:∀ y∈T3 g p,Red (t y).reverse=true
 len:∀ y,(t y).length<=40
def l08{g:z0}(hf:N0 g=true){p:Int}(f:0<=p/\p<g.2.1):o0l g p (tw g p):=by
 obtain⟨q,s,t,u⟩:=F1 hf
 have h:=w0d hf f
 have e:=y0c g p
 refine⟨by unfold tw;rw[h.word];rfl,λy b i=>?_,λy b=>?_,λy=>?_⟩
 ·rw[←e]at b ⊢
  obtain⟨v,m,x,o,j,a,k,l⟩:=h.par y b i
  grind[tw]
 ·rw[←e]at b
  have d:=h.gd.2 y b
  obtain⟨a,c⟩:=h.ok.get d.1 d.2 b
  unfold tw
  rw[c]
  exact h.red y b a c
 ·have:=h.ok.short y
  have:=o01 _ _ h.gd.1 h.gd.2
  unfold tw
  omega
def D07{g:z0}(hf:N0 g=true){p:Int}(a:0<=p/\p<g.2.1):gud g.2.1.toNat (T3 g p):=by
 rw[←y0c];exact(w0d hf a).gd
def j0g(g:z0)(p:Int):∃ t,T3 g p=p::t:=by
 obtain⟨t,e⟩:=K0e g (B7 g.1.toNat 1) (g.2.1.toNat+1) 0 [p]
 exact⟨t,e⟩
def o0l.ind{g:z0}{p:Int}{t:Int->List Int}(h:o0l g p t)(P:Int->Prop)(h0:P p)(a:∀ v∈T3 g p,∀ y∈T3 g p,∀ x,x∈B7 g.1.toNat 1->D1 g v x=y->t y=t v ++ [x]->P v->P y):∀(k:Nat) (y:Int),(t y).length<=k->y∈T3 g p->P y
 |k,y,j,d=>by
  by_cases c:y=p
  ·rw[c];exact h0
  ·obtain⟨v,b,x,i,e,f⟩:=h.par y d c
   cases k with
   |zero=>grind
   |succ k=>exact a v b y d x i e f (o0l.ind h P h0 a k v (by grind) b)
def o0l.induct{g:z0}{p:Int}{t:Int->List Int}(h:o0l g p t){P:Int->Prop}(h0:P p)(a:∀ v∈T3 g p,∀ y∈T3 g p,∀ x,x∈B7 g.1.toNat 1->D1 g v x=y->t y=t v ++ [x]->P v->P y){y:Int}(b:y∈T3 g p):P y:=h.ind P h0 a _ y (Nat.le_refl _) b
def U0w{g:z0}{v x y:Int}(h:D1 g v x=y)(h0:0<=y):rdw g v [x]=some y:=by
 simp_all[rdw,if_neg]
def o0l.rd{g:z0}(hf:N0 g=true){p:Int}(d:0<=p/\p<g.2.1){t:Int->List Int}(h:o0l g p t){y:Int}(a:y∈T3 g p):rdw g p (t y)=some y:=by
 refine h.induct (P:=λy=>rdw g p (t y)=some y) ?_ (λv f y a x i b c e=>?_) a
 ·rw[h.z];rfl
 ·rw[c,H0s,e,oB]
  exact U0w b ((D07 hf d).2 y a).1
def o0l.let{g:z0}{p:Int}{t:Int->List Int}(h:o0l g p t){y:Int}(a:y∈T3 g p):∀ x∈t y,x∈B7 g.1.toNat 1:=by
 refine h.induct (P:=λy=>∀ x∈t y,x∈B7 g.1.toNat 1) ?_ (λv d y a x e b c f=>?_) a
 ·rw[h.z];grind
 grind
def i0i(w:List Int):Int:=w.getLastD 0
def x0m(a:List Int)(x:Int):i0i (a ++ [x])=x:=by unfold i0i;simp
def tE(g:z0)(v:Int):O0:=stp (D1 g v (-(i0i (tw g 0 v)))) (i0i (tw g 0 v)) v
def N05(g:z0):List O0:=V4 V0 [] ((T3 g 0).tail.map (tE g))
def y0k{g:z0}(hf:N0 g=true){p:Int}(a:0<=p/\p<g.2.1){v:Int}(d:0<=v/\v<g.2.1):gi (d0b g p) v=some (tw g p v):=by
 have h:=w0d hf a
 have c:=h.ok.len
 have b:v.toNat<(e07 g p).1.length:=by omega
 have:=Z1 (xs:=d0b g p) (k:=v.toNat) (x:=tw g p v) (by
  unfold d0b tw A9
  grind)
 rwa [show((v.toNat:Nat):Int)=v by omega]at this
def F0v{g:z0}(hf:N0 g=true){v:Int}:v∈(T3 g 0).tail↔v∈T3 g 0/\v≠0:=by
 obtain⟨b,c,d,f⟩:=F1 hf
 obtain⟨t,e⟩:=j0g g 0
 have a:=(D07 hf (p:=0) ⟨by omega,by omega⟩).1
 grind
def J0s{g:z0}(hf:N0 g=true):∀(d k fuel:Nat) (acc:List O0),k+d=(T3 g 0).tail.length->d<fuel->acc.length<=k ->
  o8 (T3 g 0).tail (d0b g 0) g.1 g.2.1 g.2.2 fuel (k:Int) acc=some (acc++((T3 g 0).tail.drop k).map (tE g))
 |d,k,0,acc,j,s,i=>by omega
 |0,k,fuel+1,acc,j,s,i=>by
  simp_all[o8.eq_2,if_neg,dE,Z0]
 |d+1,k,fuel+1,acc,j,F,i=>by
  obtain⟨C,M,D,N⟩:=F1 hf
  have e:(0:Int)<=0/\(0:Int)<g.2.1:=⟨by omega,by omega⟩
  have h:=l08 hf e
  have c:=D07 hf e
  have G:=o01 _ _ c.1 c.2
  have m:k<(T3 g 0).tail.length:=by omega
  have J:(T3 g 0).tail.length<=40:=by grind
  have b:=U3 m
  have o:=mG b
  have l:=I1 b
  generalize (T3 g 0).tail[k]=v at b o l
  obtain⟨p,y⟩:=(F0v hf).1 o
  have z:=c.2 v p
  obtain⟨u,K,x,A,E,f⟩:=h.par v p y
  have a:=f07 (by omega) A
  have H:(tw g 0 v).length=(tw g 0 u).length+1:=by rw[f];simp
  have I:=h.len u
  have q:gi (tw g 0 v) (i64.wrap (((tw g 0 v).length:Nat)-1))=some x:=by
   rw[w64 (by omega) (by omega),show(((tw g 0 v).length:Nat):Int)-1=(((tw g 0 u).length:Nat):Int) by omega]
   simp_all[Z1,List.getElem?_append_right,Nat.le_refl]
  have w:tE g v=stp (D1 g v (-x)) x v:=by unfold tE;rw[f,x0m]
  have t:j5 (-x):=⟨⟨by have:=a.2.2;omega,by have:=a.2.2;omega⟩,by have:=a.2.2;omega⟩
  have L:=J0s hf d (k+1) fuel (acc ++ [tE g v]) (by omega) (by omega) (by simp;omega)
  rw[o8.eq_2,if_pos (by grind),Z1 b,oB,y0k hf e ⟨z.1,by omega⟩,oB,q,oB,p0c a.1.1 a.1.2,show(g.1,g.2.1,g.2.2)=g from rfl,M08 g v (-x) t (by omega),oB,D0 (V03 C D.2 v _),oB,b0r _ x v a.1,oB,←w,E2 m (by omega),l,List.map_cons]
  grind[tE,D0]
def L0p{g:z0}(hf:N0 g=true):C03 g=some (N05 g):=by
 obtain⟨j,l,m,o⟩:=F1 hf
 have b:(0:Int)<=0/\(0:Int)<g.2.1:=⟨by omega,by omega⟩
 have a:=D07 hf b
 have h:=o01 _ _ a.1 a.2
 have e:=x0k hf b
 obtain⟨t,c⟩:=j0g g 0
 have f:y07 (T3 g 0) 1 (((T3 g 0).length:Nat):Int)=some (T3 g 0).tail:=by
  have:=K04 (xs:=T3 g 0) (k:=1) (by rw[c];simp)
  rw[show((1:Nat):Int)=1 from rfl]at this
  rw[this,List.drop_one]
 have d:=J0s hf (T3 g 0).tail.length 0 P0 [] (by omega) (X0 (by grind)) (by simp)
 rw[show((0:Nat):Int)=0 from rfl,dZ,nA]at d
 have i:=X0f ((T3 g 0).tail.map (tE g)) (by grind)
 grind[N05,C03]
def C9(g:z0):List O0:=g.2.2.filter λe => !decide (e∈N05 g)
def y0m{g:z0}(hf:N0 g=true):(N05 g).length<=40:=by
 obtain⟨c,d,e,f⟩:=F1 hf
 have a:=D07 hf (p:=0) ⟨by omega,by omega⟩
 have b:=o01 _ _ a.1 a.2
 unfold N05
 have:=Z02 ((T3 g 0).tail.map (tE g)) []
 grind
def K0s(a:List O0)(q:a.length<=1000)(es:List O0)(t:es.length<=1000):∀(d k fuel:Nat) (acc:List O0),k+d=es.length->d<fuel->acc.length<=k ->
  E6 es a fuel (k:Int) acc=some (acc++(es.drop k).filter λe => !decide (e∈a))
 |d,k,0,acc,l,s,j=>by omega
 |0,k,fuel+1,acc,l,s,j=>by
  simp_all[E6.eq_2,if_neg,dE,Z0]
 |d+1,k,fuel+1,acc,l,u,j=>by
  have o:k<es.length:=by omega
  have b:=U3 o
  have m:=I1 b
  generalize es[k]=e at b m
  have v:=λp h=>K0s a q es t d (k+1) fuel p (by omega) (by omega) h
  obtain⟨f,g,i⟩:=e
  rw[E6.eq_2,if_pos (by grind),Z1 b,oB]
  simp only[d0r a (f,g,i) (by omega),oB,E2 o (show es.length<=9223372036854775807 by omega),m,List.filter_cons]
  by_cases c:(f,g,i)∈a
  ·grind
  ·simp only[dF c,bF,if_true]
   grind[D0]
def V0w{g:z0}(hf:N0 g=true):b03 g=some (C9 g):=by
 obtain⟨i,j,k,l⟩:=F1 hf
 have e:=n01 g (by omega)
 have f:=L0p hf
 have h:=y0m hf
 have d:=K0s (N05 g) (by omega) g.2.2 (by omega) g.2.2.length 0 P0 [] (by omega) (X0 (by omega)) (by simp)
 rw[show((0:Nat):Int)=0 from rfl,dZ,nA]at d
 unfold C9
 obtain⟨a,b,c⟩:=g
 simp only at *
 unfold b03
 simp only[e,hf,oB,f,bT,fT,if_false,d]
def s0h{g:z0}{e:O0}:e∈C9 g↔e∈g.2.2/\e ∉ N05 g:=by
 grind[C9]
def bw(g:z0)(e:O0):List Int:=tw g 0 e.1 ++ [e.2.1]++inv (tw g 0 e.2.2)
def O05(g:z0):List (List Int):=(C9 g).map λe=>(o05 [] (bw g e)).reverse
theorem j0y{g:z0}(hf:N0 g=true)(e:O0):(bw g e).length<=81:=by
 obtain⟨d,f,h,i⟩:=F1 hf
 have a:=l08 hf (p:=0) ⟨by omega,by omega⟩
 have b:=a.len e.1
 have c:=a.len e.2.2
 grind[bw,List.length_append,a08,List.length_singleton]
def L0s{g:z0}(hf:N0 g=true)(es:List O0)(m:∀ e∈es,e∈g.2.2)(w:es.length<=1000):∀(d k fuel:Nat) (acc:List (List Int)),k+d=es.length->d<fuel->acc.length<=k ->
  W9 es (d0b g 0) fuel (k:Int) acc=some (acc++(es.drop k).map λe=>(o05 [] (bw g e)).reverse)
 |d,k,0,acc,j,v,i=>by omega
 |0,k,fuel+1,acc,j,v,i=>by
  simp_all[W9.eq_2,if_neg,dE,Z0]
 |d+1,k,fuel+1,acc,j,D,i=>by
  obtain⟨y,E,F,G⟩:=F1 hf
  have b:(0:Int)<=0/\(0:Int)<g.2.1:=⟨by omega,by omega⟩
  have f:=l08 hf b
  have p:k<es.length:=by omega
  have a:=U3 p
  have o:=m _ (mG a)
  have l:=I1 a
  generalize es[k]=e at a l o
  have c:=y e o
  have t:=f.len e.1
  have u:=f.len e.2.2
  have x:=λs h=>L0s hf es m w d (k+1) fuel s (by omega) (by omega) h
  have q:i01 [tw g 0 e.1,[e.2.1],inv (tw g 0 e.2.2)]=some (o05 [] (bw g e)).reverse:=by
   rw[H09 _ (by simp) (by simp only[K0p,a08,lS];omega)]
   grind[bw,X0t,M0j]
  obtain⟨z,A,C⟩:=e
  rw[W9.eq_2,if_pos (by grind),Z1 a,oB]
  simp only at c q t u ⊢
  rw[y0k hf b c.1,oB,oB,y0k hf b c.2.1,oB,d07 _ (by omega),oB,oB,q,oB,oB,D0 (by simp;omega),oB,E2 p (show es.length<=9223372036854775807 by omega),x _ (by simp;omega),l]
  simp
def W0w{g:z0}(f:D2 g=true):Q04 g=some (O05 g):=by
 have hf:=P4 f
 obtain⟨m,o,q,s⟩:=F1 hf
 have h:=a03 g (by omega)
 have i:=V0w hf
 have j:=x0k hf (p:=0) ⟨by omega,by omega⟩
 have l:(C9 g).length<=g.2.2.length:=List.length_filter_le _ _
 have d:=L0s hf (C9 g) (λe k=>(s0h.1 k).1) (by omega) (C9 g).length 0 P0 [] (by omega) (X0 (by omega)) (by simp)
 rw[show((0:Nat):Int)=0 from rfl,dZ,nA]at d
 unfold O05
 obtain⟨a,b,c⟩:=g
 simp only at *
 unfold Q04
 simp only[h,f,oB,i,j,bT,fT,if_false,d]
def k0y{x:Int}(h:j5 x):ng x = -x:=p0c h.1 h.2
def k0r{x:Int}(h:j5 x):j5 (-x):=⟨⟨by have:=h.1.2;have:=h.2;omega,by have:=h.1.1;have:=h.2;omega⟩,by have:=h.1.2;omega⟩
def O0n{w:List Int}(a:∀ x∈w,j5 x):∀ x∈inv w,j5 x:=λx b=>by
 simp only[inv,List.mem_reverse,List.mem_map]at b
 obtain⟨y,c,rfl⟩:=b
 rw[k0y (a y c)];exact k0r (a y c)
def Y0t{s:List Int}{x y:Int}(h:y∈b04 s x):y∈s∨y=x:=by
 cases s with
 |nil=>simp[b04]at h;exact .inr h
 |cons l t =>
  simp only[b04]at h
  cases c:O0f l x with
  |true=>rw[c]at h;exact .inl (mC _ h)
  |false =>
   rw[c]at h
   rcases mE.1 h with h|h
   ·exact .inr h
   ·exact .inl h
def z0k:∀(w s:List Int) {y:Int},y∈o05 s w->y∈s∨y∈w
 | [],s,y,h => .inl h
 |x::w,s,y,h=>by
  rcases z0k w (b04 s x) h with h|h
  ·rcases Y0t h with h|rfl
   ·exact .inl h
   ·exact .inr mS
  ·exact .inr (mC _ h)
def x0d{g:z0}(hf:N0 g=true){e:O0}(a:e∈g.2.2):D1 g e.1 e.2.1=e.2.2/\D1 g e.2.2 (-e.2.1)=e.1:=by
 have b:=(F1 hf).1 e a
 exact⟨c0b hf (R8.2 ⟨e,a,.inl ⟨by omega,rfl,rfl,rfl⟩⟩),c0b hf (R8.2 ⟨e,a,.inr ⟨by omega,by omega,rfl,rfl⟩⟩)⟩
def G0v{g:z0}(h:D2 g=true){v:Int}(h0:0<=v)(a:v<g.2.1):v∈T3 g 0:=r0m (P4 h) (V0t h) h0 a
def A0k{g:z0}(a:D2 g=true){v:Int}(h0:0<=v)(b:v<g.2.1):∀ x∈tw g 0 v,j5 x/\x≠0:=λx d=>by
 have hf:=P4 a
 obtain⟨e,f,h,i⟩:=F1 hf
 have c:=l08 hf (p:=0) ⟨by omega,by omega⟩
 have:=f07 (by omega) (c.let (G0v a h0 b) x d)
 exact⟨this.1,this.2.1⟩
def Z0t{g:z0}(c:D2 g=true){e:O0}(d:e∈g.2.2):∀ x∈bw g e,j5 x:=λx a=>by
 obtain⟨h,i,j,k⟩:=F1 (P4 c)
 have b:=h e d
 unfold bw at a
 rcases List.mem_append.1 a with a|a
 ·rcases List.mem_append.1 a with a|a
  ·exact(A0k c b.1.1 b.1.2 x a).1
  ·simp at a;subst a
   exact⟨⟨by omega,by omega⟩,by omega⟩
 ·exact O0n (λy f=>(A0k c b.2.1.1 b.2.1.2 y f).1) x a
def I09(b:z0)(a:List (List Int)):Bool:=D2 b&&a.all λw=>B01 b (o05 [] w).reverse
def z0m(g:z0):∀ d k,(j0e g d k).length<=d*(B7 g.1.toNat 1).length
 |0,k=>Nat.zero_le _
 |d+1,k=>by
  have a:=t0d g (k:Int) (B7 g.1.toNat 1)
  have b:=z0m g d (k+1)
  rw[j0e,lA,Nat.succ_mul]
  omega
def j0i{g:z0}(hf:N0 g=true):(A03 g).length<=1000:=by
 obtain⟨b,c,d,e⟩:=F1 hf
 have h:=z0m g g.2.1.toNat 0
 rw[v03]at h
 unfold A03
 have a:g.2.1.toNat*(2*g.1.toNat)<=40*(2*3):=Nat.mul_le_mul (by omega) (by omega)
 omega
def o07(g:z0):Bool:=D2 g&&decide ((A03 g).length=0)
def L0y(n:Nat):decide (((n:Nat):Int)=0)=decide (n=0):=by
 grind
def l06{g:z0}(h:D2 g=true):N0 g=true:=by
 simp_all[D2,aE]
def M0p(g:z0)(i:g.2.2.length<=140737488355328):t01 g=some (o07 g):=by
 have d:=a0b g i
 have f:D2 g=true->u00 g=some (A03 g):=λc=>m0l (l06 c)
 have h:D2 g=true->(A03 g).length<=1000:=λc=>j0i (l06 c)
 unfold o07
 obtain⟨a,b,c⟩:=g
 unfold t01 U2
 simp only[d,oB]
 cases e:D2 (a,b,c)with
 |false=>rfl
 |true =>
  have:=h e
  simp only[E1,f e,oB,cT,Bool.true_and]
  rw[D0 (by omega),oB,L0y]
def N0p(g:z0)(i:g.2.2.length<=140737488355328):u01 g=some (o07 g):=by
 have d:=a03 g i
 have f:D2 g=true->v00 g=some (A03 g):=λc=>n0l (l06 c)
 have h:D2 g=true->(A03 g).length<=1000:=λc=>j0i (l06 c)
 unfold o07
 obtain⟨a,b,c⟩:=g
 unfold u01
 simp only[d,oB]
 cases e:D2 (a,b,c)with
 |false=>rfl
 |true =>
  have:=h e
  simp only[E1,f e,oB,cT,Bool.true_and]
  rw[D0 (by omega),oB,L0y]
def O0p{g:z0}(h:o07 g=true):D2 g=true:=by
 simp_all[o07,aE]
def s0b(g:z0)(v:Int):List Int:=v::wo v.toNat g.2.1.toNat 0
def t0h(g:z0)(v:Int):z0:=p0h (G00 g (s0b g v))
theorem H0v(g:Nat):∀(d k:Nat),(g:Int) ∉ wo g d k
 |0,k,h=>nomatch h
 |d+1,k,h=>by
  unfold wo at h
  split at h
  ·exact H0v g d (k+1) h
  ·rcases mE.1 h with h|h
   ·omega
   ·exact H0v g d (k+1) h
theorem B0k{g:z0}(hf:N0 g=true){v:Int}(b:0<=v/\v<g.2.1):inV g.2.1.toNat (s0b g v)/\(s0b g v).Nodup/\(s0b g v).length=g.2.1.toNat:=by
 obtain⟨c,d,e,f⟩:=F1 hf
 refine⟨λx a=>?_,?_,?_⟩
 ·rcases mE.1 a with rfl|a
  ·omega
  ·exact l0p _ _ _ _ (by omega) x a
 ·refine List.nodup_cons.2 ⟨λh=>?_,w0c _ _ _⟩
  grind[H0v]
 ·unfold s0b
  rw[lC,l0k,if_pos (by omega)]
  omega
def u0h{g:z0}(hf:N0 g=true){v:Int}(a:0<=v/\v<g.2.1):N0 (G00 g (s0b g v))=true:=by
 obtain⟨b,c,d,e⟩:=F1 hf
 grind[B0k,x0c]
def a0u{g:z0}(hf:N0 g=true){v:Int}(a:0<=v/\v<g.2.1):D2 (t0h g v)=true:=u0m (u0h hf a)
def I0v(n:Nat)(v:Int)(h0:0<=v)(i:n<=1000):∀(d k fuel:Nat) (acc:List Int),k+d=n->d<fuel->acc.length<=k+1 ->
  P5 (n:Int) v fuel (k:Int) acc=some (acc++wo v.toNat d k)
 |d,k,0,acc,b,hf,a=>by omega
 |0,k,fuel+1,acc,b,hf,a=>by
  simp_all[P5.eq_2,if_neg,dE,wo]
 |d+1,k,fuel+1,acc,b,hf,a=>by
  have f:=λg h=>I0v n v h0 i d (k+1) fuel g (by omega) (by omega) h
  rw[P5.eq_2,if_pos (by grind),E2 (show k<10000 by omega) (by omega)]
  unfold wo
  by_cases c:k=v.toNat
  ·have e:decide ((k:Int)=v)=true:=dT (by omega)
   rw[e,if_neg (by simp),if_pos c,f _ (by omega)]
  ·have e:decide ((k:Int)=v)=false:=dF (by omega)
   rw[e,if_pos (show(!false)=true from rfl),if_neg c,D0 (by simp;omega),oB,f _ (by simp;omega)]
   simp
def v0x(n:Nat)(v:Int):∀(fuel:Nat) (k:Int) (acc:List Int),i9 (n:Int) v fuel k acc=P5 (n:Int) v fuel k acc
 |0,k,acc=>rfl
 |fuel+1,k,acc=>by
  rw[i9.eq_2,P5.eq_2]
  simp only[v0x n v fuel]
theorem l0r{g:z0}(hf:N0 g=true){v:Int}(e:0<=v/\v<g.2.1):D9 g v=some (t0h g v,true):=by
 obtain⟨s,t,k,u⟩:=F1 hf
 obtain⟨i,j,l⟩:=B0k hf e
 have f:=K6 g (by omega)
 rw[hf]at f
 have d:=I0v g.2.1.toNat v e.1 (by omega) g.2.1.toNat 0 P0 [v] (by omega) (X0 (by omega)) (by simp)
 have m:=f0r (u0h hf e)
 have h:=H0e g.1 g.2.1.toNat g.2.2 (s0b g v) (by grind[C3]) i j (by omega) (by omega)
 rw[show((0:Nat):Int)=0 from rfl]at d
 rw[show((g.2.1.toNat:Nat):Int)=g.2.1 by omega]at d h
 rw[show [v]++wo v.toNat g.2.1.toNat 0=s0b g v from rfl]at d
 rw[show(g.1,g.2.1,g.2.2)=g from rfl]at h
 unfold t0h
 generalize s0b g v=o at *
 generalize p:G00 g o=q at *
 obtain⟨a,b,c⟩:=g
 obtain⟨w,x,y⟩:=q
 simp only at d e k ⊢
 unfold D9
 simp only[f,oB,Bool.not_true,Bool.not_false,E1,J02,cond_false]
 rw[w64 (by omega) (by omega),show inR 0 (b-1) v=true by simp[inR];omega]
 grind
theorem m0r{g:z0}(hf:N0 g=true){v:Int}(f:0<=v/\v<g.2.1):B00 g v=some (t0h g v,true):=by
 obtain⟨m,x,p,y⟩:=F1 hf
 obtain⟨j,s,t⟩:=B0k hf f
 have h:=n01 g (by omega)
 rw[hf]at h
 have l:=y0v (C3 hf) f
 have d:=I0v g.2.1.toNat v f.1 (by omega) g.2.1.toNat 0 P0 [v] (by omega) (X0 (by omega)) (by simp)
 rw[←v0x]at d
 have u:=g0r (u0h hf f)
 have i:=A0n g.1 g.2.1.toNat g.2.2 (s0b g v) (λe k=>by have:=m e k;omega) j (by omega) (by omega) (by omega)
 rw[show((0:Nat):Int)=0 from rfl]at d
 rw[show((g.2.1.toNat:Nat):Int)=g.2.1 by omega]at d i
 rw[show [v]++wo v.toNat g.2.1.toNat 0=s0b g v from rfl]at d
 rw[show(g.1,g.2.1,g.2.2)=g from rfl]at i
 unfold t0h
 generalize s0b g v=o at *
 generalize w:G00 g o=q at *
 obtain⟨a,b,c⟩:=g
 obtain⟨z,A,C⟩:=q
 simp only at d f p ⊢
 unfold B00
 simp only[h,oB,Bool.not_true,Bool.not_false,E1,l,cond_false]
 grind
def u0a{g:z0}(h:D2 g=true):g.2.2.length<=120/\(1<=g.2.1/\g.2.1<=40)/\(1<=g.1/\g.1<=3):=by
 simp_all[F1,l06]
def isS(o:Option (List Int)):Bool:=o.isSome
def gtD(o:Option (List Int)):List Int:=o.getD []
def giM{b d:Type}{f:b->d}{a:List b}{n:Nat}(h:a.length=n){x:Int}(h0:0<=x)(e:x<(n:Int)){y:b}(c:gi a x=some y):gi (a.map f) x=some (f y):=by
 obtain⟨_,g⟩:=I0f c
 have:=Z1 (xs:=a.map f) (k:=x.toNat) (x:=f y) (by grind)
 rwa [show((x.toNat:Nat):Int)=x by omega]at this
def J0v{g:z0}(hf:N0 g=true)(p:Int){n:Nat}(G:g.2.1=(n:Int))(j:List Int)(F:∀ x∈j,x∈B7 g.1.toNat 1)(N:j.length<=1000000)(i:Nat)(v:Int):∀(d k fuel:Nat) (c:Tr8),TOk g p n c->c.2[i]?=some v->k+d=j.length->d<fuel ->
  U7 j (i:Int) g.1 g.2.1 g.2.2 fuel (k:Int) (c.1.map isS) (c.1.map gtD) c.2=some ((L0e g v (j.drop k) c).1.map isS,(L0e g v (j.drop k) c).1.map gtD,(L0e g v (j.drop k) c).2)
 |d,k,0,c,m,s,A,hf=>by omega
 |0,k,fuel+1,c,m,s,A,hf=>by
  rw[U7.eq_2,if_neg (by grind),Z0 (by omega)];rfl
 |d+1,k,fuel+1,c,m,D,A,U=>by
  obtain⟨I,X,S,Y⟩:=F1 hf
  have E:k<j.length:=by omega
  have u:=U3 E
  have z:=F _ (mG u)
  have C:=I1 u
  generalize j[k]=x at u z C
  have Q:=(f07 (by omega) z).1
  have V:=o01 n c.2 m.gd.1 m.gd.2
  have W:=J05 I v x
  have s:=mG D
  have O:=m.add hf G s z
  obtain⟨t,T⟩:=b0j g v x c
  have R:=J0v hf p G j F N i v d (k+1) fuel (trS g v x c) O (by grind) (by omega) (by omega)
  have l:=m.ok
  have o:=m.gd.2 v s
  have H:=l.short v
  obtain⟨a,w⟩:=l.get o.1 o.2 s
  have P:gi c.1 v=some (some a):=by rw[giO l.len o.1 o.2,w]
  rw[w]at H
  rw[U7.eq_2,if_pos (by grind),C,L0e,←R]
  simp only[Z1 D,Z1 u,oB,show(g.1,g.2.1,g.2.2)=g from rfl,U03 g v x Q (by omega),D0 (V03 I S.2 v x),E2 E (show j.length<=9223372036854775807 by omega),giM (f:=gtD) l.len o.1 o.2 P]
  unfold trS
  generalize D1 g v x=y at *
  by_cases c1:0<=y
  ·have q:y<(n:Int):=by omega
   have M:=giM (f:=isS) l.len c1 q (giO l.len c1 q)
   have L:=giM (f:=gtD) l.len c1 q (giO l.len c1 q)
   simp only[show decide (y ≥ 0)=true by simpa using c1,E1,M,L,oB,cT]
   by_cases c2:y∈c.2
   ·have:isS (A9 c.1 y)=true:=by
     have J : ¬ ((A9 c.1 y).isNone=true):=λh=>(l.iff y c1 q).1 h c2
     unfold isS
     cases e:A9 c.1 y with
     |none=>grind
     |some b=>rfl
    rw[this,if_neg (by simp),if_neg λh=>h.2 c2]
   ·have:isS (A9 c.1 y)=false:=by
     have J:(A9 c.1 y).isNone=true:=(l.iff y c1 q).2 c2
     simp_all[isS,A9]
    have K:gtD (some a)=a:=rfl
    simp only[Option.getD_some]at H
    rw[this,if_pos (by simp),if_pos ⟨c1,c2⟩,K,D0 (by omega),oB,D0 (by simp;omega),oB,D0 (by simp;omega),oB,w]
    simp only[List.map_set,Option.getD_some]
    rfl
  ·simp only[show decide (y ≥ 0)=false by simpa using c1,K1,oB,cF]
   rw[if_neg (by simp),if_neg λh=>c1 h.1]
def K0v{g:z0}(hf:N0 g=true)(p:Int){n:Nat}(d:g.2.1=(n:Int)):∀(f i fuel:Nat) (a:Tr8),TOk g p n a->i<=a.2.length->n+1<=i+f->f<fuel ->
  i00 (B7 g.1.toNat 1) g.1 g.2.1 g.2.2 fuel (i:Int) (a.1.map isS) (a.1.map gtD) a.2=some ((D06 g (B7 g.1.toNat 1) f i a).1.map isS,(D06 g (B7 g.1.toNat 1) f i a).1.map gtD,(D06 g (B7 g.1.toNat 1) f i a).2)
 |f,i,0,a,b,j,h,hf=>by omega
 |0,i,fuel+1,a,b,j,h,hf=>by have:=o01 n a.2 b.gd.1 b.gd.2;omega
 |f+1,i,fuel+1,a,b,j,h,l=>by
  obtain⟨q,s,u,w⟩:=F1 hf
  have m:=o01 n a.2 b.gd.1 b.gd.2
  rw[i00.eq_2,oB,D0 (by omega),oB]
  by_cases hk:i<a.2.length
  ·have c:=U3 hk
   generalize a.2[i]=v at c
   have k:=mG c
   have h0:=J0v hf p d (B7 g.1.toNat 1) (λx c=>c) (by rw[v03];omega) i v (B7 g.1.toNat 1).length 0 P0 a b c (by omega) (X0 (by rw[v03];omega))
   rw[show((0:Nat):Int)=0 from rfl,dZ]at h0
   obtain⟨t,e⟩:=w0k g v (B7 g.1.toNat 1) a
   have o:=K0v hf p d f (i+1) fuel _ (b.inn hf d _ k λx c=>c) (by grind) (by omega) (by omega)
   rw[if_pos (by simpa using hk),h0,oB]
   grind[E2,D06]
  simp_all[List.getElem?_eq_none,if_neg,D06]
def P0n{g:z0}(hf:N0 g=true){p:Int}(c:0<=p/\p<g.2.1):k04 g p=some ((e07 g p).1.map isS,(e07 g p).1.map gtD):=by
 obtain⟨h,i,j,l⟩:=F1 hf
 have a:g.2.1=((g.2.1.toNat:Nat):Int):=by omega
 have h0:=K0v hf p a (g.2.1.toNat+1) 0 P0 _ (v0d g (N:=g.2.1.toNat) ⟨c.1,by omega⟩) (by simp) (by omega) (X0 (by omega))
 have b:=C0n g.1.toNat (by omega)
 rw[show((g.1.toNat:Nat):Int)=g.1 by omega]at b
 have rep:∀ {d:Type} (z:d),gi (List.replicate g.2.1.toNat z) p=some z:=λz=>by
  have:=Z1 (xs:=List.replicate g.2.1.toNat z) (k:=p.toNat) (x:=z) (by rw[List.getElem?_replicate,if_pos (by omega)])
  rwa [show((p.toNat:Nat):Int)=p by omega]at this
 have e:((List.replicate g.2.1.toNat (none:Option (List Int))).set p.toNat (some [])).map isS=(List.replicate g.2.1.toNat false).set p.toNat true:=by
  rw[List.map_set,List.map_replicate];rfl
 have f:((List.replicate g.2.1.toNat (none:Option (List Int))).set p.toNat (some [])).map gtD=(List.replicate g.2.1.toNat ([]:List Int)).set p.toNat []:=by
  rw[List.map_set,List.map_replicate];rfl
 grind[e07,k04,D0]
def Q0n(g:z0)(u v:Int):List Int×Bool:=bif N0 g&&(inR 0 (g.2.1-1) u&&inR 0 (g.2.1-1) v)then(match A9 (e07 g u).1 v with
 |some w=>(w,true)
 |none=>([],false))else([],false)
def L0v{n u:Int}(h:inR 0 (n-1) u=true):0<=u/\u<n:=by
 simp only[inR,aE,dE]at h
 omega
def l0y(g:z0)(a:U0 g=true)(u:Int):H5 g u=some (inR 0 (g.2.1-1) u):=by
 obtain⟨b,c,d,e⟩:=V2 a
 grind[H5,W02,w64]
def b0u{g:z0}(hf:N0 g=true){u v:Int}(a:0<=u/\u<g.2.1):(gtD (A9 (e07 g u).1 v)).length<=40:=by
 obtain⟨b,c,d,e⟩:=F1 hf
 have h:=w0d hf a
 have:=h.ok.short v
 have:=o01 _ _ h.gd.1 h.gd.2
 unfold gtD
 omega
theorem n0r(g:z0)(p:g.2.2.length<=140737488355328)(u v:Int):C00 g u v=some (Q0n g u v):=by
 have i:=K6 g p
 unfold Q0n
 cases hf:N0 g with
 |false =>
  obtain⟨a,b,c⟩:=g
  unfold C00
  simp_all[oB,Bool.not_false,Bool.not_true,K1,cond_true]
 |true =>
  obtain⟨t,x,k,y⟩:=F1 hf
  cases hu:inR 0 (g.2.1-1) u with
  |false =>
   obtain⟨a,b,c⟩:=g
   unfold C00
   simp only at hu k
   simp only[i,hf,oB,Bool.not_false,Bool.not_true,E1,cond_false,J02]
   rw[w64 (by omega) (by omega),hu]
   rfl
  |true =>
   cases hv:inR 0 (g.2.1-1) v with
   |false =>
    obtain⟨a,b,c⟩:=g
    unfold C00
    simp only at hu hv k
    simp only[i,hf,oB,Bool.not_false,Bool.not_true,E1,cond_false,J02]
    rw[w64 (by omega) (by omega),hu]
    simp_all[Bool.not_true,Bool.not_false,oB,cond_false,E1]
   |true =>
    have j:=L0v hu
    have h:=L0v hv
    have q:=P0n hf j
    have d:=(w0d hf j).ok
    have l:=giM (f:=isS) d.len h.1 (by omega) (giO d.len h.1 (by omega))
    have m:=giM (f:=gtD) d.len h.1 (by omega) (giO d.len h.1 (by omega))
    have o:=b0u hf (v:=v) j
    obtain⟨a,b,c⟩:=g
    unfold C00
    simp only at hu hv k l m
    simp only[i,hf,oB,Bool.not_false,Bool.not_true,E1,cond_false,J02]
    rw[w64 (by omega) (by omega),hu]
    simp only[Bool.not_true,Bool.not_false,oB,cond_false,E1,hv,Bool.false_eq_true,if_false,q,l,m,Bool.and_self,cond_true]
    cases e:A9 (e07 (a,b,c) u).1 v with
    |none=>rfl
    |some w =>
     rw[e]at o
     have s:gtD (some w)=w:=rfl
     rw[s]at o ⊢
     rw[show isS (some w)=true from rfl,if_neg (by simp),D0 (by grind),oB,List.nil_append]
def e0b(g:z0)(v:Int):List Int:=(Q0n g 0 v).1
def z0c(g:z0)(a:g.2.2.length<=140737488355328)(v:Int):M02 g v=some (e0b g v):=by
 grind[n0r,e0b,M02]
def O0s{g:z0}(hf:N0 g=true){w:List Int}(k:∀ x∈w,j5 x)(j:w.length<=140737488355328):R00 g w=some (B01 g w):=by
 obtain⟨e,m,f,o⟩:=F1 hf
 have h:=j0v g e f.2 (by omega) 0 w k j
 have i:=m0a e f.2 w 0 ⟨by omega,by omega⟩
 have l:=B07 g w 0
 unfold B01
 obtain⟨a,b,c⟩:=g
 unfold R00
 simp only[h,oB]
 rw[D0 i,oB,D0 (show F0 (((O2 (a,b,c) 0 w).2:Nat):Int) from⟨by omega,by omega⟩),oB]
 by_cases d:(O2 (a,b,c) 0 w).2=w.length
 ·rw[dT d,show decide ((((O2 (a,b,c) 0 w).2:Nat):Int)=((w.length:Nat):Int))=true from dT (by omega)]
  simp
 ·rw[dF d,show decide ((((O2 (a,b,c) 0 w).2:Nat):Int)=((w.length:Nat):Int))=false from dF (by omega)]
  simp
def k0g(w:List Int)(a:w.length<=1099511627776):V9 w=some (o05 [] w).reverse:=by
 unfold V9
 rw[H09 [w] (by simp) (by simp only[K0p];omega)]
 rfl
def C0k{w:List Int}(a:∀ x∈w,j5 x):∀ x∈(o05 [] w).reverse,j5 x:=λx b=>by
 rcases z0k w [] (List.mem_reverse.1 b)with h|h
 ·cases h
 ·exact a x h
def R0v{g:z0}(hf:N0 g=true)(a:List (List Int))(j:∀ w∈a,(∀ x∈w,j5 x)/\w.length<=1099511627776)(l:a.length<=1099511627776):∀(d k fuel:Nat),k+d=a.length->d<fuel ->
  l7 a g.1 g.2.1 g.2.2 fuel (k:Int)=some (bif(a.drop k).all λw=>B01 g (o05 [] w).reverse then .inr ()else .inl false)
 |d,k,0,e,h=>by omega
 |0,k,fuel+1,e,h=>by
  rw[l7.eq_2,if_neg (by simp only[dE];omega),Z0 (by omega)];rfl
 |d+1,k,fuel+1,e,h=>by
  have i:k<a.length:=by omega
  have b:=U3 i
  have c:=j _ (mG b)
  have f:=I1 b
  generalize a[k]=w at b c f
  have m:=x06 w []
  have o:=R0v hf a j l d (k+1) fuel (by omega) (by omega)
  rw[l7.eq_2,if_pos (by simp only[dE];omega),Z1 b,oB,k0g w c.2,oB,show(g.1,g.2.1,g.2.2)=g from rfl,O0s hf (C0k c.1) (by rw[List.length_reverse];simp only[lN]at m;omega),oB,E2 i (by omega),o,f,List.all_cons]
  cases B01 g (o05 [] w).reverse<;>rfl
def p0l(b:z0)(h:b.2.2.length<=140737488355328)(d:List (List Int))(i:∀ w∈d,(∀ x∈w,j5 x)/\w.length<=1099511627776)(g:d.length<=1099511627776):S00 b d=some (I09 b d):=by
 have f:=a03 b h
 have e:D2 b=true->_:=λc=>R0v (P4 c) d i g d.length 0 P0 (by omega) (X0 (by omega))
 rw[show((0:Nat):Int)=0 from rfl,dZ]at e
 unfold I09
 obtain⟨a,b,c⟩:=b
 unfold S00
 simp only[f,oB]
 cases cb:D2 (a,b,c)with
 |false=>rfl
 |true =>
  have:=e cb
  simp only at this
  simp only[bT,fT,if_false,this,oB,Bool.true_and]
  cases d.all λw=>B01 (a,b,c) (o05 [] w).reverse<;>rfl
def S0v{g:z0}(a:D2 g=true):(∀ w∈O05 g,(∀ x∈w,j5 x)/\w.length<=81)/\(O05 g).length<=120:=by
 obtain⟨h,i,j,k⟩:=F1 (P4 a)
 refine⟨λw b=>?_,?_⟩
 ·unfold O05 at b
  obtain⟨e,d,rfl⟩:=List.mem_map.1 b
  refine⟨C0k (Z0t a (s0h.1 d).1),?_⟩
  have c:=x06 (bw g e) []
  have f:=j0y (P4 a) e
  rw[List.length_reverse]
  simp only[lN]at c
  omega
 ·unfold O05
  rw[List.length_map]
  have:(C9 g).length<=g.2.2.length:=List.length_filter_le _ _
  omega
end Go.Proofs.YtcpjomkcdlggaaaGreat
