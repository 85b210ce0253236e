/- Texts of the claim, joined: Plain laws: the core of a folded graph is a core and others. -/
import Derived.Test.YtfphndijjmdiiaaGreatPart20
import Derived.Test.YtfphndijjmdiiaaGreatPart17
import Derived.Test.YtfphndijjmdiiaaGreatH36
import Derived.Test.YtfphndijjmdiiaaGreatPart18
import Derived.Test.YtfphndijjmdiiaaGreatH33
namespace Go.Proofs.YtfphndijjmdiiaaGreat
open Go.H
set_option linter.unusedVariables false
set_option linter.unusedSimpArgs false
theorem e07:∀(d:Nat) {g:j0},F1 g=true->g.2.1.toNat<=d+1->G00 (H00 d g)=none
 |0,g,a,h=>by
  cases e:G00 g with
  |none=>exact e
  |some k=>have:=h0b e;omega
 |d+1,g,a,h=>by
  unfold H00
  cases e:G00 g with
  |none=>exact e
  |some k =>
   obtain⟨b,i,c,f⟩:=s06 a e
   exact e07 d (X09 a b c f) (by show(((wo k g.2.1.toNat 0).length:Nat):Int).toNat<=d+1;omega)
theorem k0p{g:j0}(hf:K0 g=true){v x y z:Int}(q:y∈O01 v x g.2.2)(s:z∈O01 v x g.2.2):y=z:=by
 obtain⟨e,o,l⟩:=M3.1 q
 obtain⟨k,p,m⟩:=M3.1 s
 by_cases hne:e=k
 ·subst hne
  rcases l with⟨a,b,c,rfl⟩|⟨a,b,c,rfl⟩<;>rcases m with⟨h,i,j,rfl⟩|⟨h,i,j,rfl⟩<;>first|rfl|omega
 ·have f:=(y0c (T5 hf)).1 hf e o k p hne
  unfold h05 at f
  simp only[Bool.and_eq_false_iff,Bool.or_eq_false_iff,decide_eq_false_iff_not]at f
  rcases l with⟨a,b,c,d⟩|⟨a,b,c,d⟩<;>rcases m with⟨h,i,j,n⟩|⟨h,i,j,n⟩<;>first|omega|(exfalso;rcases f with f|⟨t,u⟩<;>omega)
theorem b01(g:j0)(v x:Int):(Y0 g v x = -1/\O01 v x g.2.2 = [])∨Y0 g v x∈O01 v x g.2.2:=by
 unfold Y0
 cases e:q04 g v x with
 |nil =>
  left
  refine⟨rfl,List.eq_nil_iff_forall_not_mem.2 λy b=>?_⟩
  have:y∈q04 g v x:=(R6 h01 y _ _).2 (.inr b)
  rw[e]at this;cases this
 |cons a l=>exact .inr (y0h (by rw[e];exact mS))
theorem G03{g:j0}(hf:K0 g=true){v x y:Int}(a:y∈O01 v x g.2.2):Y0 g v x=y:=by
 rcases b01 g v x with⟨_,h⟩|h
 ·rw[h]at a;cases a
 ·exact k0p hf h a
theorem c05:∀(d i j:Nat),i<=j->j<i+d->(j:Int)∈U9 d i /\ -(j:Int)∈U9 d i
 |0,i,j,e,f=>by omega
 |d+1,i,j,e,f=>by
  simp only[U9,List.mem_cons]
  by_cases c:j=i
  ·subst c;simp
  ·obtain⟨a,b⟩:=c05 d (i+1) j (by omega) (by omega)
   exact⟨.inr (.inr a),.inr (.inr b)⟩
theorem P0h(g:j0)(v:Int):∀(b u:List Int) (x:Int),x∈b->0<=Y0 g v x->Y0 g v x∈s03 g v b u
 |y::r,u,x,a,h0=>by
  rw[s03]
  rcases List.mem_cons.1 a with rfl|a
  ·obtain⟨t,e⟩:=w04 g v r (W09 u (Y0 g v x))
   rw[e]
   refine List.mem_append_left _ ?_
   unfold W09
   split
   ·exact List.mem_append_right _ (List.mem_singleton.2 rfl)
   ·rename_i h
    by_cases hm:Y0 g v x∈u
    ·exact hm
    ·exact absurd ⟨h0,hm⟩ h
  ·exact P0h g v r _ x a h0
theorem X0f(g:j0)(a:List Int):∀(f i:Nat) (u:List Int),∃ t,V9 g a f i u=u++t
 |0,i,u=>⟨[],by simp[V9]⟩
 |f+1,i,u=>by
  unfold V9
  split
  ·rename_i v _
   obtain⟨d,b⟩:=w04 g v a u
   obtain⟨e,c⟩:=X0f g a f (i+1) (s03 g v a u)
   exact⟨d++e,by rw[c,b,List.append_assoc]⟩
  ·exact⟨[],by simp⟩
theorem Y0f{r:Int}{n:Nat}{es:List Q0}(m:inG (r,(n:Int),es))(a:List Int):∀(f i:Nat) (u:List Int),gud n u->n+1<=f+i->i<=u.length ->
  (∀ j,j<i->∀ v,u[j]?=some v->∀ x∈a,0<=Y0 (r,(n:Int),es) v x->Y0 (r,(n:Int),es) v x∈u) ->
  ∀ v∈V9 (r,(n:Int),es) a f i u,∀ x∈a,0<=Y0 (r,(n:Int),es) v x->Y0 (r,(n:Int),es) v x∈V9 (r,(n:Int),es) a f i u
 |0,i,u,g,q,o,k=>by have:=c07 n u g.1 g.2;omega
 |f+1,i,u,g,q,o,k=>by
  unfold V9
  cases e:u[i]? with
  |none =>
   have:i=u.length:=by have:=List.getElem?_eq_none_iff.1 e;omega
   show ∀ v∈u,∀ x∈a,0<=Y0 (r,(n:Int),es) v x->Y0 (r,(n:Int),es) v x∈u
   intro v b x h h0
   obtain⟨j,l⟩:=List.getElem?_of_mem b
   exact k j (by have:=(List.getElem?_eq_some_iff.1 l).1;omega) v l x h h0
  |some w =>
   have p:=(List.getElem?_eq_some_iff.1 e).1
   obtain⟨t,d⟩:=w04 (r,(n:Int),es) w a u
   refine Y0f m a f (i+1) _ (m06 m w a u g) (by omega) (by rw[d,List.length_append];omega) λj l v b x h h0=>?_
   by_cases c:j=i
   ·subst c
    rw[d,List.getElem?_append_left p,e]at b
    cases b
    exact P0h _ _ a u x h h0
   ·rw[d,List.getElem?_append_left (by omega)]at b
    rw[d]
    exact List.mem_append_left _ (k j (by omega) v b x h h0)
theorem f07(g:j0):∃ t,S5 g=0::t:=by
 obtain⟨t,e⟩:=X0f g (U9 g.1.toNat 1) (g.2.1.toNat+1) 0 [0]
 exact⟨t,e⟩
theorem k0l{g:j0}(hf:K0 g=true){x:Int}(h:Rch g.2.2 0 x):x∈S5 g:=by
 obtain⟨m,s,u,y⟩:=D2 hf
 have o:=f07 g
 have d:∀ v∈S5 g,∀ x∈U9 g.1.toNat 1,0<=Y0 g v x->Y0 g v x∈S5 g:=by
  obtain⟨r,n,es⟩:=g
  simp only at s u
  obtain⟨a,rfl⟩:∃ a:Nat,n=(a:Int):=⟨n.toNat,by omega⟩
  exact Y0f m _ (((a:Int)).toNat+1) 0 [0] ⟨by simp,λx i=>by simp at i;subst i;omega⟩ (by simp only[Int.toNat_natCast];omega) (Nat.zero_le _) (λj f=>by omega)
 refine Rch.sub (P:=λx=>x∈S5 g) ?_ (λe c=>?_) h
 ·obtain⟨t,e⟩:=o
  rw[e];exact mS
 ·have w:=m e c
  obtain⟨j,f⟩:∃ j:Nat,e.2.1=(j:Int):=⟨e.2.1.toNat,by omega⟩
  obtain⟨p,q⟩:=c05 g.1.toNat 1 j (by omega) (by omega)
  have k:Y0 g e.1 (j:Int)=e.2.2:=G03 hf (M3.2 ⟨e,c,.inl ⟨by omega,f,rfl,rfl⟩⟩)
  have l:Y0 g e.2.2 (-(j:Int))=e.1:=G03 hf (M3.2 ⟨e,c,.inr ⟨by omega,by omega,rfl,rfl⟩⟩)
  constructor
  ·intro b
   have:=d e.1 b (j:Int) p (by rw[k];omega)
   rwa [k]at this
  ·intro b
   have:=d e.2.2 b (-(j:Int)) q (by rw[l];omega)
   rwa [l]at this
theorem j0b{a:Nat->Bool}:∀ {d v:Nat},lf a d v=none->∀ k,v<=k->k<v+d->a k=false
 |0,v,h,k,b,e=>by omega
 |d+1,v,h,k,b,e=>by
  unfold lf at h
  cases hb:a v with
  |true=>rw[hb]at h;cases h
  |false =>
   rw[hb]at h
   by_cases c:k=v
   ·rw[c];exact hb
   ·exact j0b (d:=d) (v:=v+1) h k (by omega) (by omega)
theorem Z0f{a:Nat->Bool}:∀ {d v:Nat},(∀ k,v<=k->k<v+d->a k=false)->lf a d v=none
 |0,v,h=>rfl
 |d+1,v,h=>by
  unfold lf
  rw[h v (Nat.le_refl _) (by omega)]
  exact Z0f λk b c=>h k (by omega) (by omega)
theorem B0c{g:j0}(hf:K0 g=true)(b:G00 g=none){x:Int}(h0:0<=x)(d:x<g.2.1):x∈S5 g:=by
 refine k0l hf ?_
 by_cases c:x=0
 ·subst c;exact .base
 ·have:=j0b b x.toNat (by omega) (by omega)
  unfold l0j at this
  simp only[Bool.or_eq_false_iff,Bool.not_eq_false',decide_eq_true_eq]at this
  have a:=this.2
  rw[show((x.toNat:Nat):Int)=x by omega]at a
  exact(b07 _ _ _).1 a
theorem Q0h{n:Nat}:∀(o:List Int) (k:Nat) (A:List Int),A.length=n->inV n o->o.Nodup->∀(i:Nat) (v:Int),o[i]?=some v->getI (P01 A k o) v=((k+i:Nat):Int)
 | [],k,A,c,b,f,i,v,a=>by simp at a
 |w::r,k,A,c,b,f,i,v,a=>by
  have e:=b w mS
  obtain⟨g,h⟩:=List.nodup_cons.1 f
  cases i with
  |zero =>
   simp at a;subst a
   rw[P01,F0f r _ _ w (by simp[c]) (λu d=>b u (mC _ d)) e.1 g,T03 e.1 (by omega) e.1,if_pos rfl];rfl
  |succ i =>
   rw[P01,Q0h r (k+1) _ (by simp[c]) (λu d=>b u (mC _ d)) h i v (by simpa using a)]
   omega
theorem C0c{n:Nat}{o:List Int}(c:inV n o)(a:o.Nodup){i:Nat}{v:Int}(b:o[i]?=some v):getI (plc n o) v=(i:Int):=by
 have:=Q0h o 0 (List.replicate n (-1)) (by simp) c a i v b
 rw[Nat.zero_add]at this;exact this
theorem P0m(P:List Int):∀(es:List Q0),(∀ e∈es,0<=getI P e.1/\0<=getI P e.2.2)->pE P es=es.map λe=>(getI P e.1,e.2.1,getI P e.2.2)
 | [],h=>rfl
 |e::r,h=>by
  have a:=h e mS
  unfold pE
  rw[show(decide (0<=getI P e.1)&&decide (0<=getI P e.2.2))=true by simp[a.1,a.2],P0m P r λb c=>h b (mC _ c)]
  rfl
theorem R0h(e:Q0):∀ {l:List Q0},e ∉ l->(S8 P0 e l).Perm (e::l)
 | [],_=>List.Perm.refl _
 |y::l,h=>by
  have d:=R0h e (l:=l) λb=>h (mC _ b)
  unfold S8
  split
  ·exact List.Perm.refl _
  ·split
   ·rename_i c
    exact absurd (O5.eq _ _ c) λa=>h (by rw[a];exact mS)
   ·exact(List.Perm.cons y d).trans (List.Perm.swap e y l)
theorem z0d:∀(r acc:List Q0),(acc++r).Nodup->(i5 P0 acc r).Perm (acc++r)
 | [],acc,h=>by simp[i5]
 |x::r,acc,h=>by
  have a:(acc++x::r).Perm (x::(acc++r)):=List.perm_middle
  have b:=a.nodup_iff.1 h
  have f:x ∉ acc:=λd=>(List.nodup_cons.1 b).1 (List.mem_append_left _ d)
  have e:=R0h x f
  have c:(S8 P0 x acc++r).Perm (x::(acc++r)):=e.append_right r
  rw[i5]
  exact((z0d r _ (c.nodup_iff.2 b)).trans c).trans a.symm
theorem l0p(v:Int){l a:List Q0}(h:l.Perm a):Y02 v l=Y02 v a:=by
 induction h with
 |nil=>rfl
 |cons x _ d=>simp only[Y02,d]
 |swap x y l=>simp only[Y02];omega
 |trans _ _ b c=>rw[b,c]
theorem l0l{φ:Int->Int}{v:Int}:∀(es:List Q0),(∀ e∈es,(φ e.1=φ v↔e.1=v)/\(φ e.2.2=φ v↔e.2.2=v))->Y02 (φ v) (es.map λe=>(φ e.1,e.2.1,φ e.2.2))=Y02 v es
 | [],h=>rfl
 |e::r,h=>by
  obtain⟨a,b⟩:=h e mS
  have g:=l0l r λd f=>h d (mC _ f)
  simp only[List.map_cons,Y02,g,a0b]
  congr 2
  ·by_cases c:e.1=v
   ·rw[if_pos (a.2 c),if_pos c]
   ·rw[if_neg λq=>c (a.1 q),if_neg c]
  ·by_cases c:e.2.2=v
   ·rw[if_pos (b.2 c),if_pos c]
   ·rw[if_neg λq=>c (b.1 q),if_neg c]
theorem a0r:∀(m:Nat) (o:List Int),(∀ i:Nat,i<m->(i:Int)∈o)->m<=o.length
 |0,o,h=>Nat.zero_le _
 |m+1,o,h=>by
  have a:=h m (by omega)
  have b:=a0r m (o.erase (m:Int)) λi c=>(List.mem_erase_of_ne (by omega)).2 (h i (by omega))
  rw[List.length_erase_of_mem a]at b
  have:=List.length_pos_of_mem a
  omega
theorem D0c{es:List Q0}(c:Asc P0 es):es.Nodup:=by
 refine List.Pairwise.imp (λ{a b} h e=>?_) c
 rw[e,O5.refl]at h;omega
theorem m0l{es:List Q0}(a:Asc P0 es):i5 P0 [] es=es :=
 T09 O5 (V04 O5 _ _ .nil) a λx=>by rw[R6 O5];simp
theorem Q0m{t:j0}(hf:K0 t=true)(ab:G00 t=none):u00 (B4 t)=true:=by
 have av:=T5 hf
 obtain⟨A,aU,aV,aW⟩:=D2 hf
 have ak:=q06 av
 obtain⟨⟨M,G⟩,aE⟩:=n06 hf
 have aB:=c07 _ _ M G
 have Y:∀ x:Int,0<=x->x<t.2.1->x∈S5 t:=λx h0 d=>B0c hf ab h0 d
 obtain⟨aX,aK⟩:=f07 t
 obtain⟨n,ad⟩:∃ n:Nat,t.2.1=(n:Int):=⟨t.2.1.toNat,by omega⟩
 have Q:t.2.1.toNat=n:=by omega
 rw[Q]at G aB
 have ag:(S5 t).length=n:=by
  have:=a0r n (S5 t) λi F=>Y _ (by omega) (by omega)
  omega
 let P:Int->Int:=getI (plc n (S5 t))
 have K:∀(i:Nat) (v:Int),(S5 t)[i]?=some v->P v=(i:Int):=λi v F=>C0c G M F
 have L:∀ x:Int,0<=x->x<t.2.1->0<=P x/\P x<(n:Int):=λx h0 d=>by
  obtain⟨i,F⟩:=List.getElem?_of_mem (Y x h0 d)
  have:=(List.getElem?_eq_some_iff.1 F).1
  rw[K i x F];omega
 have B:∀ x y:Int,0<=x->x<t.2.1->0<=y->y<t.2.1->P x=P y->x=y:=λx y h0 d p aQ h=>g0b G M h0 p (L x h0 d).1 h
 have S:P 0=0:=K 0 0 (by rw[aK];rfl)
 have aF:pE (plc n (S5 t)) t.2.2=t.2.2.map λe=>(P e.1,e.2.1,P e.2.2):=P0m _ _ λe g=>by
  have:=A e g
  exact⟨(L e.1 this.1.1 this.1.2).1,(L e.2.2 this.2.1.1 this.2.1.2).1⟩
 have J:B4 t=(t.1,(n:Int),i5 P0 [] (t.2.2.map λe=>(P e.1,e.2.1,P e.2.2))):=by
  unfold B4 F00
  rw[Q,aF,ag]
 have ay:∀ e∈t.2.2,∀ j∈t.2.2,((P e.1,e.2.1,P e.2.2):Q0)=(P j.1,j.2.1,P j.2.2)->e=j:=λe g j U h=>by
  have a:=A e g
  have b:=A j U
  simp only[Prod.mk.injEq]at h
  have d:=B _ _ a.1.1 a.1.2 b.1.1 b.1.2 h.1
  have p:=B _ _ a.2.1.1 a.2.1.2 b.2.1.1 b.2.1.2 h.2.2
  obtain⟨aN,H,X⟩:=e
  obtain⟨aO,aP,f2⟩:=j
  simp only at d p h
  rw[d,p,h.2.1]
 have aD:(t.2.2.map λe=>((P e.1,e.2.1,P e.2.2):Q0)).Nodup:=by
  have:=D0c ak
  rw[List.Nodup,List.pairwise_map]
  exact List.Pairwise.imp_of_mem (λ{a b} ao C h e=>h (ay a ao b C e)) this
 have O:∀ j,j∈(B4 t).2.2↔∃ e∈t.2.2,j=(P e.1,e.2.1,P e.2.2):=λj=>by
  rw[J]
  simp only
  rw[R6 O5]
  simp only[List.not_mem_nil,false_or,List.mem_map]
  exact⟨λ⟨e,d,p⟩=>⟨e,d,p.symm⟩,λ⟨e,d,p⟩=>⟨e,d,p.symm⟩⟩
 have I:K0 (B4 t)=true:=U03 hf (by rw[Q];exact G) M aE (by omega)
 have Z:=T5 I
 have D:(B4 t).2.1=(n:Int):=by rw[J]
 have ar:∀ v:Int,0<=v->v<t.2.1->Y02 (P v) (B4 t).2.2=Y02 v t.2.2:=λv h0 d=>by
  rw[J]
  simp only
  rw[l0p _ (z0d _ [] (by simpa using aD)),List.nil_append]
  refine l0l _ λe g=>?_
  have:=A e g
  exact⟨⟨λh=>B _ _ this.1.1 this.1.2 h0 d h,λh=>by rw[h]⟩,⟨λh=>B _ _ this.2.1.1 this.2.1.2 h0 d h,λh=>by rw[h]⟩⟩
 have aH:∀ x,Rch t.2.2 0 x->Rch (B4 t).2.2 0 (P x):=λx s =>
  Rch.sub (P:=λx=>Rch (B4 t).2.2 0 (P x)) (by show Rch _ 0 (P 0);rw[S];exact .base) (λe g=>Rch.closed (P e.1,e.2.1,P e.2.2) ((O _).2 ⟨e,g,rfl⟩)) s
 have aA:G00 (B4 t)=none:=by
  unfold G00
  refine Z0f λk aS aL=>?_
  rw[D,Int.toNat_natCast]at aL
  obtain⟨v,w⟩:∃ v,(S5 t)[k]?=some v:=⟨_,List.getElem?_eq_getElem (by omega)⟩
  have aJ:=G v (List.mem_of_getElem? w)
  have T:=K k v w
  have aR:v≠0:=λh=>by rw[h,S]at T;omega
  have C:=j0b ab v.toNat (by omega) (by omega)
  unfold l0j at C ⊢
  rw[show((v.toNat:Nat):Int)=v by omega]at C
  simp only[Bool.or_eq_false_iff,Bool.not_eq_false',decide_eq_true_eq,decide_eq_false_iff_not]at C ⊢
  refine⟨?_,?_⟩
  ·rw[←T,ar v aJ.1 (by omega)];exact C.1
  ·rw[←T]
   exact(b07 _ _ _).2 (aH v ((b07 _ _ _).1 C.2))
 have ae:∀ v x:Int,0<=v->v<t.2.1->(Y0 t v x = -1/\Y0 (B4 t) (P v) x = -1)∨((0<=Y0 t v x/\Y0 t v x<t.2.1)/\Y0 (B4 t) (P v) x=P (Y0 t v x)):=λv x h0 d=>by
  rcases b01 t v x with⟨H,X⟩|H
  ·left
   refine⟨H,?_⟩
   rcases b01 (B4 t) (P v) x with⟨R,aM⟩|R
   ·exact R
   ·exfalso
    obtain⟨j,U,V⟩:=M3.1 R
    obtain⟨e,g,rfl⟩:=(O j).1 U
    have E:=A e g
    have:∃ y,y∈O01 v x t.2.2:=by
     rcases V with⟨a,b,c,_⟩|⟨a,b,c,_⟩
     ·exact⟨_,M3.2 ⟨e,g,.inl ⟨a,b,B _ _ E.1.1 E.1.2 h0 d c,rfl⟩⟩⟩
     ·exact⟨_,M3.2 ⟨e,g,.inr ⟨a,b,B _ _ E.2.1.1 E.2.1.2 h0 d c,rfl⟩⟩⟩
    obtain⟨y,ai⟩:=this
    rw[X]at ai;cases ai
  ·right
   generalize Y0 t v x=y at H
   obtain⟨e,g,V⟩:=M3.1 H
   have E:=A e g
   rcases V with⟨a,b,c,rfl⟩|⟨a,b,c,rfl⟩
   ·exact⟨E.2.1,G03 I (M3.2 ⟨_,(O _).2 ⟨e,g,rfl⟩,.inl ⟨a,b,by show P e.1=P v;rw[c],rfl⟩⟩)⟩
   ·exact⟨E.1,G03 I (M3.2 ⟨_,(O _).2 ⟨e,g,rfl⟩,.inr ⟨a,b,by show P e.2.2=P v;rw[c],rfl⟩⟩)⟩
 have aj:∀ u:List Int,gud n u->∀ x∈u,0<=x/\x<t.2.1:=λu o x s=>by have:=o.2 x s;omega
 have ax:inG (t.1,(n:Int),t.2.2):=by
  have:=A
  intro e g
  have:=A e g
  rw[ad]at this;exact this
 have au:(t.1,(n:Int),t.2.2)=t:=by
  rw[←ad]
 have an:∀(u:List Int) (y z:Int),gud n u->(y = -1/\z = -1)∨((0<=y/\y<t.2.1)/\z=P y)->W09 (u.map P) z=(W09 u y).map P:=λu y z o h=>by
  unfold W09
  rcases h with⟨rfl,rfl⟩|⟨⟨h0,d⟩,rfl⟩
  ·rw[if_neg (by omega),if_neg (by omega)]
  ·have ac:P y∈u.map P↔y∈u:=by
    constructor
    ·intro h
     obtain⟨x,s,e⟩:=List.mem_map.1 h
     have:=aj u o x s
     rw[←B x y this.1 this.2 h0 d e];exact s
    ·exact λh=>List.mem_map.2 ⟨y,h,rfl⟩
   by_cases c:y∈u
   ·rw[if_neg λq=>q.2 (ac.2 c),if_neg λq=>q.2 c]
   ·rw[if_pos ⟨(L y h0 d).1,λq=>c (ac.1 q)⟩,if_pos ⟨h0,c⟩];simp
 have al:∀(v:Int),0<=v->v<t.2.1->∀(m u:List Int),gud n u->s03 (B4 t) (P v) m (u.map P)=(s03 t v m u).map P:=λv h0 d m=>by
  induction m with
  |nil=>intro u o;rfl
  |cons x l W =>
   intro u o
   have s:Y0 t v x = -1∨(0<=Y0 t v x/\Y0 t v x<(n:Int)):=by
    rcases ae v x h0 d with⟨a,_⟩|⟨a,_⟩
    ·exact .inl a
    ·exact .inr (by omega)
   rw[s03,s03,an u _ _ o (ae v x h0 d),W _ (O0q o s)]
 have am:∀(f i:Nat) (u:List Int) (m:List Int),gud n u->V9 (B4 t) m f i (u.map P)=(V9 t m f i u).map P:=λf=>by
  induction f with
  |zero=>intro i u m o;rfl
  |succ f W =>
   intro i u m o
   unfold V9
   rw[List.getElem?_map]
   cases e:u[i]? with
   |none=>rfl
   |some v =>
    have w:=aj u o v (List.mem_of_getElem? e)
    have aw:gud n (s03 t v m u):=by
     have:=m06 ax v m u o
     rw[au]at this;exact this
    simp only[Option.map_some]
    rw[al v w.1 w.2 m u o]
    exact W (i+1) _ m aw
 have ah:S5 (B4 t)=(S5 t).map P:=by
  have d:(B4 t).1=t.1:=by rw[J]
  have p:=am (n+1) 0 [0] (U9 t.1.toNat 1) ⟨by simp,λx s=>by simp at s;subst s;omega⟩
  rw[List.map_cons,List.map_nil,S]at p
  show V9 (B4 t) (U9 (B4 t).1.toNat 1) ((B4 t).2.1.toNat+1) 0 [0]=(V9 t (U9 t.1.toNat 1) (t.2.1.toNat+1) 0 [0]).map P
  rw[d,D,Q,Int.toNat_natCast]
  exact p
 have az:∀ i:Nat,i<n->(S5 (B4 t))[i]?=some (i:Int):=λi F=>by
  rw[ah,List.getElem?_map]
  obtain⟨v,w⟩:∃ v,(S5 t)[i]?=some v:=⟨_,List.getElem?_eq_getElem (by omega)⟩
  rw[w,Option.map_some,K i v w]
 obtain⟨⟨aq,af⟩,_⟩:=n06 I
 rw[D,Int.toNat_natCast]at af
 have N:∀ x:Int,0<=x->x<(n:Int)->getI (plc n (S5 (B4 t))) x=x:=λx h0 d=>by
  have:=C0c af aq (az x.toNat (by omega))
  rw[show((x.toNat:Nat):Int)=x by omega]at this;exact this
 have aC:(S5 (B4 t)).length=n:=by rw[ah,List.length_map,ag]
 have aa:=(i4 Z).1
 have ap:B4 (B4 t)=B4 t:=by
  have aG:pE (plc n (S5 (B4 t))) (B4 t).2.2=(B4 t).2.2:=by
   rw[P0m _ _ λe g=>by
    have:=aa e g
    rw[D]at this
    exact⟨by rw[N _ this.1.1 this.1.2];exact this.1.1,by rw[N _ this.2.1.1 this.2.1.2];exact this.2.1.1⟩]
   refine(List.map_congr_left λe g=>?_).trans (List.map_id _)
   have:=aa e g
   rw[D]at this
   rw[N _ this.1.1 this.1.2,N _ this.2.1.1 this.2.1.2];rfl
  show F00 (B4 t) (S5 (B4 t))=B4 t
  unfold F00
  rw[D,Int.toNat_natCast,aG,m0l (q06 Z),aC]
  rw[←D]
 unfold u00
 rw[I,aA,ap]
 simp[M0n]
theorem S0h{g:j0}(hf:K0 g=true):u00 (T01 g)=true:=by
 have a:=T5 hf
 have:=(i4 a).2.2.1
 exact Q0m (h03 40 hf) (e07 40 a (by omega))
theorem n0l{r:Int}{w:List Int}(h:L3 r w=true):∀ k,k<=w.length->t7 [] (w.take k)=(w.take k).reverse
 |0,_=>rfl
 |k+1,i=>by
  have g:=n0l h k (by omega)
  have b:=w5 (show k<w.length by omega)
  generalize w[k]=x at b
  have f:w.take (k+1)=w.take k ++ [x]:=E0q b
  rw[f,b00,g,List.reverse_append]
  show C4 (w.take k).reverse x=x::(w.take k).reverse
  cases k with
  |zero=>rfl
  |succ j =>
   have c:=w5 (show j<w.length by omega)
   generalize w[j]=y at c
   rw[E0q c,List.reverse_append]
   show C4 (y::(w.take j).reverse) x=_
   have d:=h
   simp only[L3,Bool.and_eq_true,decide_eq_true_eq]at d
   have a:=q0c d.2 (j+1) (Nat.zero_le _) (by omega)
   unfold w05 at a
   rw[b]at a
   simp only[Nat.add_sub_cancel,c,Bool.or_eq_false_iff,show decide (0<j+1)=true by simp,Bool.true_and]at a
   have e:h02 y x=false:=by unfold h02 ng;rw[a.2,Bool.and_false]
   simp only[C4,e,cond_false]
   rfl
theorem o0l{r:Int}{w:List Int}(h:L3 r w=true):(t7 [] w).reverse=w:=by
 have:=n0l h w.length (Nat.le_refl _)
 rw[List.take_length]at this
 rw[this,List.reverse_reverse]
def v05(g:j0)(w:List Int):Bool:=decide ((N00 g 0 w).2=w.length)&&decide ((N00 g 0 w).1=0)
theorem A0d{g:j0}(h:u00 g=true):K0 g=true:=by
 unfold u00 at h
 simp only[Bool.and_eq_true]at h
 exact h.1
theorem d0g{r:Int}{g:j0}{w:List Int}(i:u00 g=true)(j:L3 r w=true):l00 g w=some (v05 g w):=by
 have hf:=A0d i
 obtain⟨o,s,p,t⟩:=D2 hf
 obtain⟨u,k⟩:=O08 j
 have f:=B8 w (λx e=>(k x e).1.1) (by omega)
 rw[o0l j]at f
 have l:=F0q g hf 0 ⟨iR _,by omega⟩ w (λx e=>(k x e).1) (by omega)
 have m:=m0j g (by omega)
 have h:s00 g=some true:=by
  obtain⟨a,b,c⟩:=g
  unfold s00
  simp only[m,i,oB]
 have n:=x0f o p.2 w 0 ⟨by omega,by omega⟩
 have q:=w0f g w 0
 unfold v05
 obtain⟨a,b,c⟩:=g
 unfold l00
 simp only[f,oB,l]
 by_cases d:(N00 (a,b,c) 0 w).2<w.length
 ·simp only[decide_eq_true d,cond_true]
  rw[S0 (show H0 (-1) from⟨by omega,by omega⟩),oB,h]
  have:decide ((N00 (a,b,c) 0 w).2=w.length)=false:=decide_eq_false (by omega)
  rw[this];rfl
 ·simp only[decide_eq_false d,cond_false]
  rw[S0 n,oB,h]
  have:decide ((N00 (a,b,c) 0 w).2=w.length)=true:=decide_eq_true (by omega)
  rw[this]
  simp only[oB,cond_true,Bool.true_and]
def c6(p:l0)(w:List Int):Bool×Bool:=bif(M6 p []).2&&L3 p.1 w then(v05 (M6 p []).1 w,true)else(false,false)
theorem o0p{p:l0}{b:List (List Int)}(h:(M6 p b).2=true):u00 (M6 p b).1=true:=by
 rcases O0m p b with a|⟨g,hf,a⟩
 ·rw[a]at h;cases h
 ·rw[a];exact S0h hf
theorem M05(p:l0)(w:List Int)(i:p.2.length<=140737488355328)(j:Y2 p.2)(e:w.length<=140737488355328):A7 p w=some (c6 p w):=by
 have h:=N0m p [] i j (by simp) (λw e=>by cases e)
 have f:=g03 p.1 w e
 have d:(M6 p []).2=true->L3 p.1 w=true->l00 (M6 p []).1 w=some (v05 (M6 p []).1 w):=λa b=>d0g (o0p a) b
 unfold c6
 obtain⟨g,l⟩:=p
 unfold A7
 simp only[h,oB]
 revert d
 generalize M6 (g,l) []=q
 intro d
 obtain⟨⟨a,b,c⟩,k⟩:=q
 simp only at f d ⊢
 cases k with
 |false=>rfl
 |true =>
  simp only[Bool.not_true,Bool.not_false,I2,f,oB,cond_false,Bool.true_and]
  cases hb:L3 g w with
  |false=>rfl
  |true =>
   rw[if_neg (by simp),d rfl hb];rfl
def rdw(g:j0):Int->List Int->Option Int
 |v,[]=>some v
 |v,x::w=>if Y0 g v x<0 then none else rdw g (Y0 g v x) w
theorem F0c(g:j0):∀(w:List Int) (v u:Int),rdw g v w=some u↔((N00 g v w).2=w.length/\(N00 g v w).1=u)
 | [],v,u=>by simp[rdw,N00]
 |x::w,v,u=>by
  have a:=F0c g w (Y0 g v x) u
  unfold rdw N00
  by_cases c:Y0 g v x<0
  ·rw[if_pos c,if_pos c];simp
  ·rw[if_neg c,if_neg c,a];simp
theorem Q08(g:j0)(w:List Int):v05 g w=true↔rdw g 0 w=some 0:=by
 unfold v05
 rw[F0c];simp
theorem c01(g:j0):∀(a b:List Int) (v:Int),rdw g v (a++b)=(rdw g v a).bind λu=>rdw g u b
 | [],b,v=>rfl
 |x::a,b,v=>by
  have d:=c01 g a b (Y0 g v x)
  show(if Y0 g v x<0 then none else rdw g (Y0 g v x) (a++b))=(if Y0 g v x<0 then none else rdw g (Y0 g v x) a).bind λu=>rdw g u b
  by_cases c:Y0 g v x<0
  ·rw[if_pos c,if_pos c];rfl
  ·rw[if_neg c,if_neg c];exact d
theorem G0c{g:j0}(hf:K0 g=true){v x u:Int}(h:Y0 g v x=u)(h0:0<=u):Y0 g u (-x)=v:=by
 rcases b01 g v x with⟨e,_⟩|e
 ·omega
 ·rw[h]at e
  obtain⟨d,i,f⟩:=M3.1 e
  refine G03 hf (M3.2 ⟨d,i,?_⟩)
  rcases f with⟨a,b,c,rfl⟩|⟨a,b,c,rfl⟩
  ·exact .inr ⟨by omega,by omega,rfl,c.symm⟩
  ·exact .inl ⟨by omega,b,rfl,c.symm⟩
theorem c0r{g:j0}(hf:K0 g=true){v u b x:Int}{d:List Int}(j:H0 x)(i:P3 d)(h:rdw g v d.reverse=some u)(a:Y0 g u x=b)(h0:0<=b):rdw g v (C4 d x).reverse=some b:=by
 have one:∀ u:Int,Y0 g u x=b->rdw g u [x]=some b:=λu a=>by
  unfold rdw
  rw[if_neg (by omega),a];rfl
 cases d with
 |nil =>
  simp only[List.reverse_nil,rdw,Option.some.injEq]at h
  subst h
  exact one v a
 |cons l t =>
  simp only[C4]
  cases hc:h02 l x with
  |false =>
   simp only[cond_false]
   rw[List.reverse_cons,c01,h]
   exact one u a
  |true =>
   simp only[cond_true]
   rw[List.reverse_cons,c01]at h
   cases ht:rdw g v t.reverse with
   |none=>rw[ht]at h;cases h
   |some z =>
    rw[ht]at h
    simp only[oB]at h
    unfold rdw at h
    by_cases c:Y0 g z l<0
    ·rw[if_pos c]at h;cases h
    ·rw[if_neg c]at h
     simp only[rdw,Option.some.injEq]at h
     have e:=G0c hf h (by omega)
     unfold h02 at hc
     simp only[Bool.and_eq_true,Bool.not_eq_true',beq_eq_false_iff_ne,beq_iff_eq]at hc
     have f:=i l mS
     have:x = -l:=by rw[hc.2];unfold ng;exact o0f f hc.1.2
     rw[this,e]at a
     rw[a]
theorem p0l{g:j0}(hf:K0 g=true){v:Int}:∀(w b:List Int) (u d:Int),P3 w->P3 b->rdw g v b.reverse=some u->rdw g u w=some d->rdw g v (t7 b w).reverse=some d
 | [],b,u,d,h,f,e,a=>by
  simp only[rdw,Option.some.injEq]at a
  subst a
  exact e
 |x::w,b,u,d,h,f,e,a=>by
  unfold rdw at a
  by_cases c:Y0 g u x<0
  ·rw[if_pos c]at a;cases a
  ·rw[if_neg c]at a
   have i:=h x mS
   exact p0l hf w (C4 b x) _ d (λy j=>h y (mC _ j)) (b0g f i) (c0r hf i f e rfl (by omega)) a
theorem r0j{g:j0}(hf:K0 g=true){v u:Int}{w:List Int}(a:P3 w)(h:rdw g v w=some u):rdw g v (t7 [] w).reverse=some u :=
 p0l hf w [] v u a (λx b=>by cases b) rfl h
structure Mor (a b:j0) (f:Int->Int):Prop where
 base:f 0=0
 rng:∀ v,0<=v->v<a.2.1->0<=f v/\f v<b.2.1
 step:∀ v x,0<=v->v<a.2.1->0<=Y0 a v x->Y0 b (f v) x=f (Y0 a v x)
theorem Mor.rdw{a b:j0}{f:Int->Int}(m:Mor a b f)(i:inG a):∀(w:List Int) (v u:Int),0<=v->v<a.2.1->rdw a v w=some u->rdw b (f v) w=some (f u)
 | [],v,u,h0,g,h=>by
  simp only[Go.Proofs.YtfphndijjmdiiaaGreat.rdw,Option.some.injEq]at h ⊢
  rw[h]
 |x::w,v,u,h0,g,h=>by
  unfold Go.Proofs.YtfphndijjmdiiaaGreat.rdw at h ⊢
  by_cases c:Y0 a v x<0
  ·rw[if_pos c]at h;cases h
  ·rw[if_neg c]at h
   have j:=m.step v x h0 g (by omega)
   have d:0<=Y0 a v x/\Y0 a v x<a.2.1:=by
    rcases L08 i v x with e|e
    ·omega
    ·exact e
   have k:=m.rng _ d.1 d.2
   rw[j,if_neg (by omega)]
   exact Mor.rdw m i w _ u d.1 d.2 h
theorem Mor.loop{a b:j0}{f:Int->Int}(m:Mor a b f)(c:K0 a=true){w:List Int}(h:v05 a w=true):v05 b w=true:=by
 obtain⟨d,e,g,i⟩:=D2 c
 rw[Q08]at h ⊢
 have:=m.rdw d w 0 0 (iR _) (by omega) h
 rwa [m.base]at this
abbrev Im:=List Int×List Int
def p0p(a b:Im):Prop:=(∃ t,b.2=a.2++t)/\∀ v∈a.2,getI b.1 v=getI a.1 v
theorem p0p.refl(s:Im):p0p s s:=⟨⟨[],by simp⟩,λ_ _=>rfl⟩
theorem p0p.trans{b c d:Im}(h:p0p b c)(h':p0p c d):p0p b d:=by
 obtain⟨⟨t,e⟩,f⟩:=h
 obtain⟨⟨j,g⟩,i⟩:=h'
 exact⟨⟨t++j,by rw[g,e,List.append_assoc]⟩,λv a=>(i v (by rw[e];exact List.mem_append_left _ a)).trans (f v a)⟩
theorem q0l{g:j0}(i:inG g)(m:1<=g.1){v x:Int}(h:0<=Y0 g v x):x∈U9 g.1.toNat 1:=by
 rcases b01 g v x with⟨e,_⟩|e
 ·omega
 ·obtain⟨d,f,c⟩:=M3.1 e
  have l:=i d f
  rcases c with⟨a,b,_⟩|⟨a,b,_⟩
  ·obtain⟨j,_⟩:=c05 g.1.toNat 1 x.toNat (by omega) (by omega)
   rwa [show((x.toNat:Nat):Int)=x by omega]at j
  ·obtain⟨_,k⟩:=c05 g.1.toNat 1 (-x).toNat (by omega) (by omega)
   rwa [show -(((-x).toNat:Nat):Int)=x by omega]at k
abbrev Tr8:=List (Option (List Int))×List Int
def trS(g:j0)(v x:Int)(s:Tr8):Tr8:=if 0<=Y0 g v x/\Y0 g v x ∉ s.2 then(s.1.set (Y0 g v x).toNat (some ((Z02 s.1 v).getD [] ++ [x])),s.2 ++ [Y0 g v x])else s
def d0r(g:j0)(v:Int):List Int->Tr8->Tr8
 | [],s=>s
 |x::r,s=>d0r g v r (trS g v x s)
def U0h(g:j0)(b:List Int):Nat->Nat->Tr8->Tr8
 |0,i,a=>a
 |f+1,i,a=>match a.2[i]? with
  |some v=>U0h g b f (i+1) (d0r g v b a)
  |none=>a
def M9(g:j0)(p:Int):List Int:=V9 g (U9 g.1.toNat 1) (g.2.1.toNat+1) 0 [p]
def e0r(g:j0)(p:Int):Tr8:=U0h g (U9 g.1.toNat 1) (g.2.1.toNat+1) 0 ((List.replicate g.2.1.toNat none).set p.toNat (some []),[p])
theorem Y0n(g:j0)(v x:Int)(s:Tr8):(trS g v x s).2=W09 s.2 (Y0 g v x):=by
 unfold trS W09
 split<;>rfl
theorem s0l(g:j0)(v:Int):∀(b:List Int) (a:Tr8),(d0r g v b a).2=s03 g v b a.2
 | [],a=>rfl
 |x::r,a=>by rw[d0r,s0l g v r,Y0n];rfl
theorem V0h(g:j0)(b:List Int):∀(f i:Nat) (a:Tr8),(U0h g b f i a).2=V9 g b f i a.2
 |0,i,a=>rfl
 |f+1,i,a=>by
  unfold U0h V9
  cases a.2[i]? with
  |none=>rfl
  |some v=>simp only[V0h g b f,s0l]
theorem f0r(g:j0)(p:Int):(e0r g p).2=M9 g p:=V0h _ _ _ _ _
structure TOk (g:j0) (p:Int) (n:Nat) (s:Tr8):Prop where
 ok:WOk n s.1 s.2
 gd:gud n s.2
 base:p∈s.2
 word:Z02 s.1 p=some []
 par:∀ y∈s.2,y≠p->∃ v∈s.2,∃ x,x∈U9 g.1.toNat 1/\Y0 g v x=y/\∃ a,Z02 s.1 v=some a/\Z02 s.1 y=some (a ++ [x])
 red:∀ y∈s.2,∀ a,Z02 s.1 y=some a->Red a.reverse=true
theorem WOk.add{n:Nat}{b:List (Option (List Int))}{u:List Int}(a:WOk n b u){y:Int}(d:0<=y)(h:y<(n:Int))(v x:Int):WOk n (b.set y.toNat (some ((Z02 b v).getD [] ++ [x]))) (u ++ [y]):=by
 have e:=a.short v
 refine⟨by simp[a.len],λz h0 f=>?_,λz=>?_⟩
 ·rw[o06 d (by have:=a.len;omega) h0]
  by_cases c:z=y
  ·rw[if_pos c];simp[c]
  ·rw[if_neg c,a.iff z h0 f];simp[c]
 ·by_cases hz:0<=z
  ·rw[o06 d (by have:=a.len;omega) hz]
   by_cases c:z=y
   ·rw[if_pos c];simp;exact e
   ·rw[if_neg c];have:=a.short z;simp only[List.length_append];omega
  ·have g:Z02 (b.set y.toNat (some ((Z02 b v).getD [] ++ [x]))) z=Z02 (b.set y.toNat (some ((Z02 b v).getD [] ++ [x]))) 0:=by
    unfold Z02;rw[show z.toNat=(0:Int).toNat by omega]
   rw[g,o06 d (by have:=a.len;omega) (iR 0)]
   by_cases c:(0:Int)=y
   ·rw[if_pos c];simp;exact e
   ·rw[if_neg c];have:=a.short 0;simp only[List.length_append];omega
theorem WOk.get{n:Nat}{b:List (Option (List Int))}{u:List Int}(f:WOk n b u){v:Int}(h0:0<=v)(c:v<(n:Int))(d:v∈u):∃ a,Z02 b v=some a:=by
 cases e:Z02 b v with
 |none=>exact absurd d ((f.iff v h0 c).1 (by rw[e];rfl))
 |some a=>exact⟨a,rfl⟩
theorem q0p{R:Nat}(b:R<=900){x:Int}(a:x∈U9 R 1):l8 x/\x≠0 /\ -(R:Int)<=x/\x<=(R:Int):=by
 obtain⟨j,c,d,e⟩:=r06 _ _ _ a
 exact⟨⟨⟨by omega,by omega⟩,by omega⟩,by omega,by omega,by omega⟩
theorem g0r{l x:Int}(a:l8 l)(h:h02 l x=true):x = -l:=by
 unfold h02 at h
 simp only[Bool.and_eq_true,beq_iff_eq]at h
 rw[h.2];exact o0f a.1 a.2
theorem TOk.add{g:j0}(hf:K0 g=true){p:Int}{n:Nat}(S:g.2.1=(n:Int)){C:Tr8}(h:TOk g p n C){v x:Int}(j:v∈C.2)(N:x∈U9 g.1.toNat 1):TOk g p n (trS g v x C):=by
 obtain⟨Q,T,U,V⟩:=D2 hf
 unfold trS
 split
 ·rename_i c
  obtain⟨o,s⟩:=c
  have P:Y0 g v x<(n:Int):=by
   rcases L08 Q v x with e|e<;>omega
  obtain⟨m,u⟩:=C
  obtain⟨B,q,base,I,G,red⟩:=h
  simp only at j o s B q base I G red ⊢
  have E:=q.2 v j
  obtain⟨a,i⟩:=B.get E.1 E.2 j
  have R:=B.len
  have keep:∀ z∈u,Z02 (m.set (Y0 g v x).toNat (some ((Z02 m v).getD [] ++ [x]))) z=Z02 m z:=λz K=>by
   have:=q.2 z K
   rw[o06 o (by omega) this.1,if_neg λ(e:z=Y0 g v x)=>s (by rw[←e];exact K)]
  have new:Z02 (m.set (Y0 g v x).toNat (some ((Z02 m v).getD [] ++ [x]))) (Y0 g v x)=some (a ++ [x]):=by
   rw[o06 o (by omega) o,if_pos rfl,i];rfl
  refine⟨B.add o P v x,⟨List.nodup_append.2 ⟨q.1,by simp,λa i b f=>?_⟩,λy d=>?_⟩,List.mem_append_left _ base,?_,λy d O=>?_,λy d b f=>?_⟩
  ·simp at f;subst f;exact λe=>s (e▸i)
  ·rcases List.mem_append.1 d with d|d
   ·exact q.2 y d
   ·simp at d;subst d;omega
  ·rw[keep p base];exact I
  ·rcases List.mem_append.1 d with d|d
   ·obtain⟨H,A,L,F,D,b,w,k⟩:=G y d O
    exact⟨H,List.mem_append_left _ A,L,F,D,b,by rw[keep H A];exact w,by rw[keep y d];exact k⟩
   ·simp at d;subst d
    exact⟨v,List.mem_append_left _ j,x,N,rfl,a,by rw[keep v j];exact i,new⟩
  ·rcases List.mem_append.1 d with d|d
   ·rw[keep y d]at f;exact red y d b f
   ·simp at d;subst d
    rw[new]at f;cases f
    have J:=red v j a i
    rw[List.reverse_append]
    show Red (x::a.reverse)=true
    cases e:a.reverse with
    |nil=>rfl
    |cons l t =>
     rw[e]at J
     unfold Red
     rw[J,Bool.and_true]
     cases hc:h02 l x with
     |false=>rfl
     |true =>
      exfalso
      have M:v≠p:=λw=>by
       subst w
       rw[I]at i;cases i;simp at e
      obtain⟨H,A,L,F,D,b,w,k⟩:=G v j M
      rw[i]at k
      injection k with k
      rw[k,List.reverse_append]at e
      simp only[List.reverse_cons,List.reverse_nil,List.nil_append,List.cons_append,List.cons.injEq]at e
      rw[←e.1]at hc
      have:=g0r (q0p (by omega) F).1 hc
      have f:=G0c hf D E.1
      rw[←this]at f
      exact s (f▸A)
 ·exact h
theorem H0s(g:j0)(v x:Int)(s:Tr8):∃ t,(trS g v x s).2=s.2++t:=by rw[Y0n];exact I0f _ _
theorem TOk.inn{g:j0}(hf:K0 g=true){p:Int}{n:Nat}(d:g.2.1=(n:Int)){v:Int}:∀(f:List Int) {a:Tr8},TOk g p n a->v∈a.2->(∀ x∈f,x∈U9 g.1.toNat 1)->TOk g p n (d0r g v f a)
 | [],a,h,c,b=>h
 |x::r,a,h,c,b=>by
  obtain⟨t,e⟩:=H0s g v x a
  exact TOk.inn hf d r (h.add hf d c (b x mS)) (by rw[e];exact List.mem_append_left _ c) λy i=>b y (mC _ i)
theorem TOk.out{g:j0}(hf:K0 g=true){p:Int}{n:Nat}(b:g.2.1=(n:Int)):∀(f i:Nat) {a:Tr8},TOk g p n a->TOk g p n (U0h g (U9 g.1.toNat 1) f i a)
 |0,i,a,h=>h
 |f+1,i,a,h=>by
  unfold U0h
  cases e:a.2[i]? with
  |none=>exact h
  |some v=>exact TOk.out hf b f (i+1) (h.inn hf b _ (List.mem_of_getElem? e) λx c=>c)
theorem h0r(N:Nat)(x:Int):Z02 (List.replicate N (none:Option (List Int))) x=none:=by
 unfold Z02
 rw[List.getD_eq_getElem?_getD,List.getElem?_replicate];split<;>rfl
theorem r0p(g:j0){p:Int}{b:Nat}(f:0<=p/\p<(b:Int)):TOk g p b ((List.replicate b none).set p.toNat (some []),[p]):=by
 have i:∀ x,0<=x->Z02 ((List.replicate b (none:Option (List Int))).set p.toNat (some [])) x=if x=p then some []else none:=λx h0=>by
  rw[o06 f.1 (by simp;omega) h0,h0r]
 refine⟨⟨by simp,λx h0 l=>?_,λx=>?_⟩,⟨by simp,λx k=>by simp at k;subst k;exact f⟩,by simp,?_,λy d h=>?_,λy d a j=>?_⟩
 ·simp only
  rw[i x h0]
  by_cases c:x=p
  ·rw[if_pos c];simp[c]
  ·rw[if_neg c];simp[c]
 ·have:∀ x,0<=x->((Z02 ((List.replicate b (none:Option (List Int))).set p.toNat (some [])) x).getD []).length<=1:=λx h0=>by
   rw[i x h0];split<;>simp
  by_cases hz:0<=x
  ·exact this x hz
  ·have e:Z02 ((List.replicate b (none:Option (List Int))).set p.toNat (some [])) x=Z02 ((List.replicate b (none:Option (List Int))).set p.toNat (some [])) 0:=by
    unfold Z02;rw[show x.toNat=(0:Int).toNat by omega]
   simp only
   rw[e];exact this 0 (iR 0)
 ·simp only
  rw[i p f.1,if_pos rfl]
 ·simp at d;exact absurd d h
 ·simp at d;subst d
  simp only at j
  rw[i y f.1,if_pos rfl]at j
  cases j;rfl
theorem I0s{g:j0}(hf:K0 g=true){p:Int}(a:0<=p/\p<g.2.1):TOk g p g.2.1.toNat (e0r g p):=by
 obtain⟨b,c,d,e⟩:=D2 hf
 exact TOk.out hf (by omega) _ _ (r0p g ⟨a.1,by omega⟩)
structure s0j (g:j0) (p:Int) (t:Int->List Int):Prop where
 z:t p = []
 par:∀ y∈M9 g p,y≠p->∃ v∈M9 g p,∃ x,x∈U9 g.1.toNat 1/\Y0 g v x=y/\t y=t v ++ [x]
 red:∀ y∈M9 g p,Red (t y).reverse=true
 len:∀ y,(t y).length<=40
theorem t0l{g:j0}(hf:K0 g=true){p:Int}(a:0<=p/\p<g.2.1):gud g.2.1.toNat (M9 g p):=by
 rw[←f0r];exact(I0s hf a).gd
theorem s0j.ind{g:j0}{p:Int}{t:Int->List Int}(h:s0j g p t)(P:Int->Prop)(h0:P p)(d:∀ v∈M9 g p,∀ y∈M9 g p,∀ x,x∈U9 g.1.toNat 1->Y0 g v x=y->t y=t v ++ [x]->P v->P y):∀(k:Nat) (y:Int),(t y).length<=k->y∈M9 g p->P y
 |k,y,a,f=>by
  by_cases c:y=p
  ·rw[c];exact h0
  ·obtain⟨v,e,x,j,i,b⟩:=h.par y f c
   cases k with
   |zero=>rw[b]at a;simp at a
   |succ k=>exact d v e y f x j i b (s0j.ind h P h0 d k v (by rw[b]at a;simp at a;omega) e)
theorem s0j.induct{g:j0}{p:Int}{t:Int->List Int}(h:s0j g p t){P:Int->Prop}(h0:P p)(a:∀ v∈M9 g p,∀ y∈M9 g p,∀ x,x∈U9 g.1.toNat 1->Y0 g v x=y->t y=t v ++ [x]->P v->P y){y:Int}(b:y∈M9 g p):P y:=h.ind P h0 a _ y (Nat.le_refl _) b
theorem Z0n{g:j0}{v x y:Int}(h:Y0 g v x=y)(h0:0<=y):rdw g v [x]=some y:=by
 unfold rdw
 rw[if_neg (by omega),h];rfl
theorem s0j.rd{g:j0}(hf:K0 g=true){p:Int}(d:0<=p/\p<g.2.1){t:Int->List Int}(h:s0j g p t){y:Int}(a:y∈M9 g p):rdw g p (t y)=some y:=by
 refine h.induct (P:=λy=>rdw g p (t y)=some y) ?_ (λv f y a x i b c e=>?_) a
 ·rw[h.z];rfl
 ·rw[c,c01,e,oB]
  exact Z0n b ((t0l hf d).2 y a).1
theorem s0j.let{g:j0}{p:Int}{t:Int->List Int}(h:s0j g p t){y:Int}(c:y∈M9 g p):∀ x∈t y,x∈U9 g.1.toNat 1:=by
 refine h.induct (P:=λy=>∀ x∈t y,x∈U9 g.1.toNat 1) ?_ (λv i y c x b f d e=>?_) c
 ·rw[h.z];exact λx b=>by cases b
 ·rw[d]
  intro z a
  rcases List.mem_append.1 a with a|a
  ·exact e z a
  ·simp at a;rw[a];exact b
theorem o0e:∀(d t:List Int),Red (d++t)=true↔Red d=true/\Red t=true/\∀ a b,d.getLast?=some a->t.head?=some b->h02 b a=false
 | [],t=>by simp[Red]
 | [a],[]=>by simp[Red]
 | [a],b::t=>by
  show(!h02 b a&&Red (b::t))=true↔_
  simp only[Bool.and_eq_true,Bool.not_eq_true']
  constructor
  ·rintro⟨e,c⟩
   refine⟨rfl,c,λk l h i=>?_⟩
   simp at h i;subst h;subst i;exact e
  ·rintro⟨_,c,f⟩
   exact⟨f a b rfl rfl,c⟩
 |x::y::d,t=>by
  have j:=o0e (y::d) t
  show(!h02 y x&&Red (y::d++t))=true↔(!h02 y x&&Red (y::d))=true/\_
  rw[Bool.and_eq_true,j,Bool.and_eq_true,List.getLast?_cons_cons]
  constructor
  ·rintro⟨e,c,f,g⟩;exact⟨⟨e,c⟩,f,g⟩
  ·rintro⟨⟨e,c⟩,f,g⟩;exact⟨e,c,f,g⟩
theorem d04{x:Int}(h:l8 x):ng x = -x:=o0f h.1 h.2
theorem g07{x:Int}(h:l8 x):l8 (-x):=⟨⟨by have:=h.1.2;have:=h.2;omega,by have:=h.1.1;have:=h.2;omega⟩,by have:=h.1.2;omega⟩
theorem k03{l x:Int}(a:l8 l)(h0:l≠0):h02 l x=true↔x = -l:=by
 unfold h02
 rw[d04 a]
 simp only[Bool.and_eq_true,Bool.not_eq_true',beq_eq_false_iff_ne,beq_iff_eq,ne_eq]
 constructor
 ·exact λh=>h.2
 ·exact λh=>⟨⟨h0,a.2⟩,h⟩
theorem t0j{w:List Int}(a:∀ x∈w,l8 x):inv (inv w)=w:=by
 unfold inv
 rw[List.map_reverse,List.reverse_reverse,List.map_map]
 refine(List.map_congr_left λx b=>?_).trans (List.map_id w)
 have h:=a x b
 show ng (ng x)=x
 rw[d04 h,d04 (g07 h)];omega
theorem u0l(x:Int)(w:List Int):inv (x::w)=inv w ++ [ng x]:=by simp[inv]
theorem I0c{s:List Int}{x y:Int}(h:y∈C4 s x):y∈s∨y=x:=by
 cases s with
 |nil=>simp[C4]at h;exact .inr h
 |cons l t =>
  simp only[C4]at h
  cases c:h02 l x with
  |true=>rw[c]at h;exact .inl (mC _ h)
  |false =>
   rw[c]at h
   rcases List.mem_cons.1 h with h|h
   ·exact .inr h
   ·exact .inl h
theorem v0l:∀(w s:List Int) {y:Int},y∈t7 s w->y∈s∨y∈w
 | [],s,y,h => .inl h
 |x::w,s,y,h=>by
  rcases v0l w (C4 s x) h with h|h
  ·rcases I0c h with h|rfl
   ·exact .inl h
   ·exact .inr mS
  ·exact .inr (mC _ h)
theorem l0b{g:j0}(hf:K0 g=true):∀(w:List Int) (v u:Int),(∀ x∈w,l8 x)->0<=v->rdw g v w=some u->rdw g u (inv w)=some v
 | [],v,u,a,b,h=>by simp only[rdw,Option.some.injEq]at h;rw[←h];rfl
 |x::w,v,u,a,b,h=>by
  unfold rdw at h
  by_cases c:Y0 g v x<0
  ·rw[if_pos c]at h;cases h
  ·rw[if_neg c]at h
   have e:=l0b hf w _ u (λy d=>a y (mC _ d)) (by omega) h
   rw[u0l,c01,e,oB,d04 (a x mS)]
   exact Z0n (G0c hf rfl (by omega)) b
theorem T02{g:j0}(hf:K0 g=true){e:Q0}(a:e∈g.2.2):Y0 g e.1 e.2.1=e.2.2/\Y0 g e.2.2 (-e.2.1)=e.1:=by
 have b:=(D2 hf).1 e a
 exact⟨G03 hf (M3.2 ⟨e,a,.inl ⟨by omega,rfl,rfl,rfl⟩⟩),G03 hf (M3.2 ⟨e,a,.inr ⟨by omega,by omega,rfl,rfl⟩⟩)⟩
theorem U02{g:j0}{v x:Int}(h0:0<=Y0 g v x):x≠0/\∃ e∈g.2.2,e=stp v x (Y0 g v x)/\((0<x/\e.2.1=x/\e.1=v/\e.2.2=Y0 g v x)∨(x<0/\e.2.1 = -x/\e.2.2=v/\e.1=Y0 g v x)):=by
 rcases b01 g v x with⟨e,_⟩|e
 ·omega
 ·obtain⟨d,i,h⟩:=M3.1 e
  obtain⟨d0,j,k⟩:=d
  simp only at h
  rcases h with⟨a,b,c,f⟩|⟨a,b,c,f⟩
  ·refine⟨by omega,_,i,?_,.inl ⟨a,b,c,f.symm⟩⟩
   unfold stp
   rw[if_neg (by omega),←b,←c,b,c,←f]
  ·refine⟨by omega,_,i,?_,.inr ⟨a,b,c,f.symm⟩⟩
   unfold stp
   rw[if_pos a,←f,b,c]
def Lw(w:List Int):Prop:=∀ x∈w,l8 x/\x≠0
theorem Lw.app{a b:List Int}(h:Lw a)(k:Lw b):Lw (a++b):=λx c=>(List.mem_append.1 c).elim (h x) (k x)
theorem Lw.nil:Lw []:=λx a=>by cases a
theorem Lw.one{x:Int}(h:l8 x)(h0:x≠0):Lw [x]:=λy a=>by rw[List.mem_singleton.1 a];exact⟨h,h0⟩
theorem Lw.nm{a:List Int}(h:Lw a):∀ x∈a,l8 x:=λx b=>(h x b).1
theorem Lw.inv{a:List Int}(h:Lw a):Lw (inv a):=λx b=>by
 unfold Go.Proofs.YtfphndijjmdiiaaGreat.inv at b
 obtain⟨y,c,rfl⟩:=List.mem_map.1 (List.mem_reverse.1 b)
 have:=h y c
 rw[d04 this.1]
 exact⟨g07 this.1,by omega⟩
theorem Lw.red{a w:List Int}(b:Lw a)(c:Lw w):Lw (t7 a w):=λx d=>(v0l w a d).elim (b x) (c x)
structure Eqv (a b:List Int):Prop where
 l:Lw a
 r:Lw b
 e:∀ s,Red s=true->Lw s->t7 s a=t7 s b
theorem Eqv.refl{a:List Int}(h:Lw a):Eqv a a:=⟨h,h,λ_ _ _=>rfl⟩
theorem Eqv.symm{a b:List Int}(h:Eqv a b):Eqv b a:=⟨h.r,h.l,λd c k=>(h.e d c k).symm⟩
theorem Eqv.trans{a b c:List Int}(h:Eqv a b)(k:Eqv b c):Eqv a c:=⟨h.l,k.r,λf d n=>(h.e f d n).trans (k.e f d n)⟩
theorem Eqv.app{a b c d:List Int}(h:Eqv a b)(k:Eqv c d):Eqv (a++c) (b++d) :=
 ⟨h.l.app k.l,h.r.app k.r,λg f n=>by rw[b00,b00,h.e g f n,k.e _ (W03 _ _ f) (n.red h.r)]⟩
theorem W0h{a:List Int}(i:Red a=true)(l:Lw a){x:Int}(j:l8 x)(h0:x≠0):C4 (C4 a x) (ng x)=a:=by
 have e:=d04 j
 have g:h02 x (ng x)=true:=(k03 j h0).2 e
 cases a with
 |nil =>
  show C4 [x] (ng x) = []
  unfold C4
  simp only[g,cond_true,if_true]
 |cons m t =>
  have b:=l m mS
  by_cases c:x = -m
  ·have d:h02 m x=true:=(k03 b.1 b.2).2 c
   have f:C4 (m::t) x=t:=by
    unfold C4
    simp only[d,cond_true,if_true]
   rw[f,e,c,show -(-m)=m by omega]
   cases t with
   |nil=>rfl
   |cons k r =>
    simp only[Red,Bool.and_eq_true,Bool.not_eq_true']at i
    unfold C4
    simp only[i.1,cond_false,Bool.false_eq_true,if_false]
  ·have d:h02 m x=false:=Bool.eq_false_iff.2 λh=>c ((k03 b.1 b.2).1 h)
   have f:C4 (m::t) x=x::m::t:=by
    unfold C4
    simp only[d,cond_false,Bool.false_eq_true,if_false]
   rw[f]
   unfold C4
   simp only[g,cond_true,if_true]
theorem J0s{x:Int}(a:l8 x)(h0:x≠0):Eqv ([x] ++ [ng x]) [] :=
 ⟨(Lw.one a h0).app (by rw[d04 a];exact Lw.one (g07 a) (by omega)),Lw.nil,λd c b=>W0h c b a h0⟩
theorem m0b:∀ {a:List Int},Lw a->Eqv (a++inv a) []
 | [],h=>Eqv.refl Lw.nil
 |x::a,h=>by
  have b:=h x mS
  have d:Lw a:=λy f=>h y (mC _ f)
  have g:=m0b d
  have c:=((Eqv.refl (Lw.one b.1 b.2)).app (g.app (Eqv.refl (Lw.one (x:=ng x) (by rw[d04 b.1];exact g07 b.1) (by rw[d04 b.1];omega)))))
  rw[u0l]
  have e:x::a++(inv a ++ [ng x]) = [x]++(a++inv a ++ [ng x]):=by simp
  rw[e]
  exact c.trans (J0s b.1 b.2)
theorem n0b{a:List Int}(h:Lw a):Eqv (inv a++a) []:=by
 have:=m0b h.inv
 rwa [t0j h.nm]at this
theorem Lw.flat{φ:Int->List Int}:∀ {l:List Int},(∀ x∈l,Lw (φ x))->Lw (l.flatMap φ)
 |l,h=>λy a=>by
  obtain⟨x,b,a⟩:=List.mem_flatMap.1 a
  exact h x b y a
theorem w0l{φ:Int->List Int}(i:∀ x,l8 x->x≠0->Lw (φ x)/\φ (ng x)=inv (φ x)):∀(l a:List Int),Lw a->Lw l->Eqv ((t7 a l).reverse.flatMap φ) (a.reverse.flatMap φ++l.flatMap φ)
 | [],a,g,_=>by
  show Eqv (a.reverse.flatMap φ) (a.reverse.flatMap φ ++ [])
  rw[List.append_nil]
  exact Eqv.refl (Lw.flat λx f=>(i x (g x (List.mem_reverse.1 f)).1 (g x (List.mem_reverse.1 f)).2).1)
 |x::l,a,g,p=>by
  have f:=p x mS
  have q:Lw l:=λy b=>p y (mC _ b)
  have u:Lw (C4 a x):=λy b=>(I0c b).elim (g y) (λe=>by rw[e];exact f)
  have z:=w0l i l (C4 a x) u q
  have hf:∀ {w:List Int},Lw w->Lw (w.flatMap φ):=λ{w} h=>Lw.flat λy b=>(i y (h y b).1 (h y b).2).1
  have s:∀ {w:List Int},Lw w->Lw w.reverse:=λ{w} h y b=>h y (List.mem_reverse.1 b)
  have A:Eqv ((C4 a x).reverse.flatMap φ) (a.reverse.flatMap φ++φ x):=by
   cases a with
   |nil =>
    show Eqv ([x].flatMap φ) (φ x)
    simp only[List.flatMap_cons,List.flatMap_nil,List.append_nil]
    exact Eqv.refl (i x f.1 f.2).1
   |cons m t =>
    have d:=g m mS
    have v:Lw t:=λy b=>g y (mC _ b)
    by_cases c:x = -m
    ·have j:h02 m x=true:=(k03 d.1 d.2).2 c
     have k:C4 (m::t) x=t:=by
      unfold C4
      simp only[j,cond_true,if_true]
     rw[k,c,←d04 d.1,(i m d.1 d.2).2,List.reverse_cons,List.flatMap_append,List.append_assoc]
     simp only[List.flatMap_cons,List.flatMap_nil,List.append_nil]
     have n:=(Eqv.refl (hf (s v))).app (m0b (i m d.1 d.2).1)
     rw[List.append_nil]at n
     exact n.symm
    ·have j:h02 m x=false:=Bool.eq_false_iff.2 λh=>c ((k03 d.1 d.2).1 h)
     have k:C4 (m::t) x=x::m::t:=by
      unfold C4
      simp only[j,cond_false,Bool.false_eq_true,if_false]
     rw[k,List.reverse_cons,List.flatMap_append]
     simp only[List.flatMap_cons,List.flatMap_nil,List.append_nil]
     exact Eqv.refl ((hf (s g)).app (i x f.1 f.2).1)
  have o:=A.app (Eqv.refl (hf q))
  rw[List.append_assoc]at o
  rw[List.flatMap_cons]
  exact z.trans o
theorem a0o{a:List Int}(h:Lw a):Eqv (t7 [] a).reverse a:=by
 have:=w0l (φ:=λx=>[x]) (λx b h0=>⟨Lw.one b h0,rfl⟩) a [] Lw.nil h
 simpa using this
structure Pol where
 pos:Int->Bool
 nx:Int->Int
 ln:Int->Nat
def Pol.it(π:Pol)(e:Int):Nat->Int
 |0=>e
 |m+1=>π.nx (π.it e m)
structure Pol.OK (π:Pol):Prop where
 neg:∀ x,π.pos x=true->π.pos (-x)=false
 nxp:∀ x,π.pos x=true->π.pos (π.nx x)=true
 inj:∀ x y,π.pos x=true->π.pos y=true->π.nx x=π.nx y->x=y
 lnx:∀ x,π.pos x=true->π.ln (π.nx x)=π.ln x
 one:∀ x,π.pos x=true->1<=π.ln x
 per:∀ x,π.pos x=true->π.it x (π.ln x)=x
abbrev Stk:=List (Int×Nat)
def Pol.nxt(π:Pol):Stk->Option Int
 |(e,m+1)::_=>some (π.it e (m+1))
 |_=>none
def Pol.adv(π:Pol):Stk->Stk
 |(e,m)::T=>if m+1=π.ln e then T else(e,m+1)::T
 | []=>[]
def Pol.ret(π:Pol):Stk->Stk
 |(e,m)::T=>if m=1 then T else(e,m-1)::T
 | []=>[]
def Pol.act(π:Pol)(S:Stk)(z:Int):Stk :=
 if π.pos z=true then(if π.nxt S=some z then π.adv S else if π.ln z=1 then S else(z,1)::S)
 else if π.pos (-z)=true then(if π.nxt S=some (π.nx (-z))then π.ret S else if π.ln (-z)=1 then S else(π.nx (-z),π.ln (-z)-1)::S)
 else match S with
  |(e,0)::T=>if e = -z then T else(z,0)::S
  |_=>(z,0)::S
def Pol.okI(π:Pol)(t:Int×Nat):Prop:=(t.2=0->π.pos t.1=false/\π.pos (-t.1)=false)/\(t.2≠0->π.pos t.1=true/\t.2<π.ln t.1)
def Pol.Val(π:Pol):Stk->Prop
 | []=>True
 |t::T=>π.okI t/\(t.2≠0->π.nxt T≠some t.1)/\(t.2=0->∀ b r,T=(b,0)::r->t.1 ≠ -b)/\π.Val T
variable {π:Pol}
theorem Pol.OK.itp(o:π.OK){x:Int}(h:π.pos x=true):∀ m,π.pos (π.it x m)=true
 |0=>h
 |m+1=>o.nxp _ (o.itp h m)
theorem Pol.OK.itl(o:π.OK){x:Int}(h:π.pos x=true):∀ m,π.ln (π.it x m)=π.ln x
 |0=>rfl
 |m+1=>(o.lnx _ (o.itp h m)).trans (o.itl h m)
theorem Pol.it_add(x:Int)(a:Nat):∀ b,π.it (π.it x a) b=π.it x (a+b)
 |0=>rfl
 |b+1=>congrArg π.nx (Pol.it_add x a b)
theorem Pol.nxt_is{S:Stk}{z:Int}(h:π.nxt S=some z):∃ e m T,S=(e,m+1)::T/\z=π.it e (m+1):=by
 match S,h with
 |(e,m+1)::T,h=>exact⟨e,m,T,rfl,(oJ h).symm⟩
theorem Pol.nxt_one(e:Int)(m:Nat)(b:m≠0)(a:Stk):π.nxt ((e,m)::a)=some (π.it e m):=by
 cases m with
 |zero=>exact absurd rfl b
 |succ m=>rfl
theorem Pol.val_act(o:π.OK){f:Stk}(h:π.Val f)(z:Int):π.Val (π.act f z):=by
 unfold Pol.act
 by_cases c1:π.pos z=true
 ·rw[if_pos c1]
  by_cases c2:π.nxt f=some z
  ·rw[if_pos c2]
   obtain⟨e,m,a,rfl,rfl⟩:=Pol.nxt_is c2
   obtain⟨⟨l,d⟩,g,n,i⟩:=h
   have d:=d (by simp)
   simp only at d g
   show π.Val (if m+1+1=π.ln e then a else(e,m+1+1)::a)
   by_cases c3:m+1+1=π.ln e
   ·rw[if_pos c3];exact i
   ·rw[if_neg c3]
    exact⟨⟨λc=>by simp at c,λ_=>⟨d.1,by show m+1+1<π.ln e;omega⟩⟩,λ_=>g (by simp),λc=>by simp at c,i⟩
  ·rw[if_neg c2]
   by_cases c3:π.ln z=1
   ·rw[if_pos c3];exact h
   ·rw[if_neg c3]
    have:=o.one z c1
    exact⟨⟨λc=>by simp at c,λ_=>⟨c1,by show 1<π.ln z;omega⟩⟩,λ_=>c2,λc=>by simp at c,h⟩
 ·rw[if_neg c1]
  by_cases d1:π.pos (-z)=true
  ·rw[if_pos d1]
   by_cases c2:π.nxt f=some (π.nx (-z))
   ·rw[if_pos c2]
    obtain⟨e,m,a,rfl,p⟩:=Pol.nxt_is c2
    obtain⟨⟨l,d⟩,g,n,i⟩:=h
    have d:=d (by simp)
    simp only at d g
    show π.Val (if m+1=1 then a else(e,m+1-1)::a)
    by_cases c3:m+1=1
    ·rw[if_pos c3];exact i
    ·rw[if_neg c3]
     exact⟨⟨λc=>absurd (show m=0 from c) (by omega),λ_=>⟨d.1,by show m+1-1<π.ln e;omega⟩⟩,λ_=>g (by simp),λc=>absurd (show m=0 from c) (by omega),i⟩
   ·rw[if_neg c2]
    by_cases c3:π.ln (-z)=1
    ·rw[if_pos c3];exact h
    ·rw[if_neg c3]
     have q:=o.one _ d1
     have s:=o.lnx _ d1
     exact⟨⟨λc=>absurd (show π.ln (-z)-1=0 from c) (by omega),λ_=>⟨o.nxp _ d1,by show π.ln (-z)-1<π.ln (π.nx (-z));omega⟩⟩,λ_=>c2,λc=>absurd (show π.ln (-z)-1=0 from c) (by omega),h⟩
  ·rw[if_neg d1]
   have j:π.pos z=false:=by simpa using c1
   have f2:π.pos (-z)=false:=by simpa using d1
   have push:(∀ b r,f=(b,0)::r->z ≠ -b)->π.Val ((z,0)::f):=λk=>⟨⟨λ_=>⟨j,f2⟩,λc=>absurd rfl c⟩,λc=>absurd rfl c,λ_=>k,h⟩
   match f,h,push with
   | [],h,push=>exact push λb r e=>by cases e
   |(e,m+1)::a,h,push=>exact push λb r e=>by cases e
   |(e,0)::a,h,push =>
    show π.Val (if e = -z then a else(z,0)::(e,0)::a)
    by_cases c:e = -z
    ·rw[if_pos c];exact h.2.2.2
    ·rw[if_neg c]
     refine push λb r k=>?_
     have:e=b:=by cases k;rfl
     omega
theorem Pol.act_inv(o:π.OK){f:Stk}(h:π.Val f){z:Int}(C:z≠0):π.act (π.act f z) (-z)=f:=by
  by_cases c1:π.pos z=true
  · have nz:=o.neg z c1
    have l:∀ R,π.act R (-z)=if π.nxt R=some (π.nx z)then π.ret R else if π.ln z=1 then R else(π.nx z,π.ln z-1)::R:=λR=>by
      unfold Pol.act
      rw[if_neg (by rw[nz];simp),show -(-z)=z by omega,if_pos c1]
    rw[l]
    unfold Pol.act
    rw[if_pos c1]
    by_cases c2:π.nxt f=some z
    · rw[if_pos c2]
      obtain⟨e,m,a,rfl,rfl⟩:=Pol.nxt_is c2
      obtain⟨⟨u,d⟩,i,w,y⟩:=h
      have d:=d (by simp)
      simp only at d i
      have i:=i (by simp)
      have p:π.ln (π.it e (m+1))=π.ln e:=o.itl d.1 _
      have t:π.nx (π.it e (m+1))=π.it e (m+1+1):=rfl
      rw[p,t]
      show(if π.nxt (if m+1+1=π.ln e then a else(e,m+1+1)::a)=some (π.it e (m+1+1))then π.ret (if m+1+1=π.ln e then a else(e,m+1+1)::a)else if π.ln e=1 then(if m+1+1=π.ln e then a else(e,m+1+1)::a)else(π.it e (m+1+1),π.ln e-1)::(if m+1+1=π.ln e then a else(e,m+1+1)::a))=(e,m+1)::a
      by_cases c3:m+1+1=π.ln e
      · rw[if_pos c3,c3,o.per e d.1,if_neg i,if_neg (by omega),show π.ln e-1=m+1 by omega]
      · rw[if_neg c3,if_pos (Pol.nxt_one e (m+1+1) (by omega) a)]
        show(if m+1+1=1 then a else(e,m+1+1-1)::a)=_
        rw[if_neg (by omega)];rfl
    · rw[if_neg c2]
      by_cases c3:π.ln z=1
      · have g:=o.per z c1
        rw[c3]at g
        have g:π.nx z=z:=g
        rw[if_pos c3,g,if_neg c2,if_pos c3]
      · rw[if_neg c3,if_pos (show π.nxt ((z,1)::f)=some (π.nx z) from rfl)]
        rfl
  · by_cases d1:π.pos (-z)=true
    · have l:∀ R,π.act R (-z)=if π.nxt R=some (-z)then π.adv R else if π.ln (-z)=1 then R else(-z,1)::R:=λR=>by
        unfold Pol.act
        rw[if_pos d1]
      rw[l]
      unfold Pol.act
      rw[if_neg c1,if_pos d1]
      generalize -z=x at *
      by_cases c2:π.nxt f=some (π.nx x)
      · rw[if_pos c2]
        obtain⟨e,m,a,rfl,q⟩:=Pol.nxt_is c2
        obtain⟨⟨u,d⟩,i,w,y⟩:=h
        have d:=d (by simp)
        simp only at d i
        have v:π.nxt a≠some e:=i (by simp)
        have j:x=π.it e m:=o.inj _ _ d1 (o.itp d.1 m) q
        have p:π.ln x=π.ln e:=by rw[j];exact o.itl d.1 _
        show(if π.nxt (if m+1=1 then a else(e,m+1-1)::a)=some x then π.adv (if m+1=1 then a else(e,m+1-1)::a)else if π.ln x=1 then(if m+1=1 then a else(e,m+1-1)::a)else(x,1)::(if m+1=1 then a else(e,m+1-1)::a))=(e,m+1)::a
        by_cases c3:m+1=1
        · obtain rfl:m=0:=by omega
          have j:x=e:=j
          rw[if_pos c3,j,if_neg v,if_neg (by omega)]
        · rw[if_neg c3,Nat.add_sub_cancel,Pol.nxt_one e m (by omega),if_pos (by rw[j])]
          show(if m+1=π.ln e then a else(e,m+1)::a)=_
          rw[if_neg (by omega)]
      · rw[if_neg c2]
        by_cases c3:π.ln x=1
        · have g:=o.per x d1
          rw[c3]at g
          have g:π.nx x=x:=g
          rw[g]at c2
          rw[if_pos c3,if_neg c2,if_pos c3]
        · have A:=o.one x d1
          have B:=o.lnx x d1
          have s:π.it (π.nx x) (π.ln x-1)=x:=by
            have:=Pol.it_add (π:=π) x 1 (π.ln x-1)
            rw[show 1+(π.ln x-1)=π.ln x by omega,o.per x d1]at this
            exact this
          rw[if_neg c3,Pol.nxt_one _ _ (by omega),s,if_pos rfl]
          show(if π.ln x-1+1=π.ln (π.nx x)then f else _)=f
          rw[if_pos (by omega)]
    · have l:∀ R,π.act R (-z)=match R with
          |(e,0)::a=>if e=z then a else(-z,0)::R
          |_=>(-z,0)::R:=λR=>by
        unfold Pol.act
        rw[if_neg d1,show -(-z)=z by omega,if_neg c1]
      rw[l]
      unfold Pol.act
      rw[if_neg c1,if_neg d1]
      match f,h with
      | [],h=>simp
      |(e,m+1)::a,h=>simp
      |(e,0)::a,h =>
        simp only
        by_cases c:e = -z
        · rw[if_pos c]
          have k:=h.2.2.1 rfl
          match a,k with
          | [],k=>simp[c]
          |(b,n+1)::r,k=>simp[c]
          |(b,0)::r,k =>
            have:=k b r rfl
            simp only at this ⊢
            rw[if_neg (by omega),c]
        · rw[if_neg c]
          simp
def Pol.acts(π:Pol)(S:Stk)(w:List Int):Stk:=w.foldl π.act S
theorem Pol.acts_app(S:Stk)(a b:List Int):π.acts S (a++b)=π.acts (π.acts S a) b:=List.foldl_append
theorem Pol.val_acts(o:π.OK):∀(w:List Int) {S:Stk},π.Val S->π.Val (π.acts S w)
 | [],S,h=>h
 |z::w,S,h=>Pol.val_acts o w (Pol.val_act o h z)
def Pol.run(π:Pol)(z:Int):Nat->List Int
 |0=>[]
 |n+1=>z::π.run (π.nx z) n
theorem Pol.run_len(z:Int):∀ n,(π.run z n).length=n
 |0=>rfl
 |n+1=>congrArg (·+1) (Pol.run_len (π.nx z) n)
theorem Pol.run_add:∀(a b:Nat) (z:Int),π.run z (a+b)=π.run z a++π.run (π.it z a) b
 |0,b,z=>by rw[Nat.zero_add];rfl
 |a+1,b,z=>by
  rw[show a+1+b=(a+b)+1 by omega]
  show z::π.run (π.nx z) (a+b)=z::(π.run (π.nx z) a++π.run (π.it z (a+1)) b)
  rw[Pol.run_add a b]
  have:=Pol.it_add (π:=π) z 1 a
  rw[show 1+a=a+1 by omega]at this
  rw[←this];rfl
theorem Pol.run_in(o:π.OK):∀(n m:Nat) (e:Int) (a:Stk),π.pos e=true->m+1<π.ln e->m+1+n<=π.ln e ->
  π.acts ((e,m+1)::a) (π.run (π.it e (m+1)) n)=if m+1+n=π.ln e then a else(e,m+1+n)::a
 |0,m,e,a,b,d,f=>by
  rw[if_neg (by omega)];rfl
 |n+1,m,e,a,b,d,f=>by
  show π.acts (π.act ((e,m+1)::a) (π.it e (m+1))) (π.run (π.nx (π.it e (m+1))) n)=_
  have g:π.act ((e,m+1)::a) (π.it e (m+1))=if m+1+1=π.ln e then a else(e,m+1+1)::a:=by
   unfold Pol.act
   rw[if_pos (o.itp b _),if_pos (Pol.nxt_one e (m+1) (by omega) a)];rfl
  rw[g]
  by_cases c:m+1+1=π.ln e
  ·obtain rfl:n=0:=by omega
   rw[if_pos c]
   try rw[if_pos (by omega)]
   rfl
  ·rw[if_neg c]
   have:=Pol.run_in o n (m+1) e a b (by omega) (by omega)
   rw[show m+1+(n+1)=m+1+1+n by omega]
   exact this
theorem Pol.push(o:π.OK){a:Stk}{z:Int}(c:π.pos z=true)(b:π.nxt a≠some z):π.act a z=if π.ln z=1 then a else(z,1)::a:=by
 unfold Pol.act
 rw[if_pos c,if_neg b]
theorem Pol.run_full(o:π.OK){a:Stk}(h:π.Val a){z:Int}(d:π.pos z=true):π.acts a (π.run z (π.ln z))=a:=by
 have k:=o.one z d
 by_cases c:π.nxt a=some z
 ·obtain⟨e,m,g,rfl,rfl⟩:=Pol.nxt_is c
  obtain⟨⟨l,b⟩,f,p,q⟩:=h
  have b:=b (by simp)
  simp only at b f
  have f:=f (by simp)
  rw[o.itl b.1]
  have i:=Pol.run_add (π:=π) (π.ln e-(m+1)) (m+1) (π.it e (m+1))
  rw[show π.ln e-(m+1)+(m+1)=π.ln e by omega,Pol.it_add,show m+1+(π.ln e-(m+1))=π.ln e by omega,o.per e b.1]at i
  rw[i,Pol.acts_app,Pol.run_in o _ m e g b.1 b.2 (by omega),if_pos (by omega)]
  show π.acts (π.act g e) (π.run (π.nx e) m)=_
  rw[Pol.push o b.1 f,if_neg (by omega)]
  have:=Pol.run_in o m 0 e g b.1 (by omega) (by omega)
  rw[if_neg (by omega)]at this
  rw[show m+1=0+1+m by omega]
  exact this
 ·by_cases c3:π.ln z=1
  ·rw[c3]
   show π.act a z=a
   rw[Pol.push o d c,if_pos c3]
  ·obtain⟨n,j⟩:∃ n,π.ln z=n+1:=⟨π.ln z-1,by omega⟩
   rw[j]
   show π.acts (π.act a z) (π.run (π.nx z) n)=a
   rw[Pol.push o d c,if_neg c3]
   have:=Pol.run_in o n 0 z a d (by omega) (by omega)
   rw[if_pos (by omega)]at this
   exact this
def nzW(w:List Int):Prop:=∀ x∈w,x≠0
def neW(w:List Int):List Int:=(w.map λx => -x).reverse
theorem f0g(x:Int)(w:List Int):neW (x::w)=neW w ++ [-x]:=by simp[neW]
theorem Pol.acts_neW(o:π.OK):∀(w:List Int) {a:Stk},π.Val a->nzW w->π.acts (π.acts a w) (neW w)=a
 | [],a,h,_=>rfl
 |x::w,a,h,b=>by
  rw[f0g,Pol.acts_app]
  show π.act (π.acts (π.acts (π.act a x) w) (neW w)) (-x)=a
  rw[Pol.acts_neW o w (Pol.val_act o h x) λy c=>b y (mC _ c)]
  exact Pol.act_inv o h (b x mS)
theorem u0j(w:List Int):neW (neW w)=w:=by
 unfold neW
 rw[List.map_reverse,List.reverse_reverse,List.map_map]
 exact(List.map_congr_left λx _=>Int.neg_neg x).trans (List.map_id w)
theorem nzW.ne{w:List Int}(h:nzW w):nzW (neW w):=λx a=>by
 unfold neW at a
 obtain⟨y,b,rfl⟩:=List.mem_map.1 (List.mem_reverse.1 a)
 have:=h y b
 omega
def Pol.triv(π:Pol)(w:List Int):Prop:=∀ S,π.Val S->π.acts S w=S
theorem Pol.triv_ne(o:π.OK){w:List Int}(e:nzW w)(h:π.triv w):π.triv (neW w):=λf b=>by
 have d:=Pol.val_acts o (neW w) b
 have c:=h _ d
 have a:=Pol.acts_neW o (neW w) b e.ne
 rw[u0j,c]at a
 exact a
theorem Pol.triv_conj(o:π.OK){r u:List Int}(b:nzW u)(h:π.triv r):π.triv (neW u++r++u):=λd a=>by
 have c:=Pol.val_acts o (neW u) a
 rw[Pol.acts_app,Pol.acts_app,h _ c]
 have:=Pol.acts_neW o (neW u) a b.ne
 rwa [u0j]at this
theorem Pol.triv_app{a b:List Int}(h:π.triv a)(k:π.triv b):π.triv (a++b):=λc d=>by rw[Pol.acts_app,h c d,k c d]
structure Pol.Irr (π:Pol) (w:List Int):Prop where
 fwd:∀ A B z n,w=A++π.run z n++B->π.pos z=true->2*n<=π.ln z
 bwd:∀ A B z n,w=A++neW (π.run z n)++B->π.pos z=true->2*n<=π.ln z
 red:∀ A B x,w≠A ++ [x,-x]++B
theorem Pol.Irr.init{u:List Int}{y:Int}(h:π.Irr (u ++ [y])):π.Irr u where
 fwd:=λA B z n e a=>h.fwd A (B ++ [y]) z n (by rw[e];simp) a
 bwd:=λA B z n e a=>h.bwd A (B ++ [y]) z n (by rw[e];simp) a
 red:=λA B x e=>h.red A (B ++ [y]) x (by rw[e];simp)
theorem Pol.run_snoc(z:Int)(n:Nat):π.run z (n+1)=π.run z n ++ [π.it z n]:=Pol.run_add n 1 z
def Pol.Top(π:Pol)(u:List Int)(t:Int×Nat):Prop :=
 (t.2=0/\∃ A,u=A ++ [t.1])∨(t.2≠0/\∃ A,u=A++π.run t.1 t.2)∨(t.2≠0/\∃ A n,t.2+(n+1)=π.ln t.1/\u=A++neW (π.run (π.it t.1 t.2) (n+1)))
theorem Pol.irr_top(o:π.OK):∀(k:Nat) (u:List Int),u.length=k+1->π.Irr u->nzW u->∃ t a,π.acts [] u=t::a/\π.okI t/\π.Top u t:=by
 intro k
 have step:∀(u:List Int) (y:Int) (h:Stk),π.acts [] u=h->(h = []∨∃ t a,h=t::a/\π.okI t/\π.Top u t)->π.Irr (u ++ [y])->y≠0->∃ t a,π.acts [] (u ++ [y])=t::a/\π.okI t/\π.Top (u ++ [y]) t:=by
  intro u y h J j i N
  rw[Pol.acts_app,J]
  show ∃ t a,π.act h y=t::a/\_
  by_cases c1:π.pos y=true
  ·have z:π.ln y≠1:=λc=>by
    have:=i.fwd u [] y 1 (by rw[List.append_nil];rfl) c1
    omega
   have H:=o.one y c1
   have push:π.nxt h≠some y->∃ t a,π.act h y=t::a/\π.okI t/\π.Top (u ++ [y]) t:=λf=>by
    rw[Pol.push o c1 f,if_neg z]
    exact⟨_,_,rfl,⟨λc=>by simp at c,λ_=>⟨c1,by show 1<π.ln y;omega⟩⟩,.inr (.inl ⟨by simp,u,rfl⟩)⟩
   rcases j with rfl|⟨⟨e,m⟩,a,rfl,⟨D,d⟩,j⟩
   ·exact push (by simp[Pol.nxt])
   ·rcases j with⟨b,A,g⟩|⟨b,A,g⟩|⟨b,A,n,v,g⟩
    ·simp only at b
     subst b
     exact push (by simp[Pol.nxt])
    ·simp only at b g d
     have d:=d b
     by_cases f:π.nxt ((e,m)::a)=some y
     ·rw[Pol.nxt_one e m b]at f
      obtain rfl:=oJ f
      have p:u ++ [π.it e m]=A++π.run e (m+1):=by rw[g,Pol.run_snoc,List.append_assoc]
      have B:=i.fwd A [] e (m+1) (by rw[List.append_nil];exact p) d.1
      have l:π.act ((e,m)::a) (π.it e m)=(e,m+1)::a:=by
       unfold Pol.act
       rw[if_pos c1,Pol.nxt_one e m b,if_pos rfl]
       show(if m+1=π.ln e then a else(e,m+1)::a)=_
       rw[if_neg (by omega)]
      rw[l]
      exact⟨_,_,rfl,⟨λc=>by simp at c,λ_=>⟨d.1,by show m+1<π.ln e;omega⟩⟩,.inr (.inl ⟨by simp,A,p⟩)⟩
     ·exact push f
    ·simp only at b v g d
     refine push λf=>?_
     rw[Pol.nxt_one e m b]at f
     obtain rfl:=oJ f
     refine i.red (A++neW (π.run (π.nx (π.it e m)) n)) [] (-(π.it e m)) ?_
     rw[g]
     show A++neW (π.it e m::π.run (π.nx (π.it e m)) n) ++ [π.it e m]=_
     rw[f0g,Int.neg_neg]
     simp
  ·by_cases d1:π.pos (-y)=true
   ·obtain⟨x,rfl⟩:∃ x,y = -x:=⟨-y,by omega⟩
    rw[Int.neg_neg]at d1
    have z:π.ln x≠1:=λc=>by
     have:=i.bwd u [] x 1 (by rw[List.append_nil];rfl) d1
     omega
    have H:=o.one x d1
    have M:=o.lnx x d1
    have I:π.it (π.nx x) (π.ln x-1)=x:=by
     have:=Pol.it_add (π:=π) x 1 (π.ln x-1)
     rw[show 1+(π.ln x-1)=π.ln x by omega,o.per x d1]at this
     exact this
    have push:π.nxt h≠some (π.nx x)->∃ t a,π.act h (-x)=t::a/\π.okI t/\π.Top (u ++ [-x]) t:=λf=>by
     have l:π.act h (-x)=(π.nx x,π.ln x-1)::h:=by
      unfold Pol.act
      rw[if_neg c1,Int.neg_neg,if_pos d1,if_neg f,if_neg z]
     rw[l]
     refine⟨_,_,rfl,⟨λc=>absurd (show π.ln x-1=0 from c) (by omega),λ_=>⟨o.nxp x d1,by show π.ln x-1<π.ln (π.nx x);omega⟩⟩,.inr (.inr ⟨by show π.ln x-1≠0;omega,u,0,by show π.ln x-1+1=π.ln (π.nx x);omega,?_⟩)⟩
     show u ++ [-x]=u++neW [π.it (π.nx x) (π.ln x-1)]
     rw[I];rfl
    rcases j with rfl|⟨⟨e,m⟩,a,rfl,⟨D,d⟩,j⟩
    ·exact push (by simp[Pol.nxt])
    ·rcases j with⟨b,A,g⟩|⟨b,A,g⟩|⟨b,A,n,v,g⟩
     ·simp only at b
      subst b
      exact push (by simp[Pol.nxt])
     ·simp only at b g d
      have d:=d b
      refine push λf=>?_
      rw[Pol.nxt_one e m b]at f
      obtain⟨m,rfl⟩:∃ n,m=n+1:=⟨m-1,by omega⟩
      have w:x=π.it e m:=o.inj _ _ d1 (o.itp d.1 m) (oJ f).symm
      refine i.red (A++π.run e m) [] x ?_
      rw[g,Pol.run_snoc,←w]
      simp
     ·simp only at b v g d
      have d:=d b
      by_cases f:π.nxt ((e,m)::a)=some (π.nx x)
      ·rw[Pol.nxt_one e m b]at f
       obtain⟨m,rfl⟩:∃ n,m=n+1:=⟨m-1,by omega⟩
       have w:x=π.it e m:=o.inj _ _ d1 (o.itp d.1 m) (oJ f).symm
       have p:u ++ [-x]=A++neW (π.run (π.it e m) (n+1+1)):=by
        rw[g,w]
        show A++neW (π.run (π.it e (m+1)) (n+1)) ++ [-(π.it e m)]=A++neW (π.it e m::π.run (π.nx (π.it e m)) (n+1))
        rw[f0g,List.append_assoc];rfl
       have B:=i.bwd A [] (π.it e m) (n+1+1) (by rw[List.append_nil];exact p) (o.itp d.1 m)
       rw[o.itl d.1]at B
       have l:π.act ((e,m+1)::a) (-x)=(e,m)::a:=by
        unfold Pol.act
        rw[if_neg c1,Int.neg_neg,if_pos d1,if_pos (show π.nxt ((e,m+1)::a)=some (π.nx x) from f)]
        show(if m+1=1 then a else(e,m+1-1)::a)=_
        rw[if_neg (by omega)];rfl
       rw[l]
       exact⟨_,_,rfl,⟨λc=>absurd (show m=0 from c) (by omega),λ_=>⟨d.1,by show m<π.ln e;omega⟩⟩,.inr (.inr ⟨by show m≠0;omega,A,n+1,by show m+(n+1+1)=π.ln e;omega,p⟩)⟩
      ·exact push f
   ·have G:π.pos y=false:=by simpa using c1
    have f2:π.pos (-y)=false:=by simpa using d1
    have fin:π.act h y=(y,0)::h->∃ t a,π.act h y=t::a/\π.okI t/\π.Top (u ++ [y]) t:=λl=>⟨_,_,l,⟨λ_=>⟨G,f2⟩,λc=>absurd rfl c⟩,.inl ⟨rfl,u,rfl⟩⟩
    rcases j with rfl|⟨⟨e,m⟩,a,rfl,⟨D,d⟩,j⟩
    ·exact fin (by unfold Pol.act;rw[if_neg c1,if_neg d1])
    ·cases m with
     |succ m=>exact fin (by unfold Pol.act;rw[if_neg c1,if_neg d1];rfl)
     |zero =>
      refine fin ?_
      unfold Pol.act
      rw[if_neg c1,if_neg d1]
      show(if e = -y then a else(y,0)::(e,0)::a)=_
      rw[if_neg]
      intro c
      rcases j with⟨_,A,g⟩|⟨b,_⟩|⟨b,_⟩
      ·simp only at g
       refine i.red A [] e ?_
       rw[g,show y = -e by omega]
       simp
      ·exact b rfl
      ·exact b rfl
 induction k with
 |zero =>
  intro u q i s
  match u,q with
  | [y],_=>exact step [] y [] rfl (.inl rfl) i (s y mS)
 |succ k L =>
  intro u q i s
  have C:u≠[]:=λc=>by rw[c]at q;simp at q
  have e:u.dropLast ++ [u.getLast C]=u:=List.dropLast_concat_getLast C
  rw[←e]at i s ⊢
  obtain⟨t,a,g,E,F⟩:=L u.dropLast (by rw[List.length_dropLast,q];rfl) i.init λx K=>s x (List.mem_append_left _ K)
  exact step _ _ _ g (.inr ⟨t,a,rfl,E,F⟩) i (s _ (List.mem_append_right _ (List.mem_singleton.2 rfl)))
theorem Pol.irr_nil(o:π.OK){w:List Int}(a:π.Irr w)(b:nzW w)(h:π.triv w):w = []:=by
 by_cases c:w = []
 ·exact c
 ·obtain⟨t,d,e,_⟩:=Pol.irr_top o (w.length-1) w (by have:=List.length_pos_iff.2 c;omega) a b
  rw[h [] trivial]at e
  cases e
theorem b0o(a b:List Int)(i:a.length=b.length)(g:a.length<=9223372036854775807):∀(d k fuel:Nat),k+d=a.length->d<fuel ->
  g6 a b fuel (k:Int)=some (bif eqW (a.drop k) (b.drop k)then .inr ()else .inl false)
 |d,k,0,f,hf=>by omega
 |0,k,fuel+1,f,hf=>by
  rw[g6.eq_2,if_neg (by simp;omega),M1 (by omega),M1 (by omega)]
  rfl
 |d+1,k,fuel+1,f,hf=>by
  have c:=w5 (show k<a.length by omega)
  have e:=w5 (show k<b.length by omega)
  have next:=b0o a b i g d (k+1) fuel (by omega) (by omega)
  generalize a[k]=x at c
  generalize b[k]=y at e
  rw[g6.eq_2,if_pos (by simp;omega),E3 c,oB,E3 e,oB,V1 c,V1 e]
  unfold eqW at next ⊢
  by_cases h:x=y
  ·rw[if_neg (by simpa using h),Z2 (show k<a.length by omega) g,next]
   simp[h]
  ·rw[if_pos (by simpa using h)]
   simp[h]
theorem v06{a b:List Int}(c:a.length<=9223372036854775807):E01 a b=some (eqW a b):=by
 unfold E01
 by_cases h:a.length=b.length
 ·rw[if_neg (by simp[h])]
  have:=b0o a b h (by omega) a.length 0 W0 (by omega) (s0f c)
  rw[show((0:Nat):Int)=0 from rfl]at this
  rw[this]
  simp only[List.drop_zero,oB]
  unfold eqW
  by_cases h2:a=b
  ·simp[h2,p7]
  ·simp[h2,p7]
 ·rw[if_pos (by simp;omega)]
  unfold eqW
  have : ¬ a=b:=λe=>h (by rw[e])
  simp[this]
theorem v0j{x:Int}(h:H0 x)(a:x ≠ -9223372036854775808):(if IntKind.i64.wrap (0-x)>x then IntKind.i64.wrap (0-x)else x)=if x<0 then -x else x:=by
 rw[o0f h a]
 split<;>split<;>omega
theorem i0r:(if IntKind.i64.wrap (0-(-9223372036854775808)) > -9223372036854775808 then IntKind.i64.wrap (0-(-9223372036854775808))else -9223372036854775808) = -9223372036854775808:=by decide
theorem y09{x y:Int}(f:H0 x)(g:H0 y):U01 x y=some (a09 x y):=by
 have bx:=f.1;have h:=g.1
 have i:=f.2;have j:=g.2
 unfold U01 a09 t9 k0f
 by_cases e:x=y
 ·subst e;simp
 ·rw[if_neg (by simpa using e)]
  by_cases ex:x = -9223372036854775808
  ·subst ex
   rw[i0r]
   rw[if_pos (by simp)]
   congr 1
   repeat' split
   all_goals omega
  ·rw[v0j f ex]
   by_cases ey:y = -9223372036854775808
   ·subst ey
    rw[i0r]
    have c : ¬ (if x<0 then -x else x)<0:=by split<;>omega
    have d : ¬ (if x<0 then -x else x) = -9223372036854775808:=by split<;>omega
    simp only[c,d,decide_false,decide_true,cond_false]
    rw[if_neg (by simp)]
    congr 1
    repeat' split
    all_goals omega
   ·rw[v0j g ey]
    have c : ¬ (if x<0 then -x else x)<0:=by split<;>omega
    have d:(if y<0 then -y else y) ≥ 0:=by split<;>omega
    simp only[c,d,decide_false,decide_true,cond_false,cond_true]
    generalize a:(if x<0 then -x else x)=ax
    generalize b:(if y<0 then -y else y)=ay
    by_cases h3:ax>ay
    ·simp only[h3,decide_true,cond_true,if_true]
     congr 1
     split at a<;>split at b<;>(repeat' split)<;>omega
    ·simp only[h3,decide_false,cond_false]
     by_cases h4:ax=ay
     ·simp only[h4,decide_true,cond_true]
      by_cases h5:x<y
      ·simp only[h5,decide_true,if_true]
       congr 1
       split at a<;>split at b<;>(repeat' split)<;>omega
      ·simp only[h5,decide_false,Bool.false_eq_true,if_false]
       congr 1
       split at a<;>split at b<;>(repeat' split)<;>omega
     ·simp only[h4,decide_false,cond_false,Bool.false_eq_true,if_false]
      congr 1
      split at a<;>split at b<;>(repeat' split)<;>omega
theorem N05(x y:Int):w7 x y=some (t9 x y):=by
 unfold w7 t9
 by_cases h:x<y
 ·simp[h]
 ·by_cases h2:x>y
  ·simp[h,h2]
  ·simp[h,h2]
theorem J0c{x y:Int}(a:H0 x)(b:H0 y):K8 x y=some (a09 x y):=by
 have bx:=a.1;have c:=b.1
 have d:=a.2;have f:=b.2
 unfold K8
 by_cases e:x=y
 ·subst e;rw[if_pos (by simp),O0k.refl]
 ·rw[if_neg (by simpa using e)]
  by_cases ex:x = -9223372036854775808
  ·subst ex
   rw[if_pos (by simp)]
   unfold a09 t9 k0f
   congr 1
   repeat' split
   all_goals omega
  ·rw[if_neg (by simpa using ex)]
   by_cases ey:y = -9223372036854775808
   ·subst ey
    rw[if_pos (by simp)]
    unfold a09 t9 k0f
    congr 1
    repeat' split
    all_goals omega
   ·rw[if_neg (by simpa using ey),v0j a ex,v0j b ey,N05,oB,S0 (U06 _ _),oB]
    by_cases h:t9 (if x<0 then -x else x) (if y<0 then -y else y)=0
    ·rw[if_neg (by simpa using h),N05,oB,S0 (U06 _ _),oB]
     have h:=h01.eq _ _ h
     unfold a09 t9 k0f
     congr 1
     split at h<;>split at h<;>(repeat' split)<;>omega
    ·rw[if_pos (by simpa using h)]
     unfold a09 t9 k0f
     unfold t9 at h
     congr 1
     (repeat' split)<;>omega
def O05(w:List Int):Prop:=∀(k:Nat) (x:Int),w[k]?=some x->H0 x
theorem c0o(a b:List Int)(m:a.length=b.length)(f:O05 a)(g:O05 b)(j:a.length<=9223372036854775807):∀(d k fuel:Nat),k+d=a.length->d<fuel ->
  I3 a b fuel (k:Int)=some (bif decide (i06 a09 (a.drop k) (b.drop k)=0)then .inr ()else .inl (i06 a09 (a.drop k) (b.drop k)))
 |d,k,0,i,hf=>by omega
 |0,k,fuel+1,i,hf=>by
  rw[I3.eq_2,if_neg (by simp;omega),M1 (by omega),M1 (by omega)]
  rfl
 |d+1,k,fuel+1,i,hf=>by
  have c:=w5 (show k<a.length by omega)
  have e:=w5 (show k<b.length by omega)
  have next:=c0o a b m f g j d (k+1) fuel (by omega) (by omega)
  generalize a[k]=x at c
  generalize b[k]=y at e
  have l:H0 (a09 x y):=J0n _ _
  rw[I3.eq_2,if_pos (by simp;omega),E3 c,oB,E3 e,oB,y09 (f _ _ c) (g _ _ e),oB,S0 l,oB,
   V1 c,V1 e]
  simp only[i06,thenC]
  by_cases h:a09 x y=0
  ·rw[if_neg (by simpa using h),Z2 (show k<a.length by omega) j,next]
   simp[h]
  ·rw[if_pos (by simpa using h)]
   simp[h]
theorem D02{a b:List Int}(c:O05 a)(d:O05 b)(f:a.length<=9223372036854775807):C8 a b=some (J1 a b):=by
 unfold C8 J1
 by_cases h:a.length=b.length
 ·rw[if_neg (by simp[h])]
  have:=c0o a b h c d (by omega) a.length 0 W0 (by omega) (s0f f)
  rw[show((0:Nat):Int)=0 from rfl]at this
  rw[this]
  simp only[List.drop_zero,oB]
  have e:t9 (a.length:Int) (b.length:Int)=0:=by rw[h];exact h01.refl _
  rw[e]
  by_cases h2:i06 a09 a b=0
  ·simp[h2,thenC,p7]
  ·simp[h2,thenC,p7]
 ·rw[if_pos (by simp;omega)]
  by_cases h2:a.length<b.length
  ·rw[if_pos (by simp;omega)]
   have e:t9 (a.length:Int) (b.length:Int) = -1:=by unfold t9;rw[if_pos (by omega)]
   rw[e];rfl
  ·rw[if_neg (by simp;omega)]
   have e:t9 (a.length:Int) (b.length:Int)=1:=by unfold t9;rw[if_neg (by omega),if_pos (by omega)]
   rw[e];rfl
theorem x0l(a b:List Int)(j:a.length=b.length)(f:O05 a)(g:O05 b)(i:a.length<=9223372036854775807):∀(d k fuel:Nat),k+d=a.length ->
  O4 a b fuel (k:Int)=I3 a b fuel (k:Int)
 |d,k,0,h=>rfl
 |0,k,fuel+1,h=>by
  rw[I3.eq_2,O4.eq_2,if_neg (by simp;omega),if_neg (by simp;omega)]
 |d+1,k,fuel+1,h=>by
  have c:=w5 (show k<a.length by omega)
  have e:=w5 (show k<b.length by omega)
  have next:=x0l a b j f g i d (k+1) fuel (by omega)
  generalize a[k]=x at c
  generalize b[k]=y at e
  rw[I3.eq_2,O4.eq_2,E3 c,oB,E3 e,oB,oB,oB,y09 (f _ _ c) (g _ _ e),J0c (f _ _ c) (g _ _ e),Z2 (show k<a.length by omega) i,next]
theorem Z09{a b:List Int}(e:O05 a)(f:O05 b)(g:a.length<=9223372036854775807):I00 a b=some (J1 a b):=by
 have c:=D02 e f g
 unfold I00
 rw[N05,oB,S0 (U06 _ _),oB]
 unfold J1
 by_cases h:t9 (a.length:Int) (b.length:Int)=0
 ·have d:a.length=b.length:=by have:=h01.eq _ _ h;omega
  rw[if_neg (by simpa using h),show O4 a b W0 0=I3 a b W0 0 from x0l a b d e f (by omega) a.length 0 W0 (by omega)]
  unfold C8 at c
  rw[if_neg (by simp[d])]at c
  exact c
 ·rw[if_pos (by simpa using h)]
  unfold thenC
  rw[if_pos h]
theorem R0m{a:List Int}(b:a.length<=1099511627776):l01 a=some a:=by
 unfold l01
 rw[S0 (by simp;omega)]
 rfl
def I01(w:List Int)(k:Nat):List Int:=w.drop k++w.take k
theorem o0b(w:List Int){k:Nat}(h:k<=w.length):(I01 w k).length=w.length:=by simp[I01];omega
theorem j0r(w:List Int){i k:Nat}(a:i<w.length)(b:k<w.length):(I01 w k)[i]?=w[(i+k) % w.length]?:=by
 unfold I01
 by_cases h:i<w.length-k
 ·rw[List.getElem?_append_left (by simpa using h),List.getElem?_drop,Nat.mod_eq_of_lt (by omega),Nat.add_comm]
 ·rw[List.getElem?_append_right (by simp;omega),List.getElem?_take,List.length_drop,if_pos (by omega),Nat.mod_eq_sub_mod (by omega),Nat.mod_eq_of_lt (by omega)]
  congr 1
  omega
theorem tmN(a b:Nat):Int.tmod (a:Int) (b:Int)=((a % b:Nat):Int):=(Int.ofNat_tmod a b).symm
theorem W02{a:Type}{xs:List a}{k:Nat}(h:k<=xs.length):X02 xs (k:Int) (xs.length:Int)=some (xs.drop k):=by
 unfold X02
 rw[if_pos ⟨by omega,by omega,by omega⟩]
 simp
theorem w0j{a:Type}{xs:List a}{k:Nat}(h:k<=xs.length):X02 xs 0 (k:Int)=some (xs.take k):=by
 unfold X02
 rw[if_pos ⟨by omega,by omega,by omega⟩]
 simp
theorem K0c(w:List Int){k:Nat}(a:k<w.length)(c:w.length<=1048576):v00 w (k:Int)=some (I01 w k):=by
 unfold v00
 have b:Int.tmod (IntKind.i64.wrap (Int.tmod (k:Int) (w.length:Int)+(w.length:Int))) (w.length:Int)=(k:Int):=by
  rw[tmN,Nat.mod_eq_of_lt a,w64 (by omega) (by omega),show(k:Int)+(w.length:Int)=((k+w.length:Nat):Int) by omega,tmN,Nat.add_mod_right,Nat.mod_eq_of_lt a]
 rw[if_neg (by simp;intro e;subst e;simp at a),S0 (by omega),oB,oB,b]
 simp only[w0j (show k<=w.length by omega),W02 (show k<=w.length by omega),oB,R0m (show(w.drop k).length<=1099511627776 by rw[List.length_drop];omega)]
 rw[S0 (by simp;omega)]
 rfl
theorem X03(w:List Int){k:Nat}(a:k<w.length)(m:w.length<=1048576):∀(d i fuel:Nat) (acc:List Int),i+d=w.length->d<fuel->acc.length=i ->
  i6 w (k:Int) fuel (i:Int) acc=some (acc++(I01 w k).drop i)
 |d,i,0,acc,f,hf,c=>by omega
 |0,i,fuel+1,acc,f,hf,c=>by
  rw[i6.eq_2,if_neg (by simp;omega),M1 (by rw[o0b w (by omega)];omega),List.append_nil]
 |d+1,i,fuel+1,acc,f,hf,c=>by
  have g:i<w.length:=by omega
  have n:(i+k) % w.length<w.length:=Nat.mod_lt _ (by omega)
  have b:w[(i+k) % w.length]?=some w[(i+k) % w.length]:=List.getElem?_eq_getElem n
  have h:(I01 w k)[i]?=some w[(i+k) % w.length]:=by rw[j0r w g a,b]
  generalize w[(i+k) % w.length]=x at b h
  have e:Int.tmod (IntKind.i64.wrap (Int.tmod (IntKind.i64.wrap ((i:Int)+Int.tmod (k:Int) (w.length:Int))) (w.length:Int)+(w.length:Int))) (w.length:Int)=(((i+k) % w.length:Nat):Int):=by
   have j:IntKind.i64.wrap ((i:Int)+(k:Int))=((i+k:Nat):Int):=by rw[w64 (by omega) (by omega)];omega
   have l:IntKind.i64.wrap ((((i+k) % w.length:Nat):Int)+(w.length:Int))=(((i+k) % w.length+w.length:Nat):Int):=by rw[w64 (by omega) (by omega)];omega
   rw[tmN,Nat.mod_eq_of_lt a,j,tmN,l,tmN,Nat.add_mod_right,Nat.mod_mod]
  rw[i6.eq_2,if_pos (by simp;omega),S0 (by omega),oB,oB,oB,e,E3 b,oB,S0 (by simp;omega),oB,Z2 g (by omega),
   X03 w a m d (i+1) fuel _ (by omega) (by omega) (by simp;omega),V1 h]
  simp
theorem L0c(w:List Int){k:Nat}(a:k<w.length)(b:w.length<=1048576):o9 w (k:Int)=some (I01 w k):=by
 unfold o9
 have h:=X03 w a b w.length 0 W0 [] (by omega) (N1 (by omega)) rfl
 rw[show((0:Nat):Int)=0 from rfl]at h
 rw[h]
 rfl
def b09(w:List Int):List (List Int):=(List.range w.length).map (I01 w)
theorem p0b(w:List Int):(b09 w).length=w.length:=by simp[b09]
theorem k0r(w:List Int){k:Nat}(h:k<w.length):(b09 w)[k]?=some (I01 w k):=by simp[b09,h]
def y00:List (List Int)->List (List Int)
 | []=>[]
 |r::l=>b09 r++b09 (inv r)++y00 l
theorem i0g:∀ a:List (List Int),(y00 a).length=2*u06 a
 | []=>rfl
 |r::l=>by
  simp only[y00,List.length_append,p0b,C9,i0g l,u06]
  omega
theorem n08(w:List Int)(c:w.length<=1048576):∀(d k fuel:Nat) (acc:List (List Int)),k+d=w.length->d<fuel->acc.length+d<=1099511627776 ->
  V4 w fuel (k:Int) acc=some (acc++(b09 w).drop k)
 |d,k,0,acc,b,hf,a=>by omega
 |0,k,fuel+1,acc,b,hf,a=>by
  rw[V4.eq_2,if_neg (by simp;omega),M1 (by rw[p0b];omega),List.append_nil]
 |d+1,k,fuel+1,acc,b,hf,a=>by
  rw[V4.eq_2,if_pos (by simp;omega),K0c w (by omega) c,oB,S0 (by simp;omega),oB,Z2 (show k<w.length by omega) (by omega),
   n08 w c d (k+1) fuel _ (by omega) (by omega) (by simp;omega),V1 (k0r w (show k<w.length by omega))]
  simp
theorem y0l(a b:List Int)(i:a.length<=1048576)(j:b.length<=1048576)(acc:List (List Int))(m:acc.length+a.length+b.length<=1099511627776):
  l4 a b W0 0 acc=some (acc++(b09 a++b09 b)):=by
 have h0:=n08 a i a.length 0 W0 acc (by omega) (N1 (by omega)) (by omega)
 have c:=n08 b j b.length 0 W0 (acc++b09 a) (by omega) (N1 (by omega)) (by simp[p0b];omega)
 rw[show((0:Nat):Int)=0 from rfl,List.drop_zero]at h0 c
 have k:IntKind.i64.wrap (0+1)=1:=by decide
 have l:IntKind.i64.wrap (1+1)=2:=by decide
 have f:gi [a,b] 0=some a:=rfl
 have g:gi [a,b] 1=some b:=rfl
 have d0:decide ((0:Int)<((2:Nat):Int))=true:=rfl
 have d:decide ((1:Int)<((2:Nat):Int))=true:=rfl
 have e:decide ((2:Int)<((2:Nat):Int))=false:=rfl
 have h:W0=(W0-3)+1+1+1:=rfl
 rw[h]
 rw[l4.eq_2,d0,if_pos rfl,f,oB,h0,oB,k,l4.eq_2,d,if_pos rfl,g,oB,c,oB,l,l4.eq_2,e,if_neg (by simp)]
 rw[List.append_assoc]
theorem B0d(a:List (List Int))(g:∀ w∈a,w.length<=1048576)(j:a.length<=140737488355328):∀(d k fuel:Nat) (acc:List (List Int)),k+d=a.length->d<fuel->acc.length+2*u06 (a.drop k)<=1099511627776 ->
  Y4 a fuel (k:Int) acc=some (acc++y00 (a.drop k))
 |d,k,0,acc,f,hf,b=>by omega
 |0,k,fuel+1,acc,f,hf,b=>by
  rw[Y4.eq_2,if_neg (by simp;omega),M1 (by omega)]
  simp[y00]
 |d+1,k,fuel+1,acc,f,hf,b=>by
  have c:k<a.length:=by omega
  have e:=w5 c
  have h:=g _ (List.getElem_mem c)
  generalize a[k]=x at e h
  rw[V1 e]at b ⊢
  simp only[u06]at b
  simp only[y00]
  have i:=C9 x
  rw[Y4.eq_2,if_pos (by simp;omega),E3 e,oB,d02 x (by omega),oB,y0l x (inv x) h (by omega) acc (by omega),oB,Z2 c (by omega),
   B0d a g j d (k+1) fuel _ (by omega) (by omega) (by simp only[List.length_append,p0b,i];omega)]
  simp
def O0(p:l0):L1:=bif O1 p then T0a J1 eqW (y00 p.2)else []
theorem j0g:∀(a:List (List Int)) (m:Nat),(∀ w∈a,w.length<=m)->u06 a<=a.length*m
 | [],m,_=>by simp[u06]
 |w::l,m,h=>by
  have c:=h w mS
  have d:=j0g l m λx b=>h x (mC _ b)
  simp only[u06,List.length_cons,Nat.add_mul,Nat.one_mul]
  omega
theorem q0b{p:l0}(h:O1 p=true):(∀ w∈p.2,P3 w/\w.length<=24)/\p.2.length<=6/\u06 p.2<=144:=by
 have b:∀ w∈p.2,P3 w/\w.length<=24:=λw a=>by
  obtain⟨i,d⟩:=List.getElem?_of_mem a
  exact S08 h d
 have c:=g0g h
 have e:=j0g p.2 24 λw a=>(b w a).2
 exact⟨b,c,by omega⟩
theorem g9(p:l0)(c:p.2.length<=140737488355328)(e:Y2 p.2):P4 p=some (O0 p):=by
 obtain⟨r,a⟩:=p
 unfold P4 O0
 simp only[t00 (r,a) c e,oB]
 cases hp:O1 (r,a)with
 |false=>rfl
 |true =>
  obtain⟨d,g,b⟩:=q0b hp
  have h:=B0d a (λw f=>by have:=(d w f).2;omega) c a.length 0 W0 [] (by omega) (N1 (by omega)) (by simp only[List.drop_zero,List.length_nil];simp only at b;omega)
  rw[show((0:Nat):Int)=0 from rfl,List.drop_zero,List.nil_append]at h
  rw[if_neg (by simp),h,oB,S0 (by rw[i0g];simp only at b;omega),oB]
  rfl
def prs(w:List Int):List (List (List Int)):=(List.range w.length).map λk=>[I01 w k,inv (I01 w k)]
theorem K0s(w:List Int):(prs w).length=w.length:=by simp[prs]
theorem L0s(w:List Int){k:Nat}(h:k<w.length):(prs w)[k]?=some [I01 w k,inv (I01 w k)]:=by simp[prs,h]
def l0r:List (List Int)->List (List Int)
 | []=>[]
 |r::l=>(prs r).flatten++l0r l
def goP(w:List Int):List (List Int)->Bool×List (List Int)
 | []=>(false,[])
 |y::l=>if J1 w y<0 then(true,w::y::l)else if J1 w y=0 then(true,y::l)else((goP w l).1,y::(goP w l).2)
theorem d0o(w:List Int):∀ l,S8 J1 w l=bif(goP w l).1 then(goP w l).2 else(goP w l).2 ++ [w]
 | []=>rfl
 |y::l=>by
  have a:=d0o w l
  unfold S8 goP
  split
  ·rfl
  ·split
   ·rfl
   ·rw[a]
    cases (goP w l).1<;>rfl
theorem M0s(w:List Int)(h:P3 w):O05 w:=λk x a=>h x (List.mem_of_getElem? a)
def i05(w:List Int):Prop:=P3 w/\w.length<=1048576
theorem e0o(a b:List Int):H0 (J1 a b):=by
 have c:=U06 (a.length:Int) (b.length:Int)
 have d:∀ x y:List Int,H0 (i06 a09 x y):=λx=>by
  induction x with
  |nil=>intro y;cases y<;>(simp only[i06];decide)
  |cons p x e =>
   intro y
   cases y with
   |nil=>simp only[i06];decide
   |cons q y =>
    simp only[i06,thenC]
    split
    ·exact J0n _ _
    ·exact e y
 unfold J1 thenC
 split
 ·exact c
 ·exact d _ _
theorem P05(l:List (List Int))(w:List Int)(b:i05 w)(h:∀ x∈l,i05 x)(m:l.length<=1048576):∀(d k fuel:Nat) (acc:List (List Int)),k+d=l.length->d<fuel->acc.length<=k+1 ->
  J4 l w fuel true (k:Int) acc=some (true,acc++l.drop k)
 |d,k,0,acc,g,hf,f=>by omega
 |0,k,fuel+1,acc,g,hf,f=>by
  rw[J4.eq_2,if_neg (by simp;omega),M1 (by omega),List.append_nil]
 |d+1,k,fuel+1,acc,g,hf,f=>by
  have a:k<l.length:=by omega
  have e:=w5 a
  have i:=h _ (List.getElem_mem a)
  generalize l[k]=x at e i
  have n:=P05 l w b h m d (k+1) fuel (acc ++ [x]) (by omega) (by omega) (by simp;omega)
  rw[J4.eq_2,if_pos (by simp;omega),E3 e,oB,D02 (M0s w b.1) (M0s x i.1) (by have:=b.2;omega),oB,S0 (e0o _ _),oB]
  have j:∀ c:Bool,(bif c then(!true)else false)=false:=λc=>by cases c<;>rfl
  simp only[j,Bool.false_eq_true,if_false,oB,Z2 a (show l.length<=9223372036854775807 by omega),n,S0 (show(acc.length + [x].length)*24<=140737488355328 by simp;omega)]
  rw[V1 e]
  split<;>simp
theorem o08(l:List (List Int))(w:List Int)(b:i05 w)(e:∀ x∈l,i05 x)(f:l.length<=1048576):∀(d k fuel:Nat) (acc:List (List Int)),k+d=l.length->d<fuel->acc.length=k ->
  J4 l w fuel false (k:Int) acc=some ((goP w (l.drop k)).1,acc++(goP w (l.drop k)).2)
 |d,k,0,acc,i,hf,h=>by omega
 |0,k,fuel+1,acc,i,hf,h=>by
  rw[J4.eq_2,if_neg (by simp;omega),M1 (by omega)]
  simp[goP]
 |d+1,k,fuel+1,acc,i,hf,h=>by
  have a:k<l.length:=by omega
  have g:=w5 a
  have j:=e _ (List.getElem_mem a)
  generalize l[k]=x at g j
  have o:=o08 l w b e f d (k+1) fuel (acc ++ [x]) (by omega) (by omega) (by simp;omega)
  have p:=P05 l w b e f d (k+1) fuel (acc ++ [x]) (by omega) (by omega) (by simp;omega)
  have q:=P05 l w b e f d (k+1) fuel (acc ++ [w] ++ [x]) (by omega) (by omega) (by simp;omega)
  have s:=b.2
  rw[J4.eq_2,if_pos (by simp;omega),E3 g,oB,D02 (M0s w b.1) (M0s x j.1) (by omega),oB,S0 (e0o _ _),oB,V1 g]
  unfold goP
  have m:∀ c:Bool,(bif c then(!true)else false)=false:=λc=>by cases c<;>rfl
  have n:∀ c:Bool,(bif c then(!false)else false)=c:=λc=>by cases c<;>rfl
  by_cases h0:J1 w x=0
  ·rw[if_pos (by simpa using h0),m,if_neg (by simp),oB,S0 (by simp;omega),oB,Z2 a (by omega),p,if_neg (by omega),if_pos h0]
   simp
  ·rw[if_neg (by simpa using h0),n]
   by_cases h1:J1 w x<0
   ·rw[if_pos (by simpa using h1),S0 (by simp;omega),oB,List.nil_append,S0 (by simp;omega),oB,oB,S0 (by simp;omega),oB,Z2 a (by omega),q,if_pos h1]
    simp
   ·rw[if_neg (by simpa using h1),oB,S0 (by simp;omega),oB,Z2 a (by omega),o,if_neg h1,if_neg h0]
    simp
theorem k0g(l:List (List Int))(w:List Int)(c:i05 w)(a:∀ x∈l,i05 x)(b:l.length<=1048576):z01 l w=some (S8 J1 w l):=by
 unfold z01
 have h:=o08 l w c a b l.length 0 W0 [] (by omega) (N1 (by omega)) rfl
 rw[show((0:Nat):Int)=0 from rfl,List.drop_zero,List.nil_append]at h
 rw[h,oB,d0o]
 have d:(goP w l).2.length<=l.length+1:=by
  clear h b a
  induction l with
  |nil=>simp[goP]
  |cons y l e =>
   unfold goP
   split
   ·simp
   ·split
    ·simp
    ·simp only[List.length_cons];omega
 have:=c.2
 cases (goP w l).1 with
 |true=>rfl
 |false =>
  simp only[Bool.not_false,if_true,cond_false,List.nil_append]
  rw[S0 (by simp;omega),oB,S0 (by simp;omega),oB]
theorem r0b(a b:List Int):inv (a++b)=inv b++inv a:=by simp[inv]
theorem p08{w:List Int}(b:i05 w){k:Nat}(c:k<w.length):i05 (I01 w k):=by
 refine⟨λx a=>?_,by rw[o0b w (by omega)];exact b.2⟩
 rcases List.mem_append.1 a with a|a
 ·exact b.1 x (List.mem_of_mem_drop a)
 ·exact b.1 x (List.mem_of_mem_take a)
theorem z0l{w:List Int}(a:i05 w):i05 (inv w):=⟨c04 w,by rw[C9];exact a.2⟩
theorem M0c{l:List (List Int)}{w:List Int}(b:∀ x∈l,i05 x)(c:i05 w):∀ x∈S8 J1 w l,i05 x:=λx a=>by
 rcases(R03 d08 w x l).1 a with rfl|a
 ·exact c
 ·exact b x a
theorem s0b(w:List Int):∀ l:List (List Int),(S8 J1 w l).length<=l.length+1
 | []=>by simp[S8]
 |y::l=>by
  have:=s0b w l
  unfold S8
  split
  ·simp
  ·split
   ·simp
   ·simp only[List.length_cons];omega
theorem C0d{c:Type}(cf:c->c->Int):∀(a b l:List c),i5 cf l (a++b)=i5 cf (i5 cf l a) b
 | [],_,_=>rfl
 |x::a,b,l=>by simp only[List.cons_append,i5,C0d cf a b]
theorem l0g:∀(r l:List (List Int)),(i5 J1 l r).length<=l.length+r.length
 | [],l=>by simp[i5]
 |x::r,l=>by
  have a:=l0g r (S8 J1 x l)
  have b:=s0b x l
  simp only[i5,List.length_cons]
  omega
theorem D0d:∀(r l:List (List Int)),(∀ x∈r,i05 x)->(∀ x∈l,i05 x)->∀ x∈i5 J1 l r,i05 x
 | [],l,_,a=>a
 |x::r,l,b,a=>D0d r _ (λy c=>b y (mC _ c)) (M0c a (b x mS))
theorem E0d(w:List Int)(e:i05 w):∀(d k fuel:Nat) (u:List (List Int)),k+d=w.length->d<fuel->(∀ x∈u,i05 x)->u.length+2*d<=1048576 ->
  U4 w fuel u (k:Int)=some (i5 J1 u ((prs w).drop k).flatten)
 |d,k,0,u,g,hf,c,h=>by omega
 |0,k,fuel+1,u,g,hf,c,h=>by
  rw[U4.eq_2,if_neg (by simp;omega),M1 (by rw[K0s];omega)]
  rfl
 |d+1,k,fuel+1,u,g,hf,c,h=>by
  have b:k<w.length:=by omega
  have j:=e.2
  have a:=p08 e b
  have f:=z0l a
  have l:=s0b (I01 w k) u
  have m:=s0b (inv (I01 w k)) (S8 J1 (I01 w k) u)
  have i:=M0c c a
  rw[U4.eq_2,if_pos (by simp;omega),L0c w b j,oB,k0g u _ a c (by omega),oB,oB,Q00 _ (by have:=a.2;omega),oB,
   k0g _ _ f i (by omega),oB,Z2 b (by omega),E0d w e d (k+1) fuel _ (by omega) (by omega) (M0c i f) (by omega),V1 (L0s w b)]
  rfl
theorem m0r{w:List Int}(d:i05 w):∀ x∈(prs w).flatten,i05 x:=λx a=>by
 obtain⟨l,c,a⟩:=List.mem_flatten.1 a
 simp only[prs,List.mem_map,List.mem_range]at c
 obtain⟨k,b,rfl⟩:=c
 simp only[List.mem_cons,List.mem_nil_iff,or_false]at a
 rcases a with rfl|rfl
 ·exact p08 d b
 ·exact z0l (p08 d b)
theorem n0r(w:List Int):(prs w).flatten.length=2*w.length:=by
 have:∀ l:List Nat,(l.map λk=>[I01 w k,inv (I01 w k)]).flatten.length=2*l.length:=λl=>by
  induction l with
  |nil=>rfl
  |cons a l b=>simp only[List.map_cons,List.flatten_cons,List.length_append,b,List.length_cons,List.length_nil];omega
 unfold prs
 rw[this,List.length_range]
theorem F0d(r:Int)(a:List (List Int))(m:O1 (r,a)=true)(n:Y2 a)(j:∀ w∈a,i05 w)(l:a.length<=140737488355328):∀(d k fuel:Nat) (u:List (List Int)),k+d=a.length->d<fuel->(∀ x∈u,i05 x)->u.length+2*u06 (a.drop k)<=1048576 ->
  R3 a r fuel u (k:Int)=some (i5 J1 u (l0r (a.drop k)))
 |d,k,0,u,i,hf,c,b=>by omega
 |0,k,fuel+1,u,i,hf,c,b=>by
  have e:decide ((k:Int)<(a.length:Int))=false:=by simp;omega
  rw[R3.eq_2,e,Z3,oB,if_neg (by simp),M1 (by omega)]
  rfl
 |d+1,k,fuel+1,u,i,hf,c,b=>by
  have g:k<a.length:=by omega
  have h:=w5 g
  have f:=j _ (List.getElem_mem g)
  generalize a[k]=x at h f
  have e:decide ((k:Int)<(a.length:Int))=true:=by simp;omega
  rw[V1 h]at b ⊢
  simp only[u06]at b
  have o:=n0r x
  have p:=l0g (prs x).flatten u
  have h0:=E0d x f x.length 0 W0 u (by omega) (N1 (by have:=f.2;omega)) c (by omega)
  rw[show((0:Nat):Int)=0 from rfl,List.drop_zero]at h0
  rw[R3.eq_2,e,I2,d4 (r,a) l n,oB,m,if_pos (show(bif true then true else false)=true from rfl),E3 h,oB,h0,oB,Z2 g (by omega),
   F0d r a m n j l d (k+1) fuel _ (by omega) (by omega) (D0d _ _ (m0r f) c) (by omega)]
  simp only[l0r,C0d]
theorem N0s{w:List Int}{k:Nat}(c:k<w.length):∃ b,b<w.length/\inv (I01 w k)=I01 (inv w) b:=by
 have h:inv w=inv (w.drop k)++inv (w.take k):=by rw[←r0b,List.take_append_drop]
 rcases Nat.eq_zero_or_pos k with rfl|d
 ·refine⟨0,c,?_⟩
  simp[I01,inv]
 ·refine⟨w.length-k,by omega,?_⟩
  have a:(inv (w.drop k)).length=w.length-k:=by rw[C9,List.length_drop]
  unfold I01
  rw[r0b,h,List.drop_left' a,List.take_left' a]
theorem f0o(w:List Int)(x:List Int):x∈b09 w↔∃ k,k<w.length/\x=I01 w k:=by
 simp only[b09,List.mem_map,List.mem_range]
 constructor
 ·rintro⟨k,h,rfl⟩;exact⟨k,h,rfl⟩
 ·rintro⟨k,h,rfl⟩;exact⟨k,h,rfl⟩
theorem O0s(w:List Int)(x:List Int):x∈(prs w).flatten↔∃ k,k<w.length/\(x=I01 w k∨x=inv (I01 w k)):=by
 simp only[prs,List.mem_flatten,List.mem_map,List.mem_range]
 constructor
 ·rintro⟨l,⟨k,h,rfl⟩,a⟩
  simp only[List.mem_cons,List.mem_nil_iff,or_false]at a
  exact⟨k,h,a⟩
 ·rintro⟨k,h,a⟩
  exact⟨_,⟨k,h,rfl⟩,by simpa using a⟩
theorem P0s{w:List Int}{k:Nat}(c:k<w.length):∃ b,b<w.length/\I01 (inv w) k=inv (I01 w b):=by
 rcases Nat.eq_zero_or_pos k with rfl|d
 ·refine⟨0,c,?_⟩
  simp[I01,inv]
 ·refine⟨w.length-k,by omega,?_⟩
  have h:inv w=inv (w.drop (w.length-k))++inv (w.take (w.length-k)):=by rw[←r0b,List.take_append_drop]
  have a:(inv (w.drop (w.length-k))).length=k:=by rw[C9,List.length_drop];omega
  unfold I01
  rw[r0b,h,List.drop_left' a,List.take_left' a]
theorem A0l(x:List Int):∀ b:List (List Int),x∈y00 b↔x∈l0r b
 | []=>Iff.rfl
 |w::l=>by
  have c:=A0l x l
  simp only[y00,l0r,List.mem_append,c,O0s,f0o,C9]
  refine or_congr ⟨?_,?_⟩ Iff.rfl
  ·rintro(⟨k,h,rfl⟩|⟨k,h,rfl⟩)
   ·exact⟨k,h,.inl rfl⟩
   ·obtain⟨a,h',e⟩:=P0s h
    exact⟨a,h',.inr e⟩
  ·rintro⟨k,h,rfl|rfl⟩
   ·exact .inl ⟨k,h,rfl⟩
   ·obtain⟨a,h',e⟩:=N0s h
    exact .inr ⟨a,h',e⟩
theorem t0b(x y:List Int):eqW x y=true↔x=y:=by simp[eqW]
theorem z00(p:l0)(c:p.2.length<=140737488355328)(d:Y2 p.2):D5 p=some (O0 p):=by
 obtain⟨r,a⟩:=p
 unfold D5 O0
 cases hp:O1 (r,a)with
 |false =>
  have b:R3 a r W0 [] 0=some []:=by
   rw[show W0=(W0-1)+1 from rfl,R3.eq_2]
   by_cases e:decide ((0:Int)<(a.length:Int))=true
   ·rw[e,I2,d4 (r,a) c d,oB,hp,if_neg (by simp)]
   ·rw[Bool.not_eq_true]at e
    rw[e,Z3,oB,if_neg (by simp)]
  simp only[b,oB]
  rfl
 |true =>
  obtain⟨b,g,i⟩:=q0b hp
  simp only at b g i
  have h:=F0d r a hp d (λw f=>⟨(b w f).1,by have:=(b w f).2;omega⟩) c a.length 0 W0 [] (by omega) (N1 (by omega)) (by simp) (by simp only[List.drop_zero,List.length_nil];omega)
  rw[show((0:Nat):Int)=0 from rfl,List.drop_zero]at h
  simp only[h,oB,cond_true,B0q d08 t0b _ _ λx=>A0l x a]
theorem q02(p:l0):(∀ w∈O0 p,P3 w/\w.length<=24)/\(O0 p).length<=288:=by
 unfold O0
 cases hp:O1 p with
 |false=>simp
 |true =>
  obtain⟨g,n,o⟩:=q0b hp
  simp only[cond_true]
  constructor
  ·intro w f
   rw[K08 t0b]at f
   have:∀ a:List (List Int),(∀ u∈a,P3 u/\u.length<=24)->w∈y00 a->P3 w/\w.length<=24:=λa=>by
    induction a with
    |nil=>intro _ h;cases h
    |cons u l j =>
     intro c h
     have d:=c u mS
     simp only[y00,List.mem_append,f0o]at h
     rcases h with(⟨k,b,rfl⟩|⟨k,b,rfl⟩)|h
     ·exact⟨(p08 ⟨d.1,by omega⟩ b).1,by rw[o0b _ (by omega)];exact d.2⟩
     ·have v:=C9 u
      exact⟨(p08 ⟨c04 u,by omega⟩ b).1,by rw[o0b _ (by omega)];omega⟩
     ·exact j (λx i=>c x (mC _ i)) h
   exact this _ g f
  ·have e:=i0g p.2
   have q:(T0a J1 eqW (y00 p.2)).length<=(y00 p.2).length:=by
    unfold T0a
    have s:(N02 eqW (Z08 J1 (y00 p.2))).length<=(Z08 J1 (y00 p.2)).length:=by
     cases Z08 J1 (y00 p.2)with
     |nil=>simp[N02]
     |cons x m=>simp only[N02,List.length_cons];have:=(V06 eqW m x).length_le;omega
    have t:=(J08 J1 (y00 p.2)).length_eq
    omega
   omega
def cpl:List Int->List Int->Nat
 |x::a,y::b=>bif decide (x=y)then cpl a b+1 else 0
 |_,_=>0
theorem B03:∀ a b:List Int,cpl a b<=a.length/\cpl a b<=b.length
 | [],_=>by simp[cpl]
 |_::_,[]=>by simp[cpl]
 |x::a,y::b=>by
  have:=B03 a b
  simp only[cpl]
  cases decide (x=y)<;>simp only[cond_true,cond_false,List.length_cons]<;>omega
theorem d05:∀ a b:List Int,cpl a b=cpl b a
 | [],[]=>rfl
 | [],_::_=>rfl
 |_::_,[]=>rfl
 |x::a,y::b=>by
  simp only[cpl,d05 a b]
  by_cases h:x=y
  ·subst h;rfl
  ·have h' : ¬ y=x:=λe=>h e.symm
   simp[h,h']
theorem w06(a b:List Int)(l:a.length<=9223372036854775807):∀(d k fuel:Nat),k+d=a.length->d<fuel->k<=b.length ->
  G6 a b fuel (k:Int)=some ((k+cpl (a.drop k) (b.drop k):Nat):Int)
 |d,k,0,i,hf,h=>by omega
 |0,k,fuel+1,i,hf,h=>by
  have e:decide ((k:Int)<(a.length:Int))=false:=by simp;omega
  rw[G6.eq_2,e,M1 (by omega)]
  simp[chk,cpl]
 |d+1,k,fuel+1,i,hf,h=>by
  have j:k<a.length:=by omega
  have f:=w5 j
  generalize a[k]=x at f
  have e:decide ((k:Int)<(a.length:Int))=true:=by simp;omega
  rw[G6.eq_2,e]
  by_cases h2:k<b.length
  ·have g:=w5 h2
   generalize b[k]=y at g
   have c:decide ((k:Int)<(b.length:Int))=true:=by simp;omega
   have m:=w06 a b l d (k+1) fuel (by omega) (by omega) (by omega)
   rw[c,V1 f,V1 g]
   simp only[cond_true,I2,E3 f,E3 g,oB,cpl]
   by_cases hxy:x=y
   ·rw[if_pos (by simpa using hxy),Z2 j l,m]
    simp only[hxy,decide_true,cond_true]
    congr 2
    omega
   ·rw[if_neg (by simpa using hxy)]
    simp[hxy]
  ·have c:decide ((k:Int)<(b.length:Int))=false:=by simp;omega
   rw[c,M1 (xs:=b) (by omega)]
   simp only[cond_true,Z3,oB,cond_false]
   rw[if_neg (by simp)]
   cases a.drop k<;>simp[cpl]
theorem r04(a b:List Int)(c:a.length<=140737488355328):D9 a b=some ((cpl a b:Nat):Int):=by
 unfold D9
 have h:=w06 a b (by omega) a.length 0 W0 (by omega) (N1 c) (Nat.zero_le _)
 rw[show((0:Nat):Int)=0 from rfl]at h
 rw[h]
 simp
theorem z09(a b:List Int):∀(fuel:Nat) (k:Int),B7 a b fuel k=G6 a b fuel k
 |0,k=>rfl
 |fuel+1,k=>by
  rw[B7.eq_2,G6.eq_2]
  simp only[z09 a b fuel]
theorem h07(a b:List Int)(c:a.length<=140737488355328):R8 a b=some ((cpl a b:Nat):Int):=by
 rw[←r04 a b c]
 unfold R8 D9
 rw[z09]
def upT(a:List Int):List (List Int)->Nat->Nat
 | [],m=>m
 |b::l,m=>upT a l (max m (cpl a b))
def upI:List (List Int)->Nat->Nat
 | [],m=>m
 |a::l,m=>upI l (upT a l m)
theorem S0m(a:List Int)(B:Nat):∀(l:List (List Int)) (m:Nat),upT a l m<=B↔m<=B/\∀ b∈l,cpl a b<=B
 | [],m=>by simp[upT]
 |b::l,m=>by
  rw[upT,S0m a B l]
  simp only[List.mem_cons,forall_eq_or_imp,Nat.max_le,and_assoc]
theorem x0j(B:Nat):∀(l:List (List Int)) (m:Nat),upI l m<=B↔m<=B/\l.Pairwise λa b=>cpl a b<=B
 | [],m=>by simp[upI]
 |a::l,m=>by
  rw[upI,x0j B l,S0m,List.pairwise_cons,and_assoc]
def upS:List (List Int)->List (List Int)->Nat->Nat
 |_,[],m=>m
 |b,a::l,m=>upS (b ++ [a]) l (upT a b m)
theorem T0m(B:Nat):∀(l f:List (List Int)) (m:Nat),upS f l m<=B↔m<=B/\l.Pairwise (λa b=>cpl a b<=B)/\∀ a∈l,∀ b∈f,cpl a b<=B
 | [],f,m=>by simp[upS]
 |a::l,f,m=>by
  rw[upS,T0m B l,S0m,List.pairwise_cons]
  constructor
  ·rintro⟨⟨g,h⟩,i,e⟩
   refine⟨g,⟨λb c=>by rw[d05];exact e b c a (by simp),i⟩,λx d b c=>?_⟩
   rcases List.mem_cons.1 d with rfl|d
   ·exact h b c
   ·exact e x d b (by simp[c])
  ·rintro⟨g,⟨h,i⟩,e⟩
   refine⟨⟨g,λb c=>e a mS b c⟩,i,λx d b c=>?_⟩
   rcases List.mem_append.1 c with c|c
   ·exact e x (mC _ d) b c
   ·rw[List.mem_singleton.1 c,d05];exact h x d
theorem Q0s(l:List (List Int)):upS [] l 0=upI l 0:=by
 have a:upS [] l 0<=upI l 0:=by
  have:=(x0j (upI l 0) l 0).1 (Nat.le_refl _)
  exact(T0m _ l [] 0).2 ⟨this.1,this.2,by simp⟩
 have b:upI l 0<=upS [] l 0:=by
  have:=(T0m (upS [] l 0) l [] 0).1 (Nat.le_refl _)
  exact(x0j _ l 0).2 ⟨this.1,this.2.1⟩
 omega
def F01(l:List (List Int)):Prop:=∀ w∈l,w.length<=24
theorem R0u(x u:Nat):(if((x:Nat):Int)>((u:Nat):Int)then((x:Nat):Int)else((u:Nat):Int))=((max u x:Nat):Int):=by split<;>omega
theorem u0b(a:List Int)(l:List (List Int))(f:a.length<=24)(g:l.length<=140737488355328):∀(d k fuel m:Nat),k+d=l.length->d<fuel ->
  G5 l a fuel (m:Int) (k:Int)=some ((upT a (l.drop k) m:Nat):Int)
 |d,k,0,m,c,hf=>by omega
 |0,k,fuel+1,m,c,hf=>by
  rw[G5.eq_2,if_neg (by simp;omega),M1 (by omega)]
  rfl
 |d+1,k,fuel+1,m,c,hf=>by
  have e:k<l.length:=by omega
  have b:=w5 e
  generalize l[k]=x at b
  have h:=(B03 a x).1
  rw[G5.eq_2,if_pos (by simp;omega),E3 b,oB,r04 a x (by omega),oB,S0 ⟨by omega,by omega⟩,oB,R0u,Z2 e (by omega),
   u0b a l f g d (k+1) fuel _ (by omega) (by omega),V1 b]
  rfl
theorem X0h{a:Type}{xs:List a}{k:Nat}(h:k<xs.length)(b:xs.length<=140737488355328):X02 xs (IntKind.i64.wrap ((k:Int)+1)) (xs.length:Int)=some (xs.drop (k+1)):=by
 rw[Z2 h (by omega)]
 exact W02 (by omega)
theorem v0b(l:List (List Int))(f:F01 l)(e:l.length<=140737488355328):∀(d k fuel m:Nat),k+d=l.length->d<fuel ->
  H5 l fuel (m:Int) (k:Int)=some ((upI (l.drop k) m:Nat):Int)
 |d,k,0,m,c,hf=>by omega
 |0,k,fuel+1,m,c,hf=>by
  rw[H5.eq_2,if_neg (by simp;omega),M1 (by omega)]
  rfl
 |d+1,k,fuel+1,m,c,hf=>by
  have a:k<l.length:=by omega
  have b:=w5 a
  have g:=f _ (List.getElem_mem a)
  generalize l[k]=x at b g
  have h0:=u0b x (l.drop (k+1)) g (by simp;omega) (l.drop (k+1)).length 0 W0 m (by omega) (N1 (by simp;omega))
  rw[show((0:Nat):Int)=0 from rfl,List.drop_zero]at h0
  rw[H5.eq_2,if_pos (by simp;omega),E3 b,oB,X0h a e,oB,h0,oB,Z2 a (by omega),v0b l f e d (k+1) fuel _ (by omega) (by omega),V1 b]
  rfl
def S00(p:l0):Int:=((upI (O0 p) 0:Nat):Int)
theorem a0a(p:l0)(c:p.2.length<=140737488355328)(d:Y2 p.2):z9 p=some (S00 p):=by
 have a:=q02 p
 have b:=g9 p c d
 obtain⟨r,f⟩:=p
 unfold z9 S00
 simp only[b,oB]
 generalize O0 (r,f)=l at a
 have h:=v0b l (λw e=>(a.1 w e).2) (by omega) l.length 0 W0 0 (by omega) (N1 (by omega))
 rw[show((0:Nat):Int)=0 from rfl,List.drop_zero]at h
 rw[h]
 rfl
theorem B0l(a b:List Int):∀(l:List (List Int)) (m:Nat),upT a (l ++ [b]) m=max (upT a l m) (cpl a b)
 | [],m=>rfl
 |c::l,m=>by simp only[List.cons_append,upT,B0l a b l]
theorem C0l{a:Type}{xs:List a}{k:Nat}{x:a}(h:xs[k]?=some x):xs.take (k+1)=xs.take k ++ [x]:=by
 obtain⟨b,rfl⟩:=List.getElem?_eq_some_iff.1 h
 exact List.take_succ_eq_append_getElem b
theorem w0b(l:List (List Int))(h:F01 l)(m:l.length<=140737488355328){i:Nat}{a:List Int}(b:l[i]?=some a)(e:Nat):∀(d k fuel:Nat),k+d=i->d<fuel ->
  E5 (i:Int) l fuel ((upT a (l.take k) e:Nat):Int) (k:Int)=some ((upT a (l.take i) e:Nat):Int)
 |d,k,0,f,hf=>by omega
 |0,k,fuel+1,f,hf=>by
  rw[E5.eq_2,if_neg (by simp;omega),show k=i by omega]
 |d+1,k,fuel+1,f,hf=>by
  have p:=(List.getElem?_eq_some_iff.1 b).1
  have n:=h _ (List.mem_of_getElem? b)
  have g:k<l.length:=by omega
  have c:=w5 g
  generalize l[k]=x at c
  have o:=(B03 a x).1
  have j:=w0b l h m b e d (k+1) fuel (by omega) (by omega)
  rw[C0l c,B0l]at j
  rw[E5.eq_2,if_pos (by simp;omega),E3 b,oB,E3 c,oB,h07 a x (by omega),oB,S0 ⟨by omega,by omega⟩,oB,R0u,Z2 g (by omega),j]
theorem x0b(l:List (List Int))(f:F01 l)(e:l.length<=140737488355328):∀(d k fuel m:Nat),k+d=l.length->d<fuel ->
  F5 l fuel (m:Int) (k:Int)=some ((upS (l.take k) (l.drop k) m:Nat):Int)
 |d,k,0,m,b,hf=>by omega
 |0,k,fuel+1,m,b,hf=>by
  rw[F5.eq_2,if_neg (by simp;omega),M1 (by omega)]
  rfl
 |d+1,k,fuel+1,m,b,hf=>by
  have c:k<l.length:=by omega
  have a:=w5 c
  generalize l[k]=x at a
  have h0:=w0b l f e a m k 0 W0 (by omega) (N1 (by omega))
  rw[show((0:Nat):Int)=0 from rfl,List.take_zero]at h0
  rw[show upT x [] m=m from rfl]at h0
  rw[F5.eq_2,if_pos (by simp;omega),h0,oB,Z2 c (by omega),x0b l f e d (k+1) fuel _ (by omega) (by omega),V1 a,C0l a]
  rfl
theorem b0a(p:l0)(c:p.2.length<=140737488355328)(d:Y2 p.2):w9 p=some (S00 p):=by
 have a:=q02 p
 have b:=z00 p c d
 obtain⟨r,f⟩:=p
 unfold w9 S00
 simp only[b,oB]
 generalize O0 (r,f)=l at a
 have h:=x0b l (λw e=>(a.1 w e).2) (by omega) l.length 0 W0 0 (by omega) (N1 (by omega))
 rw[show((0:Nat):Int)=0 from rfl,List.drop_zero,List.take_zero,Q0s]at h
 rw[h]
 rfl
def six(a b:List Int):Prop:=6*cpl a b<a.length/\6*cpl a b<b.length
instance (a b:List Int):Decidable (six a b):=inferInstanceAs (Decidable (6*cpl a b<a.length/\6*cpl a b<b.length))
theorem o0r(a b:List Int):six a b↔six b a:=by unfold six;rw[d05];exact and_comm
def okT(a:List Int):List (List Int)->Bool
 | []=>true
 |b::l=>decide (six a b)&&okT a l
def okI:List (List Int)->Bool
 | []=>true
 |a::l=>okT a l&&okI l
theorem g0o(a:List Int):∀ l,okT a l=true↔∀ b∈l,six a b
 | []=>by simp[okT]
 |b::l=>by simp[okT,g0o a l]
theorem y0j:∀ l,okI l=true↔l.Pairwise six
 | []=>by simp[okI]
 |a::l=>by simp[okI,y0j l,g0o,List.pairwise_cons]
theorem R0s(a b:List Int)(c:a.length<=24):decide (IntKind.i64.wrap (6*((cpl a b:Nat):Int)) ≥ (if((b.length:Nat):Int)<((a.length:Nat):Int)then((b.length:Nat):Int)else((a.length:Nat):Int))) = !decide (six a b):=by
 have d:=(B03 a b).1
 rw[w64 (by omega) (by omega),←decide_not]
 apply decide_eq_decide.2
 unfold six
 split<;>omega
theorem G0d(a:List Int)(l:List (List Int))(c:a.length<=24)(g:l.length<=140737488355328):∀(d k fuel:Nat),k+d=l.length->d<fuel ->
  R7 l a fuel (k:Int)=some (bif okT a (l.drop k)then .inr ()else .inl false)
 |d,k,0,e,hf=>by omega
 |0,k,fuel+1,e,hf=>by
  rw[R7.eq_2,if_neg (by simp;omega),M1 (by omega)]
  rfl
 |d+1,k,fuel+1,e,hf=>by
  have f:k<l.length:=by omega
  have b:=w5 f
  generalize l[k]=x at b
  have i:=(B03 a x).1
  rw[R7.eq_2,if_pos (by simp;omega),E3 b,oB,r04 a x (by omega),oB,S0 ⟨by omega,by omega⟩,oB,R0s a x c,V1 b]
  simp only[okT]
  by_cases h:six a x
  ·rw[if_neg (by simp[h]),Z2 f (by omega),G0d a l c g d (k+1) fuel (by omega) (by omega)]
   simp[h]
  ·rw[if_pos (by simp[h])]
   simp[h]
theorem H0d(l:List (List Int))(f:F01 l)(e:l.length<=140737488355328):∀(d k fuel:Nat),k+d=l.length->d<fuel ->
  S7 l fuel (k:Int)=some (bif okI (l.drop k)then .inr ()else .inl false)
 |d,k,0,c,hf=>by omega
 |0,k,fuel+1,c,hf=>by
  rw[S7.eq_2,if_neg (by simp;omega),M1 (by omega)]
  rfl
 |d+1,k,fuel+1,c,hf=>by
  have a:k<l.length:=by omega
  have b:=w5 a
  have g:=f _ (List.getElem_mem a)
  generalize l[k]=x at b g
  have h0:=G0d x (l.drop (k+1)) g (by simp;omega) (l.drop (k+1)).length 0 W0 (by omega) (N1 (by simp;omega))
  rw[show((0:Nat):Int)=0 from rfl,List.drop_zero]at h0
  rw[S7.eq_2,if_pos (by simp;omega),E3 b,oB,X0h a e,oB,h0,oB,V1 b]
  simp only[okI]
  cases okT x (l.drop (k+1))with
  |false=>rfl
  |true =>
   simp only[cond_true,S0a,Bool.true_and]
   rw[Z2 a (by omega)]
   exact H0d l f e d (k+1) fuel (by omega) (by omega)
def A01(p:l0):Bool:=O1 p&&okI (O0 p)
theorem Q0g(p:l0)(a:p.2.length<=140737488355328)(b:Y2 p.2):V01 p=some (A01 p):=by
 have c:=q02 p
 have e:=g9 p a b
 have f:=t00 p a b
 obtain⟨r,d⟩:=p
 unfold V01 A01
 simp only[f,oB]
 cases O1 (r,d)with
 |false=>rfl
 |true =>
  rw[if_neg (by simp),e,oB]
  generalize O0 (r,d)=l at c
  have h:=H0d l (λw g=>(c.1 w g).2) (by omega) l.length 0 W0 (by omega) (N1 (by omega))
  rw[show((0:Nat):Int)=0 from rfl,List.drop_zero]at h
  rw[h,oB]
  cases okI l<;>rfl
def U0m(l:List (List Int))(i:Nat)(a:List Int):Nat->Nat->Bool
 |0,_=>true
 |d+1,k=>(bif decide (i=k)then true else match l[k]? with
  |some b=>decide (6*cpl a b<a.length)
  |none=>false)&&U0m l i a d (k+1)
theorem D0l(l:List (List Int))(i:Nat)(a:List Int):∀(d k:Nat),k+d=l.length->(U0m l i a d k=true↔∀ j b,k<=j->j≠i->l[j]?=some b->6*cpl a b<a.length)
 |0,k,h=>by
  constructor
  ·intro _ j b c _ n
   have:=(List.getElem?_eq_some_iff.1 n).1
   omega
  ·intro _;rfl
 |d+1,k,h=>by
  have q:k<l.length:=by omega
  have m:=w5 q
  generalize l[k]=x at m
  have s:=D0l l i a d (k+1) (by omega)
  simp only[U0m,m,Bool.and_eq_true,s]
  constructor
  ·rintro⟨c,n⟩ j b p g f
   by_cases e:j=k
   ·subst e
    rw[m]at f;cases f
    have:decide (i=j)=false:=by simp;exact λe=>g e.symm
    rw[this]at c
    simpa using c
   ·exact n j b (by omega) g f
  ·intro c
   refine⟨?_,λj b p g f=>c j b (by omega) g f⟩
   by_cases e:i=k
   ·simp[e]
   ·have:=c k x (Nat.le_refl _) (λo=>e o.symm) m
    simp[e,this]
theorem I0d(l:List (List Int))(m:F01 l)(o:l.length<=140737488355328){i:Nat}{a:List Int}(c:l[i]?=some a):∀(d k fuel:Nat),k+d=l.length->d<fuel ->
  P7 l (i:Int) fuel (k:Int)=some (bif U0m l i a d k then .inr ()else .inl false)
 |d,k,0,j,hf=>by omega
 |0,k,fuel+1,j,hf=>by
  rw[P7.eq_2,if_neg (by simp;omega)]
  rfl
 |d+1,k,fuel+1,j,hf=>by
  have p:=m _ (List.mem_of_getElem? c)
  have f:k<l.length:=by omega
  have g:=w5 f
  generalize l[k]=x at g
  have q:=(B03 a x).1
  have n:=I0d l m o c d (k+1) fuel (by omega) (by omega)
  rw[P7.eq_2,if_pos (by simp;omega)]
  simp only[U0m,g]
  by_cases e:i=k
  ·have b:(!decide (((i:Nat):Int)=((k:Nat):Int)))=false:=by simp[e]
   simp only[b,Z3,oB,cond_false,S0 (show H0 0 by decide),Bool.false_eq_true,if_false]
   rw[Z2 f (by omega),n]
   simp[e]
  ·have b:(!decide (((i:Nat):Int)=((k:Nat):Int)))=true:=by simp;omega
   simp only[b,I2,E3 c,E3 g,oB,cond_true,h07 a x (show a.length<=140737488355328 by omega),S0 (show H0 ((cpl a x:Nat):Int) from⟨by omega,by omega⟩)]
   rw[w64 (by omega) (by omega)]
   by_cases h:6*cpl a x<a.length
   ·rw[if_neg (by simp;omega),Z2 f (by omega),n]
    simp[e,h]
   ·rw[if_pos (by simp;omega)]
    simp[e,h]
def okS(l:List (List Int)):Nat->Nat->Bool
 |0,_=>true
 |d+1,i=>(match l[i]? with
  |some a=>U0m l i a l.length 0
  |none=>false)&&okS l d (i+1)
theorem J0d(l:List (List Int))(f:F01 l)(a:l.length<=140737488355328):∀(d k fuel:Nat),k+d=l.length->d<fuel ->
  Q7 l fuel (k:Int)=some (bif okS l d k then .inr ()else .inl false)
 |d,k,0,c,hf=>by omega
 |0,k,fuel+1,c,hf=>by
  rw[Q7.eq_2,if_neg (by simp;omega)]
  rfl
 |d+1,k,fuel+1,c,hf=>by
  have e:k<l.length:=by omega
  have b:=w5 e
  generalize l[k]=x at b
  have h0:=I0d l f a b l.length 0 W0 (by omega) (N1 a)
  rw[show((0:Nat):Int)=0 from rfl]at h0
  rw[Q7.eq_2,if_pos (by simp;omega),h0,oB]
  simp only[okS,b]
  cases U0m l k x l.length 0 with
  |false=>rfl
  |true =>
   simp only[cond_true,S0a,Bool.true_and]
   rw[Z2 e (by omega)]
   exact J0d l f a d (k+1) fuel (by omega) (by omega)
theorem h0o(l:List (List Int)):∀(d i:Nat),i+d=l.length->(okS l d i=true↔∀ n a,i<=n->l[n]?=some a->∀ j b,j≠n->l[j]?=some b->6*cpl a b<a.length)
 |0,i,h=>by
  constructor
  ·intro _ n a c o
   have:=(List.getElem?_eq_some_iff.1 o).1
   omega
  ·intro _;rfl
 |d+1,i,h=>by
  have q:i<l.length:=by omega
  have m:=w5 q
  generalize l[i]=x at m
  have s:=h0o l d (i+1) (by omega)
  simp only[okS,m,Bool.and_eq_true,s,D0l l i x l.length 0 (by omega)]
  constructor
  ·rintro⟨c,o⟩ n a p f j b g k
   by_cases e:n=i
   ·subst e
    rw[m]at f;cases f
    exact c j b (Nat.zero_le _) g k
   ·exact o n a (by omega) f j b g k
  ·intro c
   exact⟨λj b _ g k=>c i x (Nat.le_refl _) m j b g k,λn a p f=>c n a (by omega) f⟩
theorem S0s(l:List (List Int)):okS l l.length 0=okI l:=by
 rw[Bool.eq_iff_iff,h0o l l.length 0 (by omega),y0j,List.pairwise_iff_getElem]
 constructor
 ·intro h i j f d p
  have c:=h i l[i] (Nat.zero_le _) (w5 f) j l[j] (by omega) (w5 d)
  have e:=h j l[j] (Nat.zero_le _) (w5 d) i l[i] (by omega) (w5 f)
  rw[d05]at e
  exact⟨c,e⟩
 ·intro h n a _ o j b m d
  obtain⟨k,rfl⟩:=List.getElem?_eq_some_iff.1 o
  obtain⟨g,rfl⟩:=List.getElem?_eq_some_iff.1 d
  rcases Nat.lt_or_gt_of_ne m with c|c
  ·have:=(h j n g k c).2
   rw[d05]at this
   exact this
  ·exact(h n j k g c).1
theorem R0g(p:l0)(b:p.2.length<=140737488355328)(c:Y2 p.2):R00 p=some (A01 p):=by
 have d:=q02 p
 have f:=z00 p b c
 have g:=d4 p b c
 have a:O1 p=false->O0 p = []:=λh=>by unfold O0;rw[h];rfl
 obtain⟨r,e⟩:=p
 unfold R00 A01
 simp only[f,g,oB]
 generalize O0 (r,e)=l at d a
 have h:=J0d l (λw i=>(d.1 w i).2) (by omega) l.length 0 W0 (by omega) (N1 (by omega))
 rw[show((0:Nat):Int)=0 from rfl,S0s]at h
 rw[h,oB]
 cases hp:O1 (r,e)with
 |false =>
  rw[a hp]
  rfl
 |true=>cases okI l<;>rfl
def rd(w:List Int):List Int:=(t7 [] w).reverse
theorem Y0h{w:List Int}(h:P3 w):P3 (rd w):=Y09 _ h
theorem e04(w:List Int):(rd w).length<=w.length:=by have:=q01 w [];simp[rd]at *;omega
theorem B0t(a b:List Int):rd (rd a++b)=rd (a++b):=by unfold rd;rw[e0g]
theorem i07(w:List Int):rd (rd w)=rd w:=by have:=B0t w [];simpa using this
theorem A09(w:List Int)(a:w.length<=1099511627776):O7 w=some (rd w):=by
 unfold O7
 rw[H03 [w] (by simp) (by simp[u06];omega)]
 simp only[H0c,oB]
 rfl
theorem y0b(w:List Int)(h:P3 w)(a:w.length<=1099511627776):T1 w=some (rd w):=B8 w h a
def Q05(x:List Int)(a:Nat):List (List Int)->Option (List Int)
 | []=>none
 |s::l=>bif decide (s.length<2*cpl (x.drop a) s)then some (rd (x.take a++inv (s.drop (cpl (x.drop a) s))++x.drop (a+cpl (x.drop a) s)))else Q05 x a l
def i9(set:List (List Int))(x:List Int):Nat->Nat->Option (List Int)
 |0,_=>none
 |d+1,a=>match Q05 x a set with
  |some y=>some y
  |none=>i9 set x d (a+1)
theorem z0b(set:List (List Int))(i:F01 set)(m:set.length<=140737488355328)(x:List Int)(l:x.length<=1099511627000){a:Nat}(j:a<x.length):∀(d k fuel:Nat),k+d=set.length->d<fuel ->
  E9 set x (a:Int) fuel (k:Int)=some (match Q05 x a (set.drop k)with|some y => .inl (y,true)|none => .inr ())
 |d,k,0,f,hf=>by omega
 |0,k,fuel+1,f,hf=>by
  rw[E9.eq_2,if_neg (by simp;omega),M1 (by omega)]
  rfl
 |d+1,k,fuel+1,f,hf=>by
  have b:k<set.length:=by omega
  have c:=w5 b
  have n:=i _ (List.getElem_mem b)
  generalize set[k]=s at c n
  have e:=B03 (x.drop a) s
  have o:=z0b set i m x l j d (k+1) fuel (by omega) (by omega)
  rw[List.length_drop]at e
  rw[E9.eq_2,if_pos (by simp;omega),E3 c,oB,W02 (by omega),oB,r04 _ s (by simp;omega),oB,S0 ⟨by omega,by omega⟩,oB,V1 c]
  simp only[Q05]
  rw[w64 (by omega) (by omega)]
  by_cases h:s.length<2*cpl (x.drop a) s
  ·have g:=C9 (s.drop (cpl (x.drop a) s))
   rw[List.length_drop]at g
   rw[if_pos (by simp;omega),w0j (by omega),oB,W02 e.2,oB,d02 _ (by simp;omega),oB,
    show IntKind.i64.wrap ((a:Int)+((cpl (x.drop a) s:Nat):Int))=((a+cpl (x.drop a) s:Nat):Int) by rw[w64 (by omega) (by omega)];omega,
    W02 (by omega),oB,oB,H03 _ (by simp) (by simp only[u06,g,List.length_take,List.length_drop];omega),oB]
   simp only[h,decide_true,cond_true,H0c,rd,b00]
  ·rw[if_neg (by simp;omega),Z2 b (by omega),o]
   simp only[h,decide_false,cond_false]
theorem A0b(set:List (List Int))(f:F01 set)(a:set.length<=140737488355328)(x:List Int)(e:x.length<=1099511627000):∀(d k fuel:Nat),k+d=x.length->d<fuel ->
  F9 x set fuel (k:Int)=some (match i9 set x d k with|some y => .inl (y,true)|none => .inr ())
 |d,k,0,b,hf=>by omega
 |0,k,fuel+1,b,hf=>by
  rw[F9.eq_2,if_neg (by simp;omega)]
  rfl
 |d+1,k,fuel+1,b,hf=>by
  have c:k<x.length:=by omega
  have h0:=z0b set f a x e c set.length 0 W0 (by omega) (N1 a)
  rw[show((0:Nat):Int)=0 from rfl,List.drop_zero]at h0
  rw[F9.eq_2,if_pos (by simp;omega),h0,oB]
  simp only[i9]
  cases Q05 x k set with
  |some y=>rfl
  |none =>
   simp only[S0a]
   rw[Z2 c (by omega)]
   exact A0b set f a x e d (k+1) fuel (by omega) (by omega)
theorem p0r(set:List (List Int))(c:F01 set)(b:set.length<=140737488355328)(x:List Int)(a:x.length<=1099511627000):V02 set x=some (match i9 set x x.length 0 with|some y=>(y,true)|none=>(x,false)):=by
 unfold V02
 have h:=A0b set c b x a x.length 0 W0 (by omega) (N1 (by omega))
 rw[show((0:Nat):Int)=0 from rfl]at h
 rw[h,oB]
 cases i9 set x x.length 0<;>rfl
def c5(p:l0)(w:D0):D0×Bool:=match i9 (O0 p) (rd w) (rd w).length 0 with
 |some y=>(y,true)
 |none=>(rd w,false)
theorem m0g(p:l0)(c:p.2.length<=140737488355328)(d:Y2 p.2)(w:D0)(a:w.length<=1048576):r01 p w=some (c5 p w):=by
 have e:=q02 p
 have b:=g9 p c d
 have g:=e04 w
 obtain⟨r,f⟩:=p
 unfold r01 c5
 simp only[b,oB,A09 w (show w.length<=1099511627776 by omega)]
 rw[p0r _ (λw a=>(e.1 w a).2) (by omega) (rd w) (by omega)]
 cases i9 (O0 (r,f)) (rd w) (rd w).length 0<;>rfl
theorem B0b(set:List (List Int))(n:F01 set)(u:∀ b∈set,P3 b)(w:set.length<=140737488355328)(x:List Int)(g:P3 x)(v:x.length<=1099511627000){a:Nat}(s:a<x.length):∀(d k fuel:Nat),k+d=set.length->d<fuel ->
  g7 set x (a:Int) fuel (k:Int)=some (match Q05 x a (set.drop k)with|some y => .inl (y,true)|none => .inr ())
 |d,k,0,m,hf=>by omega
 |0,k,fuel+1,m,hf=>by
  rw[g7.eq_2,if_neg (by simp;omega),M1 (by omega)]
  rfl
 |d+1,k,fuel+1,m,hf=>by
  have e:k<set.length:=by omega
  have f:=w5 e
  have A:=n _ (List.getElem_mem e)
  generalize set[k]=b at f A
  have l:=B03 (x.drop a) b
  have B:=B0b set n u w x g v s d (k+1) fuel (by omega) (by omega)
  rw[List.length_drop]at l
  rw[g7.eq_2,if_pos (by simp;omega),W02 (by omega),oB,E3 f,oB,h07 _ b (by simp;omega),oB,S0 ⟨by omega,by omega⟩,oB,oB,V1 f]
  simp only[Q05]
  rw[w64 (by omega) (by omega)]
  by_cases h:b.length<2*cpl (x.drop a) b
  ·have c:=C9 (b.drop (cpl (x.drop a) b))
   rw[List.length_drop]at c
   have o:P3 (x.take a):=λy i=>g y (List.mem_of_mem_take i)
   have t:P3 (x.drop (a+cpl (x.drop a) b)):=λy i=>g y (List.mem_of_mem_drop i)
   have p:=D8 (x.take a) (inv (b.drop (cpl (x.drop a) b))) o (c04 _) (by simp only[c,List.length_take];omega)
   have z:=e04 (x.take a++inv (b.drop (cpl (x.drop a) b)))
   simp only[List.length_append,List.length_take,c]at z
   have j:=D8 (rd (x.take a++inv (b.drop (cpl (x.drop a) b)))) (x.drop (a+cpl (x.drop a) b)) (Y0h (L9 o (c04 _))) t (by simp only[List.length_drop];omega)
   have q:(t7 [] (rd (x.take a++inv (b.drop (cpl (x.drop a) b)))++x.drop (a+cpl (x.drop a) b))).reverse=rd (x.take a++inv (b.drop (cpl (x.drop a) b))++x.drop (a+cpl (x.drop a) b)):=B0t _ _
   rw[q]at j
   rw[if_pos (by simp;omega),w0j (by omega),oB,oB,W02 l.2,oB,Q00 _ (by simp;omega),oB,p,oB,
    show IntKind.i64.wrap ((a:Int)+((cpl (x.drop a) b:Nat):Int))=((a+cpl (x.drop a) b:Nat):Int) by rw[w64 (by omega) (by omega)];omega,
    W02 (by omega),oB]
   rw[show(t7 [] (x.take a++inv (b.drop (cpl (x.drop a) b)))).reverse=rd (x.take a++inv (b.drop (cpl (x.drop a) b))) from rfl,j,oB]
   simp only[h,decide_true,cond_true]
  ·rw[if_neg (by simp;omega),Z2 e (by omega),B]
   simp only[h,decide_false,cond_false]
theorem C0b(set:List (List Int))(g:F01 set)(c:∀ i∈set,P3 i)(a:set.length<=140737488355328)(x:List Int)(h:P3 x)(f:x.length<=1099511627000):∀(d k fuel:Nat),k+d=x.length->d<fuel ->
  i7 x set fuel (k:Int)=some (match i9 set x d k with|some y => .inl (y,true)|none => .inr ())
 |d,k,0,b,hf=>by omega
 |0,k,fuel+1,b,hf=>by
  rw[i7.eq_2,if_neg (by simp;omega)]
  rfl
 |d+1,k,fuel+1,b,hf=>by
  have e:k<x.length:=by omega
  have h0:=B0b set g c a x h f e set.length 0 W0 (by omega) (N1 a)
  rw[show((0:Nat):Int)=0 from rfl,List.drop_zero]at h0
  rw[i7.eq_2,if_pos (by simp;omega),h0,oB]
  simp only[i9]
  cases Q05 x k set with
  |some y=>rfl
  |none =>
   simp only[S0a]
   rw[Z2 e (by omega)]
   exact C0b set g c a x h f d (k+1) fuel (by omega) (by omega)
theorem q08(p:l0)(f:p.2.length<=140737488355328)(g:Y2 p.2)(w:D0)(b:P3 w)(a:w.length<=104857600):m00 p w=some (c5 p w):=by
 have c:=q02 p
 have e:=z00 p f g
 have i:=e04 w
 obtain⟨r,d⟩:=p
 unfold m00 c5
 simp only[e,oB,y0b w b (show w.length<=1099511627776 by omega)]
 have h:=C0b (O0 (r,d)) (λw a=>(c.1 w a).2) (λw a=>(c.1 w a).1) (by omega) (rd w) (Y0h b) (by omega) (rd w).length 0 W0 (by omega) (N1 (by omega))
 rw[show((0:Nat):Int)=0 from rfl]at h
 rw[h,oB]
 cases i9 (O0 (r,d)) (rd w) (rd w).length 0<;>rfl
theorem E0l(x:List Int)(a:Nat)(c:P3 x):∀(l:List (List Int)) (y:List Int),F01 l->Q05 x a l=some y->P3 y/\rd y=y/\y.length<=x.length+24
 | [],y,_,h=>by simp[Q05]at h
 |b::l,y,e,h=>by
  unfold Q05 at h
  cases hc:decide (b.length<2*cpl (x.drop a) b)with
  |false=>rw[hc]at h;exact E0l x a c l y (λw i=>e w (mC _ i)) h
  |true =>
   rw[hc]at h
   simp only[cond_true,Option.some.injEq]at h
   subst h
   have f:=e04 (x.take a++inv (b.drop (cpl (x.drop a) b))++x.drop (a+cpl (x.drop a) b))
   have g:=C9 (b.drop (cpl (x.drop a) b))
   have j:=e b mS
   simp only[List.length_append,List.length_take,List.length_drop]at f g
   refine⟨Y0h (L9 (L9 (λy d=>c y (List.mem_of_mem_take d)) (c04 _)) λy d=>c y (List.mem_of_mem_drop d)),i07 _,by omega⟩
theorem N0c(set:List (List Int))(a:F01 set)(x:List Int)(b:P3 x):∀(d k:Nat) (y:List Int),i9 set x d k=some y->P3 y/\rd y=y/\y.length<=x.length+24
 |0,k,y,h=>by simp[i9]at h
 |d+1,k,y,h=>by
  unfold i9 at h
  cases hh:Q05 x k set with
  |some z=>rw[hh]at h;cases h;exact E0l x k b set _ a hh
  |none=>rw[hh]at h;exact N0c set a x b d (k+1) y h
def t03(set:List (List Int)):Nat->List Int->Int->(D0×Int) ⊕ D0
 |0,u,_ => .inr u
 |d+1,u,n=>match i9 set u u.length 0 with
  |none => .inl (u,n)
  |some y=>t03 set d y (n+1)
theorem D0b(set:List (List Int))(a:F01 set)(f:set.length<=140737488355328):∀(d n fuel:Nat) (u:List Int),n+d=500->d<fuel->P3 u->u.length+24*d<=104857600 ->
  l6 set fuel u (n:Int)=some (t03 set d u (n:Int))
 |d,n,0,u,c,hf,b,e=>by omega
 |0,n,fuel+1,u,c,hf,b,e=>by
  rw[l6.eq_2,if_neg (by simp;omega)]
  rfl
 |d+1,n,fuel+1,u,c,hf,b,e=>by
  rw[l6.eq_2,if_pos (by simp;omega),p0r set a f u (by omega),oB]
  unfold t03
  cases hh:i9 set u u.length 0 with
  |none=>rfl
  |some y =>
   obtain⟨g,_,h⟩:=N0c set a u b _ _ _ hh
   dsimp only
   rw[if_neg (by simp),w64 (by omega) (by omega),show(n:Int)+1=((n+1:Nat):Int) by omega]
   exact D0b set a f d (n+1) fuel y (by omega) (by omega) g (by omega)
theorem E0b(r:Int)(a:L1)(f:a.length<=140737488355328)(h:Y2 a):∀(d n fuel:Nat) (u:List Int),n+d=500->d<fuel->P3 u->rd u=u->u.length+24*d<=104857600 ->
  j6 r a fuel u (n:Int)=some (t03 (O0 (r,a)) d u (n:Int))
 |d,n,0,u,e,hf,b,c,g=>by omega
 |0,n,fuel+1,u,e,hf,b,c,g=>by
  rw[j6.eq_2,if_neg (by simp;omega)]
  rfl
 |d+1,n,fuel+1,u,e,hf,b,c,g=>by
  have k:=q02 (r,a)
  rw[j6.eq_2,if_pos (by simp;omega),q08 (r,a) f h u b (by omega),oB]
  unfold t03 c5
  rw[c]
  cases hh:i9 (O0 (r,a)) u u.length 0 with
  |none=>rfl
  |some y =>
   obtain⟨i,j,m⟩:=N0c _ (λw l=>(k.1 w l).2) u b _ _ _ hh
   dsimp only
   rw[if_neg (by simp),w64 (by omega) (by omega),show(n:Int)+1=((n+1:Nat):Int) by omega]
   exact E0b r a f h d (n+1) fuel y (by omega) (by omega) i j (by omega)
def Q4(p:l0)(w:D0):D0×Int:=match t03 (O0 p) 500 (rd w) 0 with
 | .inl x=>x
 | .inr u=>(u,500)
theorem O0c(p:l0)(e:p.2.length<=140737488355328)(f:Y2 p.2)(w:D0)(c:P3 w)(a:w.length<=1048576):x00 p w=some (Q4 p w):=by
 have g:=q02 p
 have d:=g9 p e f
 have i:=e04 w
 obtain⟨r,b⟩:=p
 unfold x00 Q4
 simp only[d,oB,A09 w (show w.length<=1099511627776 by omega)]
 have h:=D0b (O0 (r,b)) (λw a=>(g.1 w a).2) (by omega) 500 0 W0 (rd w) (by omega) (N1 (by omega)) (Y0h c) (by omega)
 rw[show((0:Nat):Int)=0 from rfl]at h
 rw[h,oB]
 cases t03 (O0 (r,b)) 500 (rd w) 0<;>rfl
theorem P0c(p:l0)(c:p.2.length<=140737488355328)(d:Y2 p.2)(w:D0)(a:P3 w)(f:w.length<=1048576):w00 p w=some (Q4 p w):=by
 have e:=e04 w
 obtain⟨r,b⟩:=p
 unfold w00 Q4
 simp only[oB,y0b w a (show w.length<=1099511627776 by omega)]
 have h:=E0b r b c d 500 0 W0 (rd w) (by omega) (N1 (by omega)) (Y0h a) (i07 w) (by omega)
 rw[show((0:Nat):Int)=0 from rfl]at h
 rw[h,oB]
 cases t03 (O0 (r,b)) 500 (rd w) 0<;>rfl
theorem Q0c{x:List Int}{k:Nat}:∀ {l:List (List Int)},Q05 x k l=none->∀ c∈l,2*cpl (x.drop k) c<=c.length
 | [],_,c,b=>by cases b
 |a::l,h,c,b=>by
  unfold Q05 at h
  cases hc:decide (a.length<2*cpl (x.drop k) a)with
  |true=>rw[hc]at h;cases h
  |false =>
   rw[hc]at h
   rcases List.mem_cons.1 b with rfl|b
   ·have:=of_decide_eq_false hc
    omega
   ·exact Q0c h c b
theorem R0c{set:List (List Int)}{x:List Int}:∀ {d k:Nat},i9 set x d k=none->∀ i,k<=i->i<k+d->∀ a∈set,2*cpl (x.drop i) a<=a.length
 |0,k,_,i,e,f,a,b=>by omega
 |d+1,k,h,i,e,f,a,b=>by
  unfold i9 at h
  cases hh:Q05 x k set with
  |some z=>rw[hh]at h;cases h
  |none =>
   rw[hh]at h
   by_cases c:i=k
   ·subst c;exact Q0c hh a b
   ·exact R0c h i (by omega) (by omega) a b
def B05(x:List Int)(k:Nat)(s:List Int):List Int:=x.take k++inv (s.drop (cpl (x.drop k) s))++x.drop (k+cpl (x.drop k) s)
theorem S0c{x:List Int}{k:Nat}:∀ {l:List (List Int)} {y:List Int},Q05 x k l=some y->∃ b∈l,b.length<2*cpl (x.drop k) b/\y=rd (B05 x k b)
 | [],y,h=>by cases h
 |a::l,y,h=>by
  unfold Q05 at h
  cases hc:decide (a.length<2*cpl (x.drop k) a)with
  |true =>
   rw[hc]at h
   exact⟨a,mS,of_decide_eq_true hc,(oJ h).symm⟩
  |false =>
   rw[hc]at h
   obtain⟨b,e,c,d⟩:=S0c h
   exact⟨b,mC _ e,c,d⟩
theorem x04{set:List (List Int)}{x:List Int}:∀ {d k:Nat} {y:List Int},i9 set x d k=some y->∃ i,(k<=i/\i<k+d)/\∃ a∈set,a.length<2*cpl (x.drop i) a/\y=rd (B05 x i a)
 |0,k,y,h=>by cases h
 |d+1,k,y,h=>by
  unfold i9 at h
  cases hh:Q05 x k set with
  |some z =>
   rw[hh]at h
   obtain rfl:=oJ h
   obtain⟨a,b⟩:=S0c hh
   exact⟨k,⟨Nat.le_refl _,by omega⟩,a,b⟩
  |none =>
   rw[hh]at h
   obtain⟨i,c,b⟩:=x04 h
   exact⟨i,⟨by omega,by omega⟩,b⟩
theorem n0g:∀ a b:List Int,a.take (cpl a b)=b.take (cpl a b)
 | [],[]=>rfl
 | [],_::_=>by simp[cpl]
 |_::_,[]=>by simp[cpl]
 |x::a,y::b=>by
  unfold cpl
  by_cases h:x=y
  ·rw[decide_eq_true h,cond_true,List.take_succ_cons,List.take_succ_cons,n0g a b,h]
  ·rw[decide_eq_false h];rfl
theorem x06:∀ a b c:List Int,a.length<=cpl (a++b) (a++c)
 | [],b,c=>Nat.zero_le _
 |x::a,b,c=>by
  show a.length+1<=cpl (x::(a++b)) (x::(a++c))
  unfold cpl
  rw[decide_eq_true rfl,cond_true]
  have:=x06 a b c
  omega
theorem z0j(x:List Int)(k:Nat)(s:List Int):x=x.take k++s.take (cpl (x.drop k) s)++x.drop (k+cpl (x.drop k) s):=by
 have h:=n0g (x.drop k) s
 rw[←h,←List.drop_drop,List.append_assoc,List.take_append_drop,List.take_append_drop]
theorem T0c(x:List Int){k:Nat}(e:k<x.length){a:List Int}(h:a.length<2*cpl (x.drop k) a):(rd (B05 x k a)).length<x.length:=by
 have b:=e04 (B05 x k a)
 have c:=B03 (x.drop k) a
 have d:=C9 (a.drop (cpl (x.drop k) a))
 unfold B05 at b ⊢
 simp only[List.length_append,List.length_take,List.length_drop]at b c d
 omega
theorem F0l{set:List (List Int)}{Good:List Int->Prop}(b:∀ x,Good x->i9 set x x.length 0=none->x = [])(c:∀ x y,Good x->i9 set x x.length 0=some y->Good y):
  ∀(d:Nat) (x:List Int) (n:Int),Good x->x.length<d->(match t03 set d x n with | .inl z=>z | .inr u=>(u,500)).1 = []
 |0,x,n,_,h=>by omega
 |d+1,x,n,a,h=>by
  unfold t03
  cases hh:i9 set x x.length 0 with
  |none=>exact b x a hh
  |some y =>
   obtain⟨i,g,k,j,e,f⟩:=x04 hh
   have:=T0c x (by omega) e
   rw[←f]at this
   exact F0l b c d y (n+1) (c x y a hh) (by omega)
theorem o0g{p:l0}{Good:List Int->Prop}(a:∀ x,Good x->i9 (O0 p) x x.length 0=none->x = [])(b:∀ x y,Good x->i9 (O0 p) x x.length 0=some y->Good y){w:List Int}(c:Good (rd w))(d:w.length<500):(Q4 p w).1 = []:=by
 have:=F0l a b 500 (rd w) 0 c (by have:=e04 w;omega)
 unfold Q4
 cases hh:t03 (O0 p) 500 (rd w) 0 with
 |inl z=>rw[hh]at this;exact this
 |inr u=>rw[hh]at this;exact this
theorem i0o{set:List (List Int)}:∀(d:Nat) (x:List Int) (n:Int),(match t03 set d x n with | .inl z=>z | .inr u=>(u,500)).1.length<=x.length
 |0,x,n=>Nat.le_refl _
 |d+1,x,n=>by
  unfold t03
  cases hh:i9 set x x.length 0 with
  |none=>exact Nat.le_refl _
  |some y =>
   obtain⟨i,f,h,g,b,c⟩:=x04 hh
   have a:=T0c x (by omega) b
   rw[←c]at a
   have e:=i0o d y (n+1) (set:=set)
   simp only
   omega
theorem s0p(p:l0)(w:List Int):(Q4 p w).1.length<=w.length:=by
 have a:=i0o (set:=O0 p) 500 (rd w) 0
 have b:=e04 w
 unfold Q4
 cases hh:t03 (O0 p) 500 (rd w) 0 with
 |inl z=>rw[hh]at a;simp only at a ⊢;omega
 |inr u=>rw[hh]at a;simp only at a ⊢;omega
theorem A0j{w:List Int}(h:Lw w):inv w=neW w:=by
 unfold inv neW
 congr 1
 exact List.map_congr_left λx a=>d04 (h x a).1
theorem Lw.nz{w:List Int}(h:Lw w):nzW w:=λx a=>(h x a).2
theorem Lw.take{w:List Int}(h:Lw w)(n:Nat):Lw (w.take n):=λx a=>h x (List.mem_of_mem_take a)
theorem Lw.drop{w:List Int}(h:Lw w)(n:Nat):Lw (w.drop n):=λx a=>h x (List.mem_of_mem_drop a)
theorem Lw.rd{w:List Int}(h:Lw w):Lw (rd w):=λx a=>(Lw.nil.red h) x (List.mem_reverse.1 a)
variable {π:Pol}
theorem Pol.acts_red(o:π.OK):∀(w a:List Int) {b:Stk},π.Val b->Lw a->Lw w->π.acts b (t7 a w).reverse=π.acts (π.acts b a.reverse) w
 | [],a,b,h,_,_=>rfl
 |x::w,a,b,h,j,k=>by
  have p:=k x mS
  have n:Lw w:=λy i=>k y (mC _ i)
  have l:Lw (C4 a x):=λy i=>(I0c i).elim (j y) (λe=>by rw[e];exact p)
  have q:=Pol.acts_red o w (C4 a x) h l n
  have s:π.acts b (C4 a x).reverse=π.act (π.acts b a.reverse) x:=by
   cases a with
   |nil=>rfl
   |cons m t =>
    have d:=j m mS
    by_cases c:x = -m
    ·have f:h02 m x=true:=(k03 d.1 d.2).2 c
     have g:C4 (m::t) x=t:=by
      unfold C4
      simp only[f,cond_true,if_true]
     rw[g,List.reverse_cons,Pol.acts_app,c]
     exact(Pol.act_inv o (Pol.val_acts o _ h) d.2).symm
    ·have f:h02 m x=false:=Bool.eq_false_iff.2 λh=>c ((k03 d.1 d.2).1 h)
     have g:C4 (m::t) x=x::m::t:=by
      unfold C4
      simp only[f,cond_false,Bool.false_eq_true,if_false]
     rw[g,List.reverse_cons,Pol.acts_app];rfl
  show π.acts b (t7 (C4 a x) w).reverse=π.acts (π.act (π.acts b a.reverse) x) w
  rw[q,s]
theorem Pol.triv_rd(o:π.OK){w:List Int}(c:Lw w)(h:π.triv w):π.triv (rd w):=λb a=>by
 have:=Pol.acts_red o w [] a Lw.nil c
 unfold rd
 rw[this]
 exact h b a
theorem Pol.triv_step(o:π.OK){x a:List Int}{k:Nat}(j:Lw x)(c:Lw a)(h:π.triv x)(m:π.triv a):π.triv (rd (B05 x k a)):=by
 have l:Lw (B05 x k a):=((j.take _).app (c.drop _).inv).app (j.drop _)
 refine Pol.triv_rd o l λe i=>?_
 have b:=h e i
 rw[z0j x k a]at b
 rw[Pol.acts_app,Pol.acts_app]at b
 unfold B05
 rw[Pol.acts_app,Pol.acts_app,A0j (c.drop _)]
 have d:=Pol.val_acts o (x.take k) i
 generalize π.acts e (x.take k)=S1 at b d
 have f:=m S1 d
 rw[←List.take_append_drop (cpl (x.drop k) a) a,Pol.acts_app]at f
 have g:=Pol.acts_neW o (a.drop (cpl (x.drop k) a)) (Pol.val_acts o (a.take (cpl (x.drop k) a)) d) (c.drop _).nz
 rw[f]at g
 rw[g];exact b
theorem S0u{A B:List Int}{y:Int}(c:Lw A)(b:l8 y)(h0:y≠0)(h:rd (A ++ [y,-y]++B)=A ++ [y,-y]++B):False:=by
 have e:rd (A ++ [y,-y]++B)=rd (A++B):=by
  unfold rd
  rw[b00,b00,b00]
  have:t7 (t7 [] A) [y,-y]=t7 [] A:=by
   have:=W0h (W03 A [] rfl) (Lw.nil.red c) b h0
   rw[d04 b]at this
   exact this
  rw[this]
 have a:=e04 (A++B)
 rw[←e,h]at a
 simp only[List.length_append,List.length_cons,List.length_nil]at a
 omega
theorem j0o(a b:List Int):neW (a++b)=neW b++neW a:=by unfold neW;simp
theorem Pol.irr_of(o:π.OK){set:List (List Int)}(p:∀ e,π.pos e=true->π.run e (π.ln e)∈set)(q:∀ e,π.pos e=true->neW (π.run e (π.ln e))∈set){x:List Int}(l:Lw x)(k:rd x=x)(t:i9 set x x.length 0=none):π.Irr x:=by
 have j:=R0c t
 refine⟨λA B z n e b=>?_,λA B z n e b=>?_,λA B y e=>?_⟩
 ·by_cases c:n=0
  ·omega
  ·have g:=Pol.run_len (π:=π) z n
   have:=j A.length (Nat.zero_le _) (by rw[e];simp only[List.length_append,g];omega) _ (p z b)
   rw[e,List.append_assoc,List.drop_left,Pol.run_len]at this
   by_cases d:n<=π.ln z
   ·have a:=Pol.run_add (π:=π) n (π.ln z-n) z
    rw[show n+(π.ln z-n)=π.ln z by omega]at a
    rw[a]at this
    have f:=x06 (π.run z n) B (π.run (π.it z n) (π.ln z-n))
    omega
   ·have a:=Pol.run_add (π:=π) (π.ln z) (n-π.ln z) z
    rw[show π.ln z+(n-π.ln z)=n by omega]at a
    rw[a,List.append_assoc]at this
    have f:=x06 (π.run z (π.ln z)) (π.run (π.it z (π.ln z)) (n-π.ln z)++B) []
    rw[List.append_nil,Pol.run_len]at f
    have:=o.one z b
    omega
 ·by_cases c:n=0
  ·omega
  ·have g:(neW (π.run z n)).length=n:=by unfold neW;rw[List.length_reverse,List.length_map,Pol.run_len]
   have C:=o.itp b n
   have w:=o.itl b n
   have:=j A.length (Nat.zero_le _) (by rw[e];simp only[List.length_append,g];omega) _ (q _ C)
   have i:(neW (π.run (π.it z n) (π.ln z))).length=π.ln z:=by unfold neW;rw[List.length_reverse,List.length_map,Pol.run_len]
   rw[e,List.append_assoc,List.drop_left,w,i]at this
   by_cases d:n<=π.ln z
   ·have a:=Pol.run_add (π:=π) (π.ln z-n) n (π.it z n)
    rw[show π.ln z-n+n=π.ln z by omega,Pol.it_add,show n+(π.ln z-n)=π.ln z by omega,o.per z b]at a
    rw[a,j0o]at this
    have f:=x06 (neW (π.run z n)) B (neW (π.run (π.it z n) (π.ln z-n)))
    omega
   ·have a:=Pol.run_add (π:=π) (n-π.ln z) (π.ln z) z
    rw[show n-π.ln z+π.ln z=n by omega]at a
    have u:π.it z (n-π.ln z)=π.it z n:=by
     have:=Pol.it_add (π:=π) (π.it z (n-π.ln z)) 0 (π.ln z)
     have h:=o.per _ (o.itp b (n-π.ln z))
     rw[o.itl b,Pol.it_add,show n-π.ln z+π.ln z=n by omega]at h
     exact h.symm
    rw[a,u,j0o,List.append_assoc]at this
    have f:=x06 (neW (π.run (π.it z n) (π.ln z))) (neW (π.run z (n-π.ln z))++B) []
    rw[List.append_nil,i]at f
    have:=o.one z b
    omega
 ·have s:Lw A:=λv D=>l v (by rw[e];simp[D])
  have m:=l y (by rw[e];simp)
  rw[e]at k
  exact S0u s m.1 m.2 k
theorem Pol.dehn(o:π.OK){p:l0}(d:∀ e,π.pos e=true->π.run e (π.ln e)∈O0 p)(f:∀ e,π.pos e=true->neW (π.run e (π.ln e))∈O0 p)(g:∀ b∈O0 p,Lw b/\π.triv b){w:List Int}(c:Lw w)(l:π.triv w)(h:w.length<500):(Q4 p w).1 = []:=by
 refine o0g (Good:=λx=>Lw x/\rd x=x/\π.triv x) (λx a j=>?_) (λx y a m=>?_) ⟨c.rd,i07 w,Pol.triv_rd o c l⟩ h
 ·exact Pol.irr_nil o (Pol.irr_of o d f a.1 a.2.1 j) a.1.nz a.2.2
 ·obtain⟨i,q,b,k,n,rfl⟩:=x04 m
  have:=g b k
  exact⟨Lw.rd (((a.1.take _).app (this.1.drop _).inv).app (a.1.drop _)),i07 _,Pol.triv_step o a.1 this.1 a.2.2 this.2⟩
theorem i04(u g:List Int)(a:P3 u)(c:P3 g)(e:u.length+2*g.length<=1099511627776):L7 u g=some (j03 u g):=by
 unfold L7
 have d:=C9 g
 have b:=q01 (inv g++u) []
 simp only[List.length_append,List.length_nil]at b
 rw[Q00 g (by omega),oB,D8 _ _ (c04 g) a (by omega),oB,D8 _ _ (Y09 _ (L9 (c04 g) a)) c (by simp only[List.length_reverse];omega),oB,
  e0g]
 rfl
theorem j04(u g:List Int)(b:u.length+2*g.length<=1099511627776):N7 u g=some (j03 u g):=by
 unfold N7
 have a:=C9 g
 rw[d02 g (by omega),oB,H03 _ (by simp) (by simp only[u06];omega),oB]
 simp only[H0c,j03,b00]
def C7(rel:List (List Int)):List i00->List (List Int)
 | []=>[]
 |t::r=>match inR 0 ((rel.length:Int)-1) t.2.1,rel[t.2.1.toNat]? with
  |true,some u=>j03 (bif decide (t.2.2<0)then inv u else u) t.1::C7 rel r
  |_,_=>C7 rel r
def B3(x:l0)(ts:C01):D0:=bif O1 x then(H0c [] (C7 x.2 (ts.take 20))).reverse else []
set_option maxRecDepth 20000
def pI(a b:Nat):Pol:=⟨λx=>(decide (x=1)&&decide (0<a)) || (decide (x=2)&&decide (0<b)),λx=>x,λx=>if x=1 then a else b⟩
theorem C0t(a b:Nat)(x:Int):∀ m,(pI a b).it x m=x
 |0=>rfl
 |m+1=>C0t a b x m
theorem V0m{a b:Nat}{x:Int}(h:(pI a b).pos x=true):(x=1/\0<a)∨(x=2/\0<b):=by
 simpa [pI] using h
theorem T0u(a b:Nat):(pI a b).OK where
 neg:=λx h=>by
  rcases V0m h with⟨rfl,_⟩|⟨rfl,_⟩
  ·simp[pI]
  ·simp[pI]
 nxp:=λx h=>h
 inj:=λx y _ _ h=>h
 lnx:=λx _=>rfl
 one:=λx h=>by
  rcases V0m h with⟨rfl,k⟩|⟨rfl,k⟩
  ·exact k
  ·exact k
 per:=λx _=>C0t a b x _
def pII(e:Int)(j:Nat):Pol:=⟨λx=>decide (x=1) || decide (x=2*e),λx=>if x=1 then 2*e else 1,λ_=>2*j⟩
theorem p0e{e:Int}{j:Nat}{x:Int}(h:(pII e j).pos x=true):x=1∨x=2*e:=by
 simpa [pII] using h
theorem B0j{e:Int}(a:e=1∨e = -1){j:Nat}{x:Int}(h:(pII e j).pos x=true):(pII e j).nx ((pII e j).nx x)=x:=by
 rcases p0e h with rfl|rfl
 ·show(if(if(1:Int)=1 then 2*e else 1)=1 then 2*e else 1)=1
  rw[if_pos rfl,if_neg (by omega)]
 ·show(if(if 2*e=1 then 2*e else 1)=1 then 2*e else 1)=2*e
  rw[if_neg (show ¬ 2*e=1 by omega),if_pos rfl]
theorem k0o{e:Int}(a:e=1∨e = -1){j:Nat}{x:Int}(h:(pII e j).pos x=true):∀ m,(pII e j).it x (2*m)=x
 |0=>rfl
 |m+1=>by
  show(pII e j).nx ((pII e j).nx ((pII e j).it x (2*m)))=x
  rw[k0o a h m]
  exact B0j a h
theorem j0u{e:Int}(a:e=1∨e = -1){j:Nat}(d:1<=j):(pII e j).OK where
 neg:=λx h=>by
  rcases p0e h with rfl|rfl
  ·simp only[pII,Bool.or_eq_false_iff,decide_eq_false_iff_not];omega
  ·simp only[pII,Bool.or_eq_false_iff,decide_eq_false_iff_not];omega
 nxp:=λx h=>by
  rcases p0e h with rfl|rfl
  ·simp[pII]
  ·have : ¬ 2*e=1:=by omega
   simp[pII,this]
 inj:=λx y b c h=>by rw[←B0j a b,←B0j a c,h]
 lnx:=λx _=>rfl
 one:=λx _=>by show 1<=2*j;omega
 per:=λx h=>k0o a h j
def U0u(π:Pol)(b:List Int)(a:List Int):Bool:=b.any λe=>π.pos e&&(decide (a=π.run e (π.ln e)) || decide (a=neW (π.run e (π.ln e))))
def Z0h(π:Pol)(a:List Int)(rel:List (List Int)):Bool :=
 (y00 rel).all (λb=>U0u π a b&&b.all λx=>decide (x≠0)&&(decide (-3<=x)&&decide (x<=3)))&&a.all λe => !π.pos e || (decide (π.run e (π.ln e)∈y00 rel)&&decide (neW (π.run e (π.ln e))∈y00 rel))
def t0p(w:List Int):Bool:=w.all λx=>decide (x=1) || decide (x = -1)
def u0p(w:List Int):Bool:=w.all λx=>decide (x=2) || decide (x = -2)
def q0r(w:List Int):Int:=match w with
 |x::y::_=>if 0<x*y then 1 else -1
 |_=>1
def G0l(rel:List (List Int)):Bool:=match rel.find? λw => !t0p w && !u0p w with
 |some w=>decide (1<=w.length / 2)&&Z0h (pII (q0r w) (w.length / 2)) [1,2*q0r w] rel
 |none=>Z0h (pI ((rel.find? t0p).elim 0 List.length) ((rel.find? u0p).elim 0 List.length)) [1,2] rel
theorem T0s(w:List Int):q0r w=1∨q0r w = -1:=by
 unfold q0r
 split
 ·split
  ·exact .inl rfl
  ·exact .inr rfl
 ·exact .inl rfl
theorem U0s{rel:List (List Int)}(h:G0l rel=true):∃ π b,π.OK/\Z0h π b rel=true/\∀ e,π.pos e=true->e∈b:=by
 unfold G0l at h
 split at h
 ·rename_i w _
  simp only[Bool.and_eq_true,decide_eq_true_eq]at h
  refine⟨_,_,j0u (T0s w) h.1,h.2,λe a=>?_⟩
  rcases p0e a with rfl|rfl
  ·simp
  ·simp
 ·refine⟨_,_,T0u _ _,h,λe a=>?_⟩
  rcases V0m a with⟨rfl,_⟩|⟨rfl,_⟩
  ·simp
  ·simp
theorem F0b{r:Int}{rel:List (List Int)}(h:O1 (r,rel)=true)(s:List Int):s∈O0 (r,rel)↔s∈y00 rel:=by
 unfold O0
 rw[h]
 exact K08 t0b s _
theorem v0p{π:Pol}(o:π.OK){n:List Int}{rel:List (List Int)}(h:Z0h π n rel=true):∀ a∈y00 rel,Lw a/\π.triv a:=λa m=>by
 unfold Z0h at h
 rw[Bool.and_eq_true]at h
 have b:=List.all_eq_true.1 h.1 a m
 simp only[Bool.and_eq_true]at b
 have i:Lw a:=λx d=>by
  have:=List.all_eq_true.1 b.2 x d
  simp only[Bool.and_eq_true,decide_eq_true_eq]at this
  exact⟨⟨⟨by omega,by omega⟩,by omega⟩,this.1⟩
 refine⟨i,?_⟩
 obtain⟨e,_,g⟩:=List.any_eq_true.1 b.1
 simp only[Bool.and_eq_true,Bool.or_eq_true,decide_eq_true_eq]at g
 obtain⟨j,rfl|rfl⟩:=g
 ·exact λk c=>Pol.run_full o c j
 ·have l:nzW (π.run e (π.ln e)):=λx d=>by
   have f:=i.nz.ne
   rw[u0j]at f
   exact f x d
  exact Pol.triv_ne o l λk c=>Pol.run_full o c j
theorem r0r{rel:List (List Int)}(h:G0l rel=true){r:Int}(d:O1 (r,rel)=true){w:List Int}(n:Lw w)(j:w.length<500)(m:∀ π:Pol,π.OK->(∀ b∈y00 rel,Lw b/\π.triv b)->π.triv w):(Q4 (r,rel) w).1 = []:=by
 obtain⟨π,p,o,g,k⟩:=U0s h
 have f:=v0p o g
 have c:=g
 unfold Z0h at c
 rw[Bool.and_eq_true]at c
 have i:∀ e,π.pos e=true->π.run e (π.ln e)∈y00 rel/\neW (π.run e (π.ln e))∈y00 rel:=λe a=>by
  have:=List.all_eq_true.1 c.2 e (k e a)
  rw[a]at this
  simpa using this
 exact Pol.dehn o (λe a=>(F0b d _).2 (i e a).1) (λe a=>(F0b d _).2 (i e a).2) (λb l=>f b ((F0b d b).1 l)) n (m π o f) j
theorem a0i{w:List Int}(h:w≠[]):w∈b09 w:=by
 unfold b09
 refine List.mem_map.2 ⟨0,List.mem_range.2 (List.length_pos_iff.2 h),?_⟩
 simp[I01]
theorem w0p{rel:List (List Int)}:∀ {u:List Int},u∈rel->u≠[]->u∈y00 rel/\inv u∈y00 rel:=by
 induction rel with
 |nil=>intro u h;cases h
 |cons r l b =>
  intro u h a
  rcases List.mem_cons.1 h with rfl|h
  ·refine⟨?_,?_⟩
   ·simp only[y00,List.mem_append];exact .inl (.inl (a0i a))
   ·simp only[y00,List.mem_append]
    refine .inl (.inr (a0i λc=>a ?_))
    have:=C9 u
    rw[c]at this
    exact List.length_eq_zero_iff.1 this.symm
  ·have:=b h a
   simp only[y00,List.mem_append]
   exact⟨.inr this.1,.inr this.2⟩
theorem e05:∀(b:List (List Int)) (a:List Int),H0c a b=t7 a b.flatten
 | [],a=>rfl
 |w::r,a=>by
  show H0c (t7 a w) r=_
  rw[e05 r,List.flatten_cons,b00]
theorem W01{rel:List (List Int)}:∀ {ts:List i00} {c:List Int},c∈C7 rel ts->∃ t∈ts,∃ u∈rel,c=j03 u t.1∨c=j03 (inv u) t.1
 | [],c,h=>by cases h
 |t::ts,c,h=>by
  unfold C7 at h
  split at h
  ·rename_i u f e
   have d:=List.mem_of_getElem? e
   rcases List.mem_cons.1 h with rfl|h
   ·refine⟨t,mS,u,d,?_⟩
    cases decide (t.2.2<0)
    ·exact .inl rfl
    ·exact .inr rfl
   ·obtain⟨b,a,x⟩:=W01 h
    exact⟨b,mC _ a,x⟩
  ·obtain⟨b,a,x⟩:=W01 h
   exact⟨b,mC _ a,x⟩
theorem p0g{rel:List (List Int)}:∀ ts:List i00,(C7 rel ts).length<=ts.length
 | []=>Nat.le_refl _
 |t::ts=>by
  have:=p0g (rel:=rel) ts
  unfold C7
  split
  ·simp only[List.length_cons];omega
  ·simp only[List.length_cons];omega
theorem T08{u g:List Int}(b:Lw u)(a:Lw g):Lw (j03 u g):=λx c=>(Lw.nil.red ((a.inv.app b).app a)) x (List.mem_reverse.1 c)
theorem b0i{π:Pol}(o:π.OK){u g:List Int}(b:Lw u)(a:Lw g)(h:π.triv u):π.triv (j03 u g):=by
 show π.triv (rd (inv g++u++g))
 refine Pol.triv_rd o ((a.inv.app b).app a) ?_
 rw[A0j a]
 exact Pol.triv_conj o a.nz h
theorem c0i{π:Pol}:∀ {a:List (List Int)},(∀ w∈a,π.triv w)->π.triv a.flatten
 | [],_=>λc _=>rfl
 |w::r,h=>by
  rw[List.flatten_cons]
  exact Pol.triv_app (h w mS) (c0i λx b=>h x (mC _ b))
theorem s04:∀ {a:List (List Int)},(∀ w∈a,Lw w)->Lw a.flatten
 | [],_=>Lw.nil
 |w::r,h=>by
  rw[List.flatten_cons]
  exact(h w mS).app (s04 λx b=>h x (mC _ b))
theorem x0p{rel:List (List Int)}(l:∀ u∈rel,Lw u/\u≠[]){ts:List i00}(f:∀ t∈ts,Lw t.1){π:Pol}(o:π.OK)(h:∀ k∈y00 rel,Lw k/\π.triv k):π.triv (H0c [] (C7 rel ts)).reverse:=by
 have g:∀ c∈C7 rel ts,Lw c/\π.triv c:=λc a=>by
  obtain⟨t,d,u,j,e⟩:=W01 a
  have b:=l u j
  have i:=w0p j b.2
  rcases e with rfl|rfl
  ·exact⟨T08 b.1 (f t d),b0i o b.1 (f t d) (h _ i.1).2⟩
  ·exact⟨T08 b.1.inv (f t d),b0i o b.1.inv (f t d) (h _ i.2).2⟩
 rw[e05]
 exact Pol.triv_rd o (s04 λc a=>(g c a).1) (c0i λc a=>(g c a).2)
def L4:List Int:=[1,-1,2,-2]
def W4:List (List Int):=(L4.map λa=>[a])++(L4.flatMap λa=>L4.map λb=>[a,b])++(L4.flatMap λa=>L4.flatMap λb=>L4.map λc=>[a,b,c])++(L4.flatMap λa=>L4.flatMap λb=>L4.flatMap λc=>L4.map λd=>[a,b,c,d])
def H0l(rel:List (List Int)):Bool:=okI (T0a J1 eqW (y00 rel))
def P2s:List (List Int):=[[1,2],[2,1],[-1,-2],[-2,-1],[1,-2],[-2,1],[-1,2],[2,-1]]
def Z1:List (List Int):=(L4.flatMap λa=>[1,2,3,4].map λk=>List.replicate k a)++P2s++P2s.map λw=>w++w
theorem V0u:(W4.all λw => !Red w.reverse || !U09 [w] || (!H0l [w] || decide (w∈Z1)))=true:=by decide +kernel
def cc(u v:List Int):Bool :=
 if t0p u&&t0p v then decide (u.length=v.length)else if u0p u&&u0p v then decide (u.length=v.length)else if(t0p u&&u0p v) || (u0p u&&t0p v)then true else decide (v∈y00 [u])
theorem W0u:(Z1.all λu=>Z1.all λv => !H0l [u,v] || cc u v)=true:=by decide +kernel
theorem C0j:(Z1.all λu=>G0l [u]&&Z1.all λv => !cc u v || (G0l [u,v]&&Z1.all λw => !(cc u w&&cc v w) || G0l [u,v,w]))=true:=by decide +kernel
def KN:List (List (List Int)):=([1,2,3,4,5,6,7].map λk=>[List.replicate k 1])++([1,2,3,4].map λk=>[[1,1],[2,2],(List.replicate k [1,2]).flatten])++([2,3].map λk=>[[1,1],[2,2,2],(List.replicate k [1,2]).flatten])++([1,2,3].flatMap λi=>[1,2,3].map λj=>[[1,2,-1,-2],List.replicate i 1,List.replicate j 2]) ++ [[[1,1,2,2],[1,2,1,-2]]]
theorem X0u:(KN.all λrel => !H0l rel || G0l rel)=true:=by decide +kernel
def okQ(bs:List Int)(q:Int×Int):Prop:=0<=q.1/\q.1<=(bs.length:Int)/\bs.length<=1048576
def Drw{a:Type}(bs:List Int)(o:Option (a×(Int×Int)))(p:a->Prop):Prop:=∃ x q,o=some (x,q)/\p x/\okQ bs q
theorem Drw.bind{a b:Type}{bs:List Int}{m:Option (a×(Int×Int))}{p:a->Prop}{r:b->Prop}{k:a×(Int×Int)->Option (b×(Int×Int))}(h:Drw bs m p)(e:∀ x q,p x->okQ bs q->Drw bs (k (x,q)) r):Drw bs (m.bind k) r:=by
 obtain⟨x,q,rfl,c,d⟩:=h
 exact e x q c d
theorem Drw.grd{a:Type}{bs:List Int}{p:Prop}[Decidable p]{r:a->Prop}{k:Unit->Option (a×(Int×Int))}(h:p)(b:Drw bs (k ()) r):Drw bs ((grd p).bind k) r:=by
 rw[S0 h];exact b
theorem Drw.mono{a:Type}{bs:List Int}{m:Option (a×(Int×Int))}{p r:a->Prop}(h:Drw bs m p)(d:∀ x,p x->r x):Drw bs m r:=by
 obtain⟨x,q,e,b,c⟩:=h
 exact⟨x,q,e,d x b,c⟩
theorem E0t(bs:List Int)(c:bs.length<=1048576):∀(d k fuel:Nat) (y:Int),k+d=bs.length->d<fuel->∃ z,j9 bs fuel y (k:Int)=some z
 |d,k,0,y,a,hf=>by omega
 |0,k,fuel+1,y,a,hf=>by
  rw[j9.eq_2,decide_eq_false (show ¬ (k:Int)<((bs.length:Nat):Int) by omega),cond_false,if_neg (by simp)]
  exact⟨_,rfl⟩
 |d+1,k,fuel+1,y,a,hf=>by
  have b:k<bs.length:=by omega
  rw[j9.eq_2,E3 (w5 b),Z2 b (by omega)]
  split
  ·exact E0t bs c d (k+1) fuel _ (by omega) (by omega)
  ·exact⟨_,rfl⟩
theorem v0r{bs:List Int}(a:bs.length<=1048576):∃ q,d01 bs=some q/\okQ bs q:=by
 obtain⟨z,b⟩:=E0t bs a bs.length 0 W0 (IntKind.i64.wrap (10101+((bs.length:Nat):Int))) (by omega) (by unfold W0;omega)
 refine⟨(0,z),?_,iR _,Int.natCast_nonneg _,a⟩
 unfold d01
 rw[show(0:Int)=((0:Nat):Int) from rfl,b];rfl
theorem w0r(a:Int):0<=X0m a 255/\X0m a 255<=255:=by
 have h:(BitVec.ofInt 64 a &&& BitVec.ofInt 64 255).toNat<=255:=by
  rw[BitVec.toNat_and];exact Nat.le_trans Nat.and_le_right (by decide)
 unfold X0m
 rw[w64 (by omega) (by omega)];omega
theorem o0u{bs:List Int}{q:Int×Int}(g:okQ bs q):Drw bs (V8 bs q) λx=>0<=x/\x<=255:=by
 obtain⟨a,e,b⟩:=g
 unfold V8
 by_cases c:q.1<((bs.length:Nat):Int)
 ·rw[if_pos (decide_eq_true c)]
  obtain⟨k,f⟩:=Int.eq_ofNat_of_zero_le a
  rw[f]at c ⊢
  have d:k<bs.length:=by omega
  rw[E3 (w5 d),oB,Z2 d (by omega)]
  exact⟨_,_,rfl,w0r _,by simp only;omega,by simp only;omega,b⟩
 ·rw[if_neg (by simpa using c)]
  exact⟨_,_,rfl,w0r _,a,e,b⟩
theorem e01{bs:List Int}{q:Int×Int}(a:okQ bs q){n:Int}(h0:0<n)(d:n<=256):Drw bs (N3 bs q n) λx=>0<=x/\x<n:=by
 unfold N3
 rw[if_neg (by simp;omega),if_pos (by simp;omega)]
 refine(o0u a).bind λx e c b => .grd ⟨by omega,by omega⟩ (.grd (by omega) ⟨_,_,rfl,?_,b⟩)
 rw[Int.tmod_eq_emod_of_nonneg c.1]
 exact⟨Int.emod_nonneg _ (by omega),Int.emod_lt_of_pos _ h0⟩
theorem Y0m{bs:List Int}{q:Int×Int}(b:okQ bs q){n:Int}(h0:0<n)(a:n<=256):Drw bs (B01 bs q n) λ_=>True :=
 (e01 b h0 a).bind λx e d c => .grd ⟨by omega,by omega⟩ ⟨_,_,rfl,trivial,c⟩
theorem Z0s(d:Nat)(h:d<=1048576):IntKind.i64.wrap (((d+1:Nat):Int)-1)=(d:Int):=by rw[w64 (by omega) (by omega)];omega
def e02(r:Int)(w:List Int):Prop:=∀ x∈w,x≠0 /\ -r<=x/\x<=r
theorem e02.all{r:Int}(b:r<=256){w:List Int}(h:e02 r w):P3 w:=λx a=>by
 have:=h x a
 exact⟨by omega,by omega⟩
theorem x0r{P:Int->Prop}{b:List Int}{x:Int}(c:∀ y∈b,P y)(d:P x):∀ y∈C4 b x,P y:=λy a=>by
 unfold C4 at a
 cases b with
 |nil=>rw[List.mem_singleton.1 a];exact d
 |cons l t =>
  simp only at a
  cases hc:h02 l x with
  |true=>rw[hc]at a;exact c y (mC _ a)
  |false =>
   rw[hc]at a
   rcases List.mem_cons.1 a with rfl|a
   ·exact d
   ·exact c y a
theorem D0j{P:Int->Prop}:∀(w a:List Int),(∀ y∈a,P y)->(∀ y∈w,P y)->∀ y∈t7 a w,P y
 | [],a,b,_=>b
 |x::w,a,b,c=>D0j w (C4 a x) (x0r b (c x mS)) λy d=>c y (mC _ d)
theorem y0r{bs:List Int}{a:Int}(h0:0<a)(i:a<=256):∀(d fuel:Nat) (acc:List Int) (q:Int×Int),d<fuel->d+acc.length<=1000->e02 a acc->okQ bs q ->
  Drw bs (Y7 bs a fuel (d:Int) acc q) λw=>e02 a w/\w.length<=d+acc.length
 |d,0,acc,q,hf,_,_,_=>by omega
 |0,fuel+1,acc,q,hf,m,e,f=>by
  rw[Y7.eq_2,if_neg (by simp)]
  exact⟨_,_,rfl,⟨e,by omega⟩,f⟩
 |d+1,fuel+1,acc,q,hf,m,e,f=>by
  rw[Y7.eq_2,if_pos (by simp only[decide_eq_true_eq];omega)]
  refine(e01 f h0 i).bind λx t s n => .grd ⟨by omega,by omega⟩ ((Y0m n (by decide) (by decide)).bind λb k _ o=>?_)
  have h:∀ y:Int,(y≠0 /\ -a<=y/\y<=a)->Drw bs ((grd ((acc.length + [y].length)*8<=140737488355328)).bind λ_=>Y7 bs a fuel (IntKind.i64.wrap (((d+1:Nat):Int)-1)) (acc ++ [y]) k) λw=>e02 a w/\w.length<=d+1+acc.length:=λy p =>
   .grd (by simp only[List.length_singleton];omega) (by
    rw[Z0s d (by omega)]
    refine(y0r h0 i d fuel (acc ++ [y]) k (by omega) (by simp;omega) (λz c=>?_) o).mono λw j=>⟨j.1,by have:=j.2;simp at this;omega⟩
    rcases List.mem_append.1 c with c|c
    ·exact e z c
    ·rw[List.mem_singleton.1 c];exact p)
  have g:IntKind.i64.wrap (1+x)=1+x:=w64 (by omega) (by omega)
  have l:IntKind.i64.wrap (0-IntKind.i64.wrap (1+x)) = -(1+x):=by rw[g,w64 (by omega) (by omega)];omega
  show Drw bs (if b=true then _ else _) _
  cases b
  ·rw[if_neg (by simp)];exact h _ (by rw[g];omega)
  ·rw[if_pos rfl];exact h _ (by rw[l];omega)
def z0r(a:List (List Int)):Prop:=∀ w∈a,P3 w/\w.length<=200
def sm(r:Int)(w:List Int):Prop:=∀ x∈w,x≠0 /\ -r<=x/\x<=r
theorem Z0u{r:Int}(b:r<=3){w:List Int}(h:sm r w):P3 w:=λx a=>by have:=h x a;exact⟨by omega,by omega⟩
theorem F0t{x:Int}(a : -3<=x)(b:x<=3):ng x = -x:=by unfold ng;rw[w64 (by omega) (by omega)];omega
theorem A0r{r:Int}{b:List Int}{x:Int}(c:sm r b)(d:x≠0 /\ -r<=x/\x<=r):sm r (C4 b x):=by
 unfold C4
 cases b with
 |nil=>intro y a;simp at a;rw[a];exact d
 |cons l t =>
  simp only
  cases h02 l x with
  |true=>exact λy a=>c y (mC _ a)
  |false =>
   intro y a
   rcases List.mem_cons.1 a with rfl|a
   ·exact d
   ·exact c y a
theorem o0o{r:Int}:∀(w a:List Int),sm r a->sm r w->sm r (t7 a w)
 | [],a,b,_=>b
 |x::w,a,b,c=>o0o w (C4 a x) (A0r b (c x mS)) λy d=>c y (mC _ d)
def ccA:Nat->List Int->List Int×List Int
 |0,l=>(l,[])
 |n+1,l=>if 2<=l.length/\l.headD 0 = -(l.getLastD 0)then((ccA n l.tail.dropLast).1,l.headD 0::(ccA n l.tail.dropLast).2)else(l,[])
theorem a0v{l:List Int}(h:2<=l.length):∃ a m b,l=a::(m ++ [b])/\l.headD 0=a/\l.getLastD 0=b/\l.tail.dropLast=m:=by
 cases l with
 |nil=>simp at h
 |cons a r =>
  have c:r≠[]:=λe=>by rw[e]at h;simp at h
  refine⟨a,r.dropLast,r.getLast c,by rw[List.dropLast_concat_getLast],rfl,?_,rfl⟩
  cases r with
  |nil=>exact absurd rfl c
  |cons b t=>simp[List.getLastD,List.getLast]
theorem g0i:∀(n:Nat) (l:List Int),∃ q,l=(ccA n l).2++((ccA n l).1++q)
 |0,l=>⟨[],by simp[ccA]⟩
 |n+1,l=>by
  unfold ccA
  split
  ·rename_i c
   obtain⟨a,m,b,e,f,h,g⟩:=a0v c.1
   obtain⟨q,d⟩:=g0i n l.tail.dropLast
   refine⟨q ++ [b],?_⟩
   rw[g]at d ⊢
   rw[f]
   conv=>lhs;rw[e,d]
   simp
  ·exact⟨[],by simp⟩
theorem N0l{n:Nat}{l:List Int}(h : ¬ (2<=l.length/\l.headD 0 = -(l.getLastD 0))):ccA n l=(l,[]):=by
 cases n with
 |zero=>rfl
 |succ n=>unfold ccA;rw[if_neg h]
theorem p0o(n:Nat)(l:List Int):(ccA n l).1.length<=l.length/\(ccA n l).2.length<=l.length:=by
 obtain⟨q,e⟩:=g0i n l
 have:=congrArg List.length e
 simp only[List.length_append]at this
 omega
theorem B0r{a:Type}{xs:List a}{i j:Nat}(b:i<=j)(c:j<=xs.length):X02 xs (i:Int) (j:Int)=some ((xs.take j).drop i):=by
 unfold X02
 rw[if_pos ⟨by omega,by omega,by omega⟩]
 simp
theorem G0t{r:Int}(v:r<=3):∀(n fuel:Nat) (x p:List Int),x.length<=n->n<fuel->sm r x->x.length+p.length<=1000000 ->
  T6 fuel x p=some ((ccA n x).1,p++(ccA n x).2)
 |n,0,x,p,u,hf,d,t=>by omega
 |n,fuel+1,x,p,u,hf,d,t=>by
  rw[T6.eq_2]
  by_cases c:2<=x.length
  ·obtain⟨a,m,b,e,f,g,o⟩:=a0v c
   have B:=d a (by rw[e];simp)
   have C:=d b (by rw[e];simp)
   have D:x.length=m.length+2:=by rw[e];simp
   have l:gi x 0=some a:=by rw[e];exact E3 (k:=0) rfl
   have q:gi x (IntKind.i64.wrap (((x.length:Nat):Int)-1))=some b:=by
    rw[w64 (by omega) (by omega),show((x.length:Nat):Int)-1=((m.length+1:Nat):Int) by omega]
    refine E3 ?_
    rw[e];simp
   rw[show decide (((x.length:Nat):Int)>1)=true from decide_eq_true (by omega)]
   simp only[I2,l,q,oB,cond_true]
   rw[show IntKind.i64.wrap (0-b) = -b from F0t (by omega) (by omega)]
   obtain⟨n,rfl⟩:∃ A,n=A+1:=⟨n-1,by omega⟩
   by_cases c2:a = -b
   ·have w:ccA (n+1) x=((ccA n m).1,a::(ccA n m).2):=by
     show(if 2<=x.length/\x.headD 0 = -(x.getLastD 0)then((ccA n x.tail.dropLast).1,x.headD 0::(ccA n x.tail.dropLast).2)else(x,[]))=_
     rw[if_pos ⟨c,by rw[f,g];exact c2⟩,f,o]
    have s:X02 x 1 (IntKind.i64.wrap (((x.length:Nat):Int)-1))=some m:=by
     rw[w64 (by omega) (by omega),show((x.length:Nat):Int)-1=((m.length+1:Nat):Int) by omega]
     have:=B0r (xs:=x) (i:=1) (j:=m.length+1) (by omega) (by omega)
     rw[show((1:Nat):Int)=1 from rfl]at this
     rw[this,e]
     simp
    rw[decide_eq_true c2]
    simp only[I2,l,oB,cond_true]
    rw[show IntKind.i64.wrap (0-a) = -a from F0t (by omega) (by omega),show decide (a = -a)=false from decide_eq_false (by omega),if_pos (show(!false)=true from rfl),S0 (by simp;omega),oB,s,oB,
     G0t v n fuel m (p ++ [a]) (by omega) (by omega) (λy z=>d y (by rw[e];simp[z])) (by simp;omega),w]
    simp
   ·rw[decide_eq_false c2]
    simp only[Z3,oB,cond_false,Bool.false_eq_true,if_false]
    rw[N0l λh=>c2 (by rw[←f,←g];exact h.2)];simp
  ·rw[show decide (((x.length:Nat):Int)>1)=false from decide_eq_false (by omega)]
   simp only[Z3,oB,cond_false,Bool.false_eq_true,if_false]
   rw[N0l λh=>c h.1];simp
def p0u(w:List Int):List Int×List Int:=ccA (t7 [] w).length (t7 [] w).reverse
theorem C0r{r:Int}(a:r<=3){w:List Int}(b:sm r w)(j:w.length<=300000):A00 w=some (p0u w):=by
 have c:=B8 w (Z0u a b) (by omega)
 have f:=q01 w []
 simp only[List.length_nil]at f
 have g:sm r (t7 [] w).reverse:=λx h=>o0o w [] (λy i=>by cases i) b x (List.mem_reverse.1 h)
 have d:=G0t a (t7 [] w).length W0 (t7 [] w).reverse [] (by simp) (N1 (by omega)) g (by simp;omega)
 have e:=p0o (t7 [] w).length (t7 [] w).reverse
 rw[List.length_reverse]at e
 unfold A00 p0u
 rw[c,oB,d,oB]
 simp only[List.nil_append]
 rw[S0 (by simp;omega),oB]
def k07(g:j0):Bool:=u00 g&&decide ((K7 g).length=0)
theorem i0i{g:j0}(h:u00 g=true):K0 g=true:=by
 unfold u00 at h
 simp only[Bool.and_eq_true]at h
 exact h.1
theorem P0l{g:j0}(h:k07 g=true):u00 g=true:=by
 unfold k07 at h
 simp only[Bool.and_eq_true]at h
 exact h.1
theorem I0j(g:Nat):∀(d k j:Nat),k<=j->j<k+d->j≠g->(j:Int)∈wo g d k
 |0,k,j,b,e,a=>by omega
 |d+1,k,j,b,e,a=>by
  unfold wo
  split
  ·exact I0j g d (k+1) j (by omega) (by omega) a
  ·by_cases c:j=k
   ·rw[c];exact mS
   ·exact mC _ (I0j g d (k+1) j (by omega) (by omega) a)
def isS(o:Option (List Int)):Bool:=o.isSome
end Go.Proofs.YtfphndijjmdiiaaGreat
