/- Texts of the claim, joined: Plain laws: the core of a folded graph is a core and others. -/
import Derived.Test.YtkjhghloldgioaaGreatPart25
import Derived.Test.YtkjhghloldgioaaGreatPart19
import Derived.Test.YtkjhghloldgioaaGreatH36
import Derived.Test.YtkjhghloldgioaaGreatPart20
namespace Go.Proofs.YtkjhghloldgioaaGreat
open Go.H
set_option linter.unusedVariables false
set_option linter.unusedSimpArgs false
theorem C09:∀(d:Nat) {g:j0},E1 g=true->g.2.1.toNat<=d+1->w7 (Q9 d g)=none
 |0,g,a,h=>by
  cases e:w7 g with
  |none=>exact e
  |some k=>have:=i0d e;omega
 |d+1,g,a,h=>by
  unfold Q9
  cases e:w7 g with
  |none=>exact e
  |some k =>
   obtain⟨b,i,c,f⟩:=l04 a e
   exact C09 d (T04 a b c f) (by show(((wo k g.2.1.toNat 0).length:Nat):Int).toNat<=d+1;omega)
theorem y0o{g:j0}(hf:C0 g=true){v x y z:Int}(q:y∈J9 v x g.2.2)(s:z∈J9 v x g.2.2):y=z:=by
 obtain⟨e,o,l⟩:=U2.1 q
 obtain⟨k,p,m⟩:=U2.1 s
 by_cases hne:e=k
 ·subst hne
  rcases l with⟨a,b,c,rfl⟩|⟨a,b,c,rfl⟩<;>rcases m with⟨h,i,j,rfl⟩|⟨h,i,j,rfl⟩<;>first|rfl|omega
 ·have f:=(U0b (K0 hf)).1 hf e o k p hne
  unfold N03 at f
  simp only[Bool.and_eq_false_iff,Bool.or_eq_false_iff,decide_eq_false_iff_not]at f
  rcases l with⟨a,b,c,d⟩|⟨a,b,c,d⟩<;>rcases m with⟨h,i,j,n⟩|⟨h,i,j,n⟩<;>first|omega|(exfalso;rcases f with f|⟨t,u⟩<;>omega)
theorem k00(g:j0)(v x:Int):(D0 g v x = -1/\J9 v x g.2.2 = [])∨D0 g v x∈J9 v x g.2.2:=by
 unfold D0
 cases e:t02 g v x with
 |nil =>
  left
  refine⟨rfl,List.eq_nil_iff_forall_not_mem.2 λy b=>?_⟩
  have:y∈t02 g v x:=(z9 o02 y _ _).2 (.inr b)
  rw[e]at this;cases this
 |cons a l=>exact .inr (E0g (by rw[e];exact mS))
theorem d02{g:j0}(hf:C0 g=true){v x y:Int}(a:y∈J9 v x g.2.2):D0 g v x=y:=by
 rcases k00 g v x with⟨_,h⟩|h
 ·rw[h]at a;cases a
 ·exact y0o hf h a
theorem J03:∀(d i j:Nat),i<=j->j<i+d->(j:Int)∈P1 d i /\ -(j:Int)∈P1 d i
 |0,i,j,e,f=>by omega
 |d+1,i,j,e,f=>by
  simp only[P1,List.mem_cons]
  by_cases c:j=i
  ·subst c;simp
  ·obtain⟨a,b⟩:=J03 d (i+1) j (by omega) (by omega)
   exact⟨.inr (.inr a),.inr (.inr b)⟩
theorem U0g(g:j0)(v:Int):∀(ls u:List Int) (x:Int),x∈ls->0<=D0 g v x->D0 g v x∈j9 g v ls u
 |y::r,u,x,a,h0=>by
  rw[j9]
  rcases List.mem_cons.1 a with rfl|a
  ·obtain⟨t,e⟩:=T00 g v r (L02 u (D0 g v x))
   rw[e]
   refine List.mem_append_left _ ?_
   unfold L02
   split
   ·exact List.mem_append_right _ (List.mem_singleton.2 rfl)
   ·rename_i h
    by_cases hm:D0 g v x∈u
    ·exact hm
    ·exact absurd ⟨h0,hm⟩ h
  ·exact U0g g v r _ x a h0
theorem K06(g:j0)(ls:List Int):∀(f i:Nat) (u:List Int),∃ t,p5 g ls f i u=u++t
 |0,i,u=>⟨[],by simp[p5]⟩
 |f+1,i,u=>by
  unfold p5
  split
  ·rename_i v _
   obtain⟨c,a⟩:=T00 g v ls u
   obtain⟨d,b⟩:=K06 g ls f (i+1) (j9 g v ls u)
   exact⟨c++d,by rw[b,a,List.append_assoc]⟩
  ·exact⟨[],by simp⟩
theorem K0e{r:Int}{n:Nat}{es:List M0}(l:inG (r,(n:Int),es))(ls:List Int):∀(f i:Nat) (u:List Int),gud n u->n+1<=f+i->i<=u.length ->
  (∀ j,j<i->∀ v,u[j]?=some v->∀ x∈ls,0<=D0 (r,(n:Int),es) v x->D0 (r,(n:Int),es) v x∈u) ->
  ∀ v∈p5 (r,(n:Int),es) ls f i u,∀ x∈ls,0<=D0 (r,(n:Int),es) v x->D0 (r,(n:Int),es) v x∈p5 (r,(n:Int),es) ls f i u
 |0,i,u,d,p,m,h=>by have:=R6 n u d.1 d.2;omega
 |f+1,i,u,d,p,m,h=>by
  unfold p5
  cases e:u[i]? with
  |none =>
   have:i=u.length:=by have:=List.getElem?_eq_none_iff.1 e;omega
   show ∀ v∈u,∀ x∈ls,0<=D0 (r,(n:Int),es) v x->D0 (r,(n:Int),es) v x∈u
   intro v a x g h0
   obtain⟨j,k⟩:=List.getElem?_of_mem a
   exact h j (by have:=(List.getElem?_eq_some_iff.1 k).1;omega) v k x g h0
  |some w =>
   have o:=(List.getElem?_eq_some_iff.1 e).1
   obtain⟨t,b⟩:=T00 (r,(n:Int),es) w ls u
   refine K0e l ls f (i+1) _ (r03 l w ls u d) (by omega) (by rw[b,List.length_append];omega) λj k v a x g h0=>?_
   by_cases c:j=i
   ·subst c
    rw[b,List.getElem?_append_left o,e]at a
    cases a
    exact U0g _ _ ls u x g h0
   ·rw[b,List.getElem?_append_left (by omega)]at a
    rw[b]
    exact List.mem_append_left _ (h j (by omega) v a x g h0)
theorem L06(g:j0):∃ t,l3 g=0::t:=by
 obtain⟨t,e⟩:=K06 g (P1 g.1.toNat 1) (g.2.1.toNat+1) 0 [0]
 exact⟨t,e⟩
theorem k0k{g:j0}(hf:C0 g=true){x:Int}(h:Rch g.2.2 0 x):x∈l3 g:=by
 obtain⟨l,q,s,w⟩:=Q0 hf
 have m:=L06 g
 have c:∀ v∈l3 g,∀ x∈P1 g.1.toNat 1,0<=D0 g v x->D0 g v x∈l3 g:=by
  obtain⟨r,n,es⟩:=g
  simp only at q s
  obtain⟨N,rfl⟩:∃ N:Nat,n=(N:Int):=⟨n.toNat,by omega⟩
  exact K0e l _ (((N:Int)).toNat+1) 0 [0] ⟨by simp,λx f=>by simp at f;subst f;omega⟩ (by simp only[Int.toNat_natCast];omega) (Nat.zero_le _) (λj d=>by omega)
 refine Rch.sub (P:=λx=>x∈l3 g) ?_ (λe b=>?_) h
 ·obtain⟨t,e⟩:=m
  rw[e];exact mS
 ·have u:=l e b
  obtain⟨j,d⟩:∃ j:Nat,e.2.1=(j:Int):=⟨e.2.1.toNat,by omega⟩
  obtain⟨o,p⟩:=J03 g.1.toNat 1 j (by omega) (by omega)
  have i:D0 g e.1 (j:Int)=e.2.2:=d02 hf (U2.2 ⟨e,b,.inl ⟨by omega,d,rfl,rfl⟩⟩)
  have k:D0 g e.2.2 (-(j:Int))=e.1:=d02 hf (U2.2 ⟨e,b,.inr ⟨by omega,by omega,rfl,rfl⟩⟩)
  constructor
  ·intro a
   have:=c e.1 a (j:Int) o (by rw[i];omega)
   rwa [i]at this
  ·intro a
   have:=c e.2.2 a (-(j:Int)) p (by rw[k];omega)
   rwa [k]at this
theorem s05{a:Nat->Bool}:∀ {d v:Nat},lf a d v=none->∀ k,v<=k->k<v+d->a k=false
 |0,v,h,k,b,e=>by omega
 |d+1,v,h,k,b,e=>by
  unfold lf at h
  cases hb:a v with
  |true=>rw[hb]at h;cases h
  |false =>
   rw[hb]at h
   by_cases c:k=v
   ·rw[c];exact hb
   ·exact s05 (d:=d) (v:=v+1) h k (by omega) (by omega)
theorem L0e{a:Nat->Bool}:∀ {d v:Nat},(∀ k,v<=k->k<v+d->a k=false)->lf a d v=none
 |0,v,h=>rfl
 |d+1,v,h=>by
  unfold lf
  rw[h v (Nat.le_refl _) (by omega)]
  exact L0e λk b c=>h k (by omega) (by omega)
theorem t08{g:j0}(hf:C0 g=true)(b:w7 g=none){x:Int}(h0:0<=x)(d:x<g.2.1):x∈l3 g:=by
 refine k0k hf ?_
 by_cases c:x=0
 ·subst c;exact .base
 ·have:=s05 b x.toNat (by omega) (by omega)
  unfold H06 at this
  simp only[Bool.or_eq_false_iff,Bool.not_eq_false',decide_eq_true_eq]at this
  have a:=this.2
  rw[show((x.toNat:Nat):Int)=x by omega]at a
  exact(c04 _ _ _).1 a
theorem V0g{n:Nat}:∀(o:List Int) (k:Nat) (A:List Int),A.length=n->inV n o->o.Nodup->∀(i:Nat) (v:Int),o[i]?=some v->getI (g01 A k o) v=((k+i:Nat):Int)
 | [],k,A,c,b,f,i,v,a=>by simp at a
 |w::r,k,A,c,b,f,i,v,a=>by
  have e:=b w mS
  obtain⟨g,h⟩:=List.nodup_cons.1 f
  cases i with
  |zero =>
   simp at a;subst a
   rw[g01,z0e r _ _ w (by simp[c]) (λu d=>b u (mC _ d)) e.1 g,m01 e.1 (by omega) e.1,if_pos rfl];rfl
  |succ i =>
   rw[g01,V0g r (k+1) _ (by simp[c]) (λu d=>b u (mC _ d)) h i v (by simpa using a)]
   omega
theorem M0e{n:Nat}{o:List Int}(c:inV n o)(a:o.Nodup){i:Nat}{v:Int}(b:o[i]?=some v):getI (plc n o) v=(i:Int):=by
 have:=V0g o 0 (List.replicate n (-1)) (by simp) c a i v b
 rw[Nat.zero_add]at this;exact this
theorem o0i(P:List Int):∀(es:List M0),(∀ e∈es,0<=getI P e.1/\0<=getI P e.2.2)->pE P es=es.map λe=>(getI P e.1,e.2.1,getI P e.2.2)
 | [],h=>rfl
 |e::r,h=>by
  have a:=h e mS
  unfold pE
  rw[show(decide (0<=getI P e.1)&&decide (0<=getI P e.2.2))=true by simp[a.1,a.2],o0i P r λb c=>h b (mC _ c)]
  rfl
theorem W0g(e:M0):∀ {l:List M0},e ∉ l->(H01 D1 e l).Perm (e::l)
 | [],_=>List.Perm.refl _
 |y::l,h=>by
  have d:=W0g e (l:=l) λb=>h (mC _ b)
  unfold H01
  split
  ·exact List.Perm.refl _
  ·split
   ·rename_i c
    exact absurd (H8.eq _ _ c) λa=>h (by rw[a];exact mS)
   ·exact(List.Perm.cons y d).trans (List.Perm.swap e y l)
theorem J0c:∀(r acc:List M0),(acc++r).Nodup->(F6 D1 acc r).Perm (acc++r)
 | [],acc,h=>by simp[F6]
 |x::r,acc,h=>by
  have a:(acc++x::r).Perm (x::(acc++r)):=List.perm_middle
  have b:=a.nodup_iff.1 h
  have f:x ∉ acc:=λd=>(List.nodup_cons.1 b).1 (List.mem_append_left _ d)
  have e:=W0g x f
  have c:(H01 D1 x acc++r).Perm (x::(acc++r)):=e.append_right r
  rw[F6]
  exact((J0c r _ (c.nodup_iff.2 b)).trans c).trans a.symm
theorem X0g(v:Int){l a:List M0}(h:l.Perm a):O8 v l=O8 v a:=by
 induction h with
 |nil=>rfl
 |cons x _ d=>simp only[O8,d]
 |swap x y l=>simp only[O8];omega
 |trans _ _ b c=>rw[b,c]
theorem N0e{a:Int->Int}{v:Int}:∀(es:List M0),(∀ e∈es,(a e.1=a v↔e.1=v)/\(a e.2.2=a v↔e.2.2=v))->O8 (a v) (es.map λe=>(a e.1,e.2.1,a e.2.2))=O8 v es
 | [],h=>rfl
 |e::r,h=>by
  obtain⟨b,d⟩:=h e mS
  have i:=N0e r λf g=>h f (mC _ g)
  simp only[List.map_cons,O8,i,T02]
  congr 2
  ·by_cases c:e.1=v
   ·rw[if_pos (b.2 c),if_pos c]
   ·rw[if_neg λq=>c (b.1 q),if_neg c]
  ·by_cases c:e.2.2=v
   ·rw[if_pos (d.2 c),if_pos c]
   ·rw[if_neg λq=>c (d.1 q),if_neg c]
theorem p0i:∀(m:Nat) (o:List Int),(∀ i:Nat,i<m->(i:Int)∈o)->m<=o.length
 |0,o,h=>Nat.zero_le _
 |m+1,o,h=>by
  have a:=h m (by omega)
  have b:=p0i m (o.erase (m:Int)) λi c=>(List.mem_erase_of_ne (by omega)).2 (h i (by omega))
  rw[List.length_erase_of_mem a]at b
  have:=List.length_pos_of_mem a
  omega
theorem V0b{es:List M0}(c:Asc D1 es):es.Nodup:=by
 refine List.Pairwise.imp (λ{a b} h e=>?_) c
 rw[e,H8.refl]at h;omega
theorem l0k{es:List M0}(a:Asc D1 es):F6 D1 [] es=es :=
 f0e H8 (E06 H8 _ _ .nil) a λx=>by rw[z9 H8];simp
theorem Q0l{t:j0}(hf:C0 t=true)(ab:w7 t=none):T0 (L3 t)=true:=by
 have av:=K0 hf
 obtain⟨w,aT,aU,aV⟩:=Q0 hf
 have ak:=s08 av
 obtain⟨⟨M,G⟩,aE⟩:=G02 hf
 have aB:=R6 _ _ M G
 have Y:∀ x:Int,0<=x->x<t.2.1->x∈l3 t:=λx h0 d=>t08 hf ab h0 d
 obtain⟨aW,aK⟩:=L06 t
 obtain⟨n,ad⟩:∃ n:Nat,t.2.1=(n:Int):=⟨t.2.1.toNat,by omega⟩
 have Q:t.2.1.toNat=n:=by omega
 rw[Q]at G aB
 have ag:(l3 t).length=n:=by
  have:=p0i n (l3 t) λi F=>Y _ (by omega) (by omega)
  omega
 let P:Int->Int:=getI (plc n (l3 t))
 have K:∀(i:Nat) (v:Int),(l3 t)[i]?=some v->P v=(i:Int):=λi v F=>M0e G M F
 have L:∀ x:Int,0<=x->x<t.2.1->0<=P x/\P x<(n:Int):=λx h0 d=>by
  obtain⟨i,F⟩:=List.getElem?_of_mem (Y x h0 d)
  have:=(List.getElem?_eq_some_iff.1 F).1
  rw[K i x F];omega
 have A:∀ x y:Int,0<=x->x<t.2.1->0<=y->y<t.2.1->P x=P y->x=y:=λx y h0 d o aQ h=>F0a G M h0 o (L x h0 d).1 h
 have S:P 0=0:=K 0 0 (by rw[aK];rfl)
 have aF:pE (plc n (l3 t)) t.2.2=t.2.2.map λe=>(P e.1,e.2.1,P e.2.2):=o0i _ _ λe g=>by
  have:=w e g
  exact⟨(L e.1 this.1.1 this.1.2).1,(L e.2.2 this.2.1.1 this.2.1.2).1⟩
 have J:L3 t=(t.1,(n:Int),F6 D1 [] (t.2.2.map λe=>(P e.1,e.2.1,P e.2.2))):=by
  unfold L3 L5
  rw[Q,aF,ag]
 have ay:∀ e∈t.2.2,∀ j∈t.2.2,((P e.1,e.2.1,P e.2.2):M0)=(P j.1,j.2.1,P j.2.2)->e=j:=λe g j U h=>by
  have a:=w e g
  have b:=w j U
  simp only[Prod.mk.injEq]at h
  have d:=A _ _ a.1.1 a.1.2 b.1.1 b.1.2 h.1
  have o:=A _ _ a.2.1.1 a.2.1.2 b.2.1.1 b.2.1.2 h.2.2
  obtain⟨aN,H,X⟩:=e
  obtain⟨aO,aP,f2⟩:=j
  simp only at d o h
  rw[d,o,h.2.1]
 have aD:(t.2.2.map λe=>((P e.1,e.2.1,P e.2.2):M0)).Nodup:=by
  have:=V0b ak
  rw[List.Nodup,List.pairwise_map]
  exact List.Pairwise.imp_of_mem (λ{a b} ao C h e=>h (ay a ao b C e)) this
 have O:∀ j,j∈(L3 t).2.2↔∃ e∈t.2.2,j=(P e.1,e.2.1,P e.2.2):=λj=>by
  rw[J]
  simp only
  rw[z9 H8]
  simp only[List.not_mem_nil,false_or,List.mem_map]
  exact⟨λ⟨e,d,o⟩=>⟨e,d,o.symm⟩,λ⟨e,d,o⟩=>⟨e,d,o.symm⟩⟩
 have I:C0 (L3 t)=true:=J02 hf (by rw[Q];exact G) M aE (by omega)
 have Z:=K0 I
 have D:(L3 t).2.1=(n:Int):=by rw[J]
 have ar:∀ v:Int,0<=v->v<t.2.1->O8 (P v) (L3 t).2.2=O8 v t.2.2:=λv h0 d=>by
  rw[J]
  simp only
  rw[X0g _ (J0c _ [] (by simpa using aD)),List.nil_append]
  refine N0e _ λe g=>?_
  have:=w e g
  exact⟨⟨λh=>A _ _ this.1.1 this.1.2 h0 d h,λh=>by rw[h]⟩,⟨λh=>A _ _ this.2.1.1 this.2.1.2 h0 d h,λh=>by rw[h]⟩⟩
 have aH:∀ x,Rch t.2.2 0 x->Rch (L3 t).2.2 0 (P x):=λx p =>
  Rch.sub (P:=λx=>Rch (L3 t).2.2 0 (P x)) (by show Rch _ 0 (P 0);rw[S];exact .base) (λe g=>Rch.closed (P e.1,e.2.1,P e.2.2) ((O _).2 ⟨e,g,rfl⟩)) p
 have aA:w7 (L3 t)=none:=by
  unfold w7
  refine L0e λk aS aL=>?_
  rw[D,Int.toNat_natCast]at aL
  obtain⟨v,s⟩:∃ v,(l3 t)[k]?=some v:=⟨_,List.getElem?_eq_getElem (by omega)⟩
  have aJ:=G v (List.mem_of_getElem? s)
  have T:=K k v s
  have aR:v≠0:=λh=>by rw[h,S]at T;omega
  have C:=s05 ab v.toNat (by omega) (by omega)
  unfold H06 at C ⊢
  rw[show((v.toNat:Nat):Int)=v by omega]at C
  simp only[Bool.or_eq_false_iff,Bool.not_eq_false',decide_eq_true_eq,decide_eq_false_iff_not]at C ⊢
  refine⟨?_,?_⟩
  ·rw[←T,ar v aJ.1 (by omega)];exact C.1
  ·rw[←T]
   exact(c04 _ _ _).2 (aH v ((c04 _ _ _).1 C.2))
 have ae:∀ v x:Int,0<=v->v<t.2.1->(D0 t v x = -1/\D0 (L3 t) (P v) x = -1)∨((0<=D0 t v x/\D0 t v x<t.2.1)/\D0 (L3 t) (P v) x=P (D0 t v x)):=λv x h0 d=>by
  rcases k00 t v x with⟨H,X⟩|H
  ·left
   refine⟨H,?_⟩
   rcases k00 (L3 t) (P v) x with⟨R,aM⟩|R
   ·exact R
   ·exfalso
    obtain⟨j,U,V⟩:=U2.1 R
    obtain⟨e,g,rfl⟩:=(O j).1 U
    have E:=w e g
    have:∃ y,y∈J9 v x t.2.2:=by
     rcases V with⟨a,b,c,_⟩|⟨a,b,c,_⟩
     ·exact⟨_,U2.2 ⟨e,g,.inl ⟨a,b,A _ _ E.1.1 E.1.2 h0 d c,rfl⟩⟩⟩
     ·exact⟨_,U2.2 ⟨e,g,.inr ⟨a,b,A _ _ E.2.1.1 E.2.1.2 h0 d c,rfl⟩⟩⟩
    obtain⟨y,ai⟩:=this
    rw[X]at ai;cases ai
  ·right
   generalize D0 t v x=y at H
   obtain⟨e,g,V⟩:=U2.1 H
   have E:=w e g
   rcases V with⟨a,b,c,rfl⟩|⟨a,b,c,rfl⟩
   ·exact⟨E.2.1,d02 I (U2.2 ⟨_,(O _).2 ⟨e,g,rfl⟩,.inl ⟨a,b,by show P e.1=P v;rw[c],rfl⟩⟩)⟩
   ·exact⟨E.1,d02 I (U2.2 ⟨_,(O _).2 ⟨e,g,rfl⟩,.inr ⟨a,b,by show P e.2.2=P v;rw[c],rfl⟩⟩)⟩
 have aj:∀ u:List Int,gud n u->∀ x∈u,0<=x/\x<t.2.1:=λu m x p=>by have:=m.2 x p;omega
 have ax:inG (t.1,(n:Int),t.2.2):=by
  have:=w
  intro e g
  have:=w e g
  rw[ad]at this;exact this
 have au:(t.1,(n:Int),t.2.2)=t:=by
  rw[←ad]
 have an:∀(u:List Int) (y z:Int),gud n u->(y = -1/\z = -1)∨((0<=y/\y<t.2.1)/\z=P y)->L02 (u.map P) z=(L02 u y).map P:=λu y z m h=>by
  unfold L02
  rcases h with⟨rfl,rfl⟩|⟨⟨h0,d⟩,rfl⟩
  ·rw[if_neg (by omega),if_neg (by omega)]
  ·have ac:P y∈u.map P↔y∈u:=by
    constructor
    ·intro h
     obtain⟨x,p,e⟩:=List.mem_map.1 h
     have:=aj u m x p
     rw[←A x y this.1 this.2 h0 d e];exact p
    ·exact λh=>List.mem_map.2 ⟨y,h,rfl⟩
   by_cases c:y∈u
   ·rw[if_neg λq=>q.2 (ac.2 c),if_neg λq=>q.2 c]
   ·rw[if_pos ⟨(L y h0 d).1,λq=>c (ac.1 q)⟩,if_pos ⟨h0,c⟩];simp
 have al:∀(v:Int),0<=v->v<t.2.1->∀(ls u:List Int),gud n u->j9 (L3 t) (P v) ls (u.map P)=(j9 t v ls u).map P:=λv h0 d ls=>by
  induction ls with
  |nil=>intro u m;rfl
  |cons x l W =>
   intro u m
   have p:D0 t v x = -1∨(0<=D0 t v x/\D0 t v x<(n:Int)):=by
    rcases ae v x h0 d with⟨a,_⟩|⟨a,_⟩
    ·exact .inl a
    ·exact .inr (by omega)
   rw[j9,j9,an u _ _ m (ae v x h0 d),W _ (N0g m p)]
 have am:∀(f i:Nat) (u:List Int) (ls:List Int),gud n u->p5 (L3 t) ls f i (u.map P)=(p5 t ls f i u).map P:=λf=>by
  induction f with
  |zero=>intro i u ls m;rfl
  |succ f W =>
   intro i u ls m
   unfold p5
   rw[List.getElem?_map]
   cases e:u[i]? with
   |none=>rfl
   |some v =>
    have s:=aj u m v (List.mem_of_getElem? e)
    have aw:gud n (j9 t v ls u):=by
     have:=r03 ax v ls u m
     rw[au]at this;exact this
    simp only[Option.map_some]
    rw[al v s.1 s.2 ls u m]
    exact W (i+1) _ ls aw
 have ah:l3 (L3 t)=(l3 t).map P:=by
  have d:(L3 t).1=t.1:=by rw[J]
  have o:=am (n+1) 0 [0] (P1 t.1.toNat 1) ⟨by simp,λx p=>by simp at p;subst p;omega⟩
  rw[List.map_cons,List.map_nil,S]at o
  show p5 (L3 t) (P1 (L3 t).1.toNat 1) ((L3 t).2.1.toNat+1) 0 [0]=(p5 t (P1 t.1.toNat 1) (t.2.1.toNat+1) 0 [0]).map P
  rw[d,D,Q,Int.toNat_natCast]
  exact o
 have az:∀ i:Nat,i<n->(l3 (L3 t))[i]?=some (i:Int):=λi F=>by
  rw[ah,List.getElem?_map]
  obtain⟨v,s⟩:∃ v,(l3 t)[i]?=some v:=⟨_,List.getElem?_eq_getElem (by omega)⟩
  rw[s,Option.map_some,K i v s]
 obtain⟨⟨aq,af⟩,_⟩:=G02 I
 rw[D,Int.toNat_natCast]at af
 have N:∀ x:Int,0<=x->x<(n:Int)->getI (plc n (l3 (L3 t))) x=x:=λx h0 d=>by
  have:=M0e af aq (az x.toNat (by omega))
  rw[show((x.toNat:Nat):Int)=x by omega]at this;exact this
 have aC:(l3 (L3 t)).length=n:=by rw[ah,List.length_map,ag]
 have aa:=(Z0 Z).1
 have ap:L3 (L3 t)=L3 t:=by
  have aG:pE (plc n (l3 (L3 t))) (L3 t).2.2=(L3 t).2.2:=by
   rw[o0i _ _ λe g=>by
    have:=aa e g
    rw[D]at this
    exact⟨by rw[N _ this.1.1 this.1.2];exact this.1.1,by rw[N _ this.2.1.1 this.2.1.2];exact this.2.1.1⟩]
   refine(List.map_congr_left λe g=>?_).trans (List.map_id _)
   have:=aa e g
   rw[D]at this
   rw[N _ this.1.1 this.1.2,N _ this.2.1.1 this.2.1.2];rfl
  show L5 (L3 t) (l3 (L3 t))=L3 t
  unfold L5
  rw[D,Int.toNat_natCast,aG,l0k (s08 Z),aC]
  rw[←D]
 unfold T0
 rw[I,aA,ap]
 simp[q0e]
theorem z0o{g:j0}(hf:C0 g=true):T0 (J06 g)=true:=by
 have a:=K0 hf
 have:=(Z0 a).2.2.1
 exact Q0l (L9 40 hf) (C09 40 a (by omega))
theorem l0u(n:Nat):decide (((n:Nat):Int)=0)=decide (n=0):=by
 by_cases c:n=0
 ·rw[decide_eq_true c,decide_eq_true (by omega)]
 ·rw[decide_eq_false c,decide_eq_false (by omega)]
theorem Z2{g:j0}(h:T0 g=true):C0 g=true:=by
 unfold T0 at h
 simp only[Bool.and_eq_true]at h
 exact h.1
def K03(g:j0)(v:Int):List Int:=v::wo v.toNat g.2.1.toNat 0
def G3(g:j0)(v:Int):j0:=J06 (L5 g (K03 g v))
theorem g0q(g:Nat):∀(d k:Nat),(g:Int) ∉ wo g d k
 |0,k,h=>nomatch h
 |d+1,k,h=>by
  unfold wo at h
  split at h
  ·exact g0q g d (k+1) h
  ·rcases List.mem_cons.1 h with h|h
   ·omega
   ·exact g0q g d (k+1) h
theorem O0e(g:Nat):∀(d k j:Nat),k<=j->j<k+d->j≠g->(j:Int)∈wo g d k
 |0,k,j,b,e,a=>by omega
 |d+1,k,j,b,e,a=>by
  unfold wo
  split
  ·exact O0e g d (k+1) j (by omega) (by omega) a
  ·by_cases c:j=k
   ·rw[c];exact mS
   ·exact mC _ (O0e g d (k+1) j (by omega) (by omega) a)
theorem T07{g:j0}(hf:C0 g=true){v:Int}(b:0<=v/\v<g.2.1):inV g.2.1.toNat (K03 g v)/\(K03 g v).Nodup/\(K03 g v).length=g.2.1.toNat:=by
 obtain⟨c,d,e,f⟩:=Q0 hf
 refine⟨λx a=>?_,?_,?_⟩
 ·rcases List.mem_cons.1 a with rfl|a
  ·omega
  ·exact O0g _ _ _ _ (by omega) x a
 ·refine List.nodup_cons.2 ⟨λh=>?_,S04 _ _ _⟩
  have:=g0q v.toNat g.2.1.toNat 0
  rw[show((v.toNat:Nat):Int)=v by omega]at this
  exact this h
 ·unfold K03
  rw[List.length_cons,Q0b,if_pos (by omega)]
  omega
theorem W0b{g:j0}(hf:C0 g=true){v:Int}(c:0<=v/\v<g.2.1):C0 (L5 g (K03 g v))=true:=by
 obtain⟨e,f,h,i⟩:=Q0 hf
 obtain⟨a,b,d⟩:=T07 hf c
 exact J02 hf a b (by omega) (by omega)
theorem e02{g:j0}(hf:C0 g=true){v:Int}(a:0<=v/\v<g.2.1):T0 (G3 g v)=true:=z0o (W0b hf a)
theorem h0q(n:Nat)(v:Int)(h0:0<=v)(i:n<=1000):∀(d k fuel:Nat) (acc:List Int),k+d=n->d<fuel->acc.length<=k+1 ->
  R4 (n:Int) v fuel (k:Int) acc=some (acc++wo v.toNat d k)
 |d,k,0,acc,b,hf,a=>by omega
 |0,k,fuel+1,acc,b,hf,a=>by
  rw[R4.eq_2,if_neg (by simp only[decide_eq_true_eq];omega)];simp[wo]
 |d+1,k,fuel+1,acc,b,hf,a=>by
  have f:=λg h=>h0q n v h0 i d (k+1) fuel g (by omega) (by omega) h
  rw[R4.eq_2,if_pos (by simp only[decide_eq_true_eq];omega),G2 (show k<10000 by omega) (by omega)]
  unfold wo
  by_cases c:k=v.toNat
  ·have e:decide ((k:Int)=v)=true:=decide_eq_true (by omega)
   rw[e,if_neg (by simp),if_pos c,f _ (by omega)]
  ·have e:decide ((k:Int)=v)=false:=decide_eq_false (by omega)
   rw[e,if_pos (show(!false)=true from rfl),if_neg c,F0 (by simp;omega),oB,f _ (by simp;omega)]
   simp
theorem L0s(n:Nat)(v:Int):∀(fuel:Nat) (k:Int) (acc:List Int),c7 (n:Int) v fuel k acc=R4 (n:Int) v fuel k acc
 |0,k,acc=>rfl
 |fuel+1,k,acc=>by
  rw[c7.eq_2,R4.eq_2]
  simp only[L0s n v fuel]
theorem P0e{g:j0}(hf:C0 g=true){v:Int}(e:0<=v/\v<g.2.1):B7 g v=some (G3 g v,true):=by
 obtain⟨p,s,l,t⟩:=Q0 hf
 obtain⟨i,j,m⟩:=T07 hf e
 have h:=i9 g (by omega)
 rw[hf]at h
 have d:=h0q g.2.1.toNat v e.1 (by omega) g.2.1.toNat 0 U0 [v] (by omega) (C1 (by omega)) (by simp)
 have k:=O0l (W0b hf e)
 have f:=z09 g.1 g.2.1.toNat g.2.2 (K03 g v) (by rw[show((g.2.1.toNat:Nat):Int)=g.2.1 by omega];exact K0 hf) i j (by omega) (by omega)
 rw[show((0:Nat):Int)=0 from rfl]at d
 rw[show((g.2.1.toNat:Nat):Int)=g.2.1 by omega]at d f
 rw[show [v]++wo v.toNat g.2.1.toNat 0=K03 g v from rfl]at d
 rw[show(g.1,g.2.1,g.2.2)=g from rfl]at f
 unfold G3
 generalize K03 g v=o at *
 generalize n:L5 g o=q at *
 obtain⟨a,b,c⟩:=g
 obtain⟨u,w,x⟩:=q
 simp only at d e l ⊢
 unfold B7
 simp only[h,oB,Bool.not_true,Bool.not_false,Q2,N04,cond_false]
 rw[w64 (by omega) (by omega),show inR 0 (b-1) v=true by simp[inR];omega]
 simp only[Bool.not_true,Bool.false_eq_true,if_false,d,oB,f,k]
theorem Q0e{g:j0}(hf:C0 g=true){v:Int}(f:0<=v/\v<g.2.1):C7 g v=some (G3 g v,true):=by
 obtain⟨n,w,p,x⟩:=Q0 hf
 obtain⟨j,s,t⟩:=T07 hf f
 have i:=n8 g (by omega)
 rw[hf]at i
 have m:=V0t (K0 hf) f
 have d:=h0q g.2.1.toNat v f.1 (by omega) g.2.1.toNat 0 U0 [v] (by omega) (C1 (by omega)) (by simp)
 rw[←L0s]at d
 have k:=P0l (W0b hf f)
 have h:=j0i g.1 g.2.1.toNat g.2.2 (K03 g v) (λe l=>by have:=n e l;omega) j (by omega) (by omega) (by omega)
 rw[show((0:Nat):Int)=0 from rfl]at d
 rw[show((g.2.1.toNat:Nat):Int)=g.2.1 by omega]at d h
 rw[show [v]++wo v.toNat g.2.1.toNat 0=K03 g v from rfl]at d
 rw[show(g.1,g.2.1,g.2.2)=g from rfl]at h
 unfold G3
 generalize K03 g v=o at *
 generalize u:L5 g o=q at *
 obtain⟨a,b,c⟩:=g
 obtain⟨y,z,A⟩:=q
 simp only at d f p ⊢
 unfold C7
 simp only[i,oB,Bool.not_true,Bool.not_false,Q2,m,cond_false]
 simp only[Bool.false_eq_true,if_false,d,oB,h,k]
theorem W02{g:j0}(h:T0 g=true):g.2.2.length<=120/\(1<=g.2.1/\g.2.1<=40)/\(1<=g.1/\g.1<=3):=by
 obtain⟨d,a,b,c⟩:=Q0 (Z2 h)
 exact⟨c,b,a⟩
structure Iso (t c:j0) (P:Int->Int) (n:Nat):Prop where
 rank:c.1=t.1
 nt:t.2.1=(n:Int)
 nc:c.2.1=(n:Int)
 ft:C0 t=true
 fc:C0 c=true
 rng:∀ x:Int,0<=x->x<(n:Int)->0<=P x/\P x<(n:Int)
 inj:∀ x y:Int,0<=x->x<(n:Int)->0<=y->y<(n:Int)->P x=P y->x=y
 mem:∀ e',e'∈c.2.2↔∃ e∈t.2.2,e'=(P e.1,e.2.1,P e.2.2)
theorem Iso.inE{t c:j0}{P:Int->Int}{n:Nat}(s:Iso t c P n){e:M0}(a:e∈t.2.2):(0<=e.1/\e.1<(n:Int))/\(0<=e.2.2/\e.2.2<(n:Int)):=by
 have:=(Q0 s.ft).1 e a
 rw[s.nt]at this
 exact⟨this.1,this.2.1⟩
theorem Iso.comp{a b c:j0}{P Q:Int->Int}{n:Nat}(s:Iso a b P n)(u:Iso b c Q n):Iso a c (λx=>Q (P x)) n where
 rank:=by rw[u.rank,s.rank]
 nt:=s.nt
 nc:=u.nc
 ft:=s.ft
 fc:=u.fc
 rng:=λx h0 d=>u.rng _ (s.rng x h0 d).1 (s.rng x h0 d).2
 inj:=λx y h0 d g i h=>s.inj x y h0 d g i (u.inj _ _ (s.rng x h0 d).1 (s.rng x h0 d).2 (s.rng y g i).1 (s.rng y g i).2 h)
 mem:=λk=>by
  rw[u.mem]
  constructor
  ·rintro⟨e,j,rfl⟩
   obtain⟨f,hf,rfl⟩:=(s.mem e).1 j
   exact⟨f,hf,rfl⟩
  ·rintro⟨f,hf,rfl⟩
   exact⟨_,(s.mem _).2 ⟨f,hf,rfl⟩,rfl⟩
theorem i0q{t:j0}(hf:C0 t=true){o:List Int}(g:o.Nodup)(d:inV t.2.1.toNat o)(l:∀ x:Int,0<=x->x<t.2.1->x∈o):
  Iso t (L5 t o) (getI (plc t.2.1.toNat o)) t.2.1.toNat/\(∀(i:Nat) (v:Int),o[i]?=some v->getI (plc t.2.1.toNat o) v=(i:Int)):=by
 have C:=K0 hf
 obtain⟨z,D,E,F⟩:=Q0 hf
 have q:=R6 _ _ g d
 obtain⟨n,s⟩:∃ n:Nat,t.2.1=(n:Int):=⟨t.2.1.toNat,by omega⟩
 have j:t.2.1.toNat=n:=by omega
 rw[j]at d q ⊢
 have u:o.length=n:=by
  have:=p0i n o λi c=>l _ (by omega) (by omega)
  omega
 have k:∀(i:Nat) (v:Int),o[i]?=some v->getI (plc n o) v=(i:Int):=λi v c=>M0e d g c
 have f:∀ x:Int,0<=x->x<(n:Int)->0<=getI (plc n o) x/\getI (plc n o) x<(n:Int):=λx h0 a=>by
  obtain⟨i,c⟩:=List.getElem?_of_mem (l x h0 (by omega))
  have:=(List.getElem?_eq_some_iff.1 c).1
  rw[k i x c];omega
 have w:pE (plc n o) t.2.2=t.2.2.map λe=>(getI (plc n o) e.1,e.2.1,getI (plc n o) e.2.2):=o0i _ _ λe p=>by
  have:=z e p
  exact⟨(f e.1 this.1.1 (by omega)).1,(f e.2.2 this.2.1.1 (by omega)).1⟩
 refine⟨⟨rfl,s,by show((o.length:Nat):Int)=_;rw[u],hf,J02 hf (by rw[j];exact d) g (by omega) (by omega),f,λx y h0 a b A h=>F0a d g h0 b (f x h0 a).1 h,λm=>?_⟩,k⟩
 show m∈F6 D1 [] (pE (plc t.2.1.toNat o) t.2.2)↔_
 rw[j,w,z9 H8]
 simp only[List.not_mem_nil,false_or,List.mem_map]
 exact⟨λ⟨e,a,b⟩=>⟨e,a,b.symm⟩,λ⟨e,a,b⟩=>⟨e,a,b.symm⟩⟩
theorem Iso.next{t c:j0}{P:Int->Int}{n:Nat}(s:Iso t c P n)(v x:Int)(h0:0<=v)(j:v<(n:Int)):
  (D0 t v x = -1/\D0 c (P v) x = -1)∨((0<=D0 t v x/\D0 t v x<(n:Int))/\D0 c (P v) x=P (D0 t v x)):=by
 rcases k00 t v x with⟨g,m⟩|g
 ·left
  refine⟨g,?_⟩
  rcases k00 c (P v) x with⟨h,p⟩|h
  ·exact h
  ·exfalso
   obtain⟨l,o,i⟩:=U2.1 h
   obtain⟨e,d,rfl⟩:=(s.mem l).1 o
   have f:=s.inE d
   have:∃ y,y∈J9 v x t.2.2:=by
    rcases i with⟨a,b,c,_⟩|⟨a,b,c,_⟩
    ·exact⟨_,U2.2 ⟨e,d,.inl ⟨a,b,s.inj _ _ f.1.1 f.1.2 h0 j c,rfl⟩⟩⟩
    ·exact⟨_,U2.2 ⟨e,d,.inr ⟨a,b,s.inj _ _ f.2.1 f.2.2 h0 j c,rfl⟩⟩⟩
   obtain⟨y,k⟩:=this
   rw[m]at k;cases k
 ·right
  generalize D0 t v x=y at g
  obtain⟨e,d,i⟩:=U2.1 g
  have f:=s.inE d
  rcases i with⟨a,b,c,rfl⟩|⟨a,b,c,rfl⟩
  ·exact⟨f.2,d02 s.fc (U2.2 ⟨_,(s.mem _).2 ⟨e,d,rfl⟩,.inl ⟨a,b,by show P e.1=P v;rw[c],rfl⟩⟩)⟩
  ·exact⟨f.1,d02 s.fc (U2.2 ⟨_,(s.mem _).2 ⟨e,d,rfl⟩,.inr ⟨a,b,by show P e.2.2=P v;rw[c],rfl⟩⟩)⟩
theorem Iso.perm{t c:j0}{P:Int->Int}{n:Nat}(s:Iso t c P n):c.2.2.Perm (t.2.2.map λe=>(P e.1,e.2.1,P e.2.2)):=by
 have j:=V0b (s08 (K0 s.ft))
 have k:=V0b (s08 (K0 s.fc))
 have o:(t.2.2.map λe=>((P e.1,e.2.1,P e.2.2):M0)).Nodup:=by
  rw[List.Nodup,List.pairwise_map]
  refine List.Pairwise.imp_of_mem (λ{a b} l m h e=>h ?_) j
  have g:=s.inE l
  have i:=s.inE m
  simp only[Prod.mk.injEq]at e
  have d:=s.inj _ _ g.1.1 g.1.2 i.1.1 i.1.2 e.1
  have f:=s.inj _ _ g.2.1 g.2.2 i.2.1 i.2.2 e.2.2
  obtain⟨q,u,v⟩:=a
  obtain⟨w,x,f2⟩:=b
  simp only at d f e
  rw[d,f,e.2.1]
 refine(List.perm_ext_iff_of_nodup k o).2 λp=>?_
 rw[s.mem,List.mem_map]
 exact⟨λ⟨e,d,f⟩=>⟨e,d,f.symm⟩,λ⟨e,d,f⟩=>⟨e,d,f.symm⟩⟩
theorem Iso.len{t c:j0}{P:Int->Int}{n:Nat}(s:Iso t c P n):c.2.2.length=t.2.2.length:=by
 rw[s.perm.length_eq,List.length_map]
theorem Iso.deg{t c:j0}{P:Int->Int}{n:Nat}(s:Iso t c P n){v:Int}(h0:0<=v)(a:v<(n:Int)):O8 (P v) c.2.2=O8 v t.2.2:=by
 rw[X0g _ s.perm]
 refine N0e _ λe b=>?_
 have:=s.inE b
 exact⟨⟨λh=>s.inj _ _ this.1.1 this.1.2 h0 a h,λh=>by rw[h]⟩,⟨λh=>s.inj _ _ this.2.1 this.2.2 h0 a h,λh=>by rw[h]⟩⟩
theorem Iso.rch{t c:j0}{P:Int->Int}{n:Nat}(s:Iso t c P n){a x:Int}(h:Rch t.2.2 a x):Rch c.2.2 (P a) (P x) :=
 Rch.sub (P:=λx=>Rch c.2.2 (P a) (P x)) .base (λe b=>Rch.closed (P e.1,e.2.1,P e.2.2) ((s.mem _).2 ⟨e,b,rfl⟩)) h
theorem Rch.tr{es:List M0}{a b c:Int}(h:Rch es a b)(k:Rch es b c):Rch es a c:=Rch.sub (P:=λx=>Rch es a x) h Rch.closed k
theorem R0e{g:j0}(h:T0 g=true):L3 g=g/\w7 g=none:=by
 unfold T0 q0e at h
 simp only[Bool.and_eq_true,decide_eq_true_eq,Option.isNone_iff_eq_none]at h
 exact⟨h.2.2,h.2.1⟩
theorem H0a{g:j0}(h:T0 g=true){v:Int}(h0:1<=v)(b:v<g.2.1):2<=O8 v g.2.2/\Rch g.2.2 0 v:=by
 have a:=s05 (R0e h).2 v.toNat (by omega) (by omega)
 unfold H06 at a
 rw[show((v.toNat:Nat):Int)=v by omega]at a
 simp only[Bool.or_eq_false_iff,Bool.not_eq_false',decide_eq_true_eq,decide_eq_false_iff_not]at a
 exact⟨by omega,(c04 _ _ _).1 a.2⟩
theorem I0a{g:j0}(h:T0 g=true){v:Int}(h0:0<=v)(a:v<g.2.1):Rch g.2.2 0 v:=by
 by_cases c:v=0
 ·rw[c];exact .base
 ·exact(H0a h (by omega) a).2
def M02(g:j0):Bool:=decide (1<g.2.1)&&decide (O8 0 g.2.2=1)
theorem Y0g{g:j0}{v:Int}(h0:0<=v):∀ x:Int,0<=x->x<g.2.1->x∈K03 g v:=λx a b=>by
 unfold K03
 by_cases c:x=v
 ·rw[c];exact mS
 ·refine mC _ ?_
  have:=O0e v.toNat g.2.1.toNat 0 x.toNat (Nat.zero_le _) (by omega) (by omega)
  rw[show((x.toNat:Nat):Int)=x by omega]at this;exact this
theorem v0t{g:j0}(hf:C0 g=true){v:Int}(a:0<=v/\v<g.2.1):∃ P,Iso g (L5 g (K03 g v)) P g.2.1.toNat/\P v=0:=by
 obtain⟨b,c,e⟩:=T07 hf a
 obtain⟨s,d⟩:=i0q hf c b (Y0g a.1)
 exact⟨_,s,d 0 v rfl⟩
theorem m0k:∀(d:Nat) {g:j0},E1 g=true->(Q9 d g).2.1<=g.2.1
 |0,g,a=>iR _
 |d+1,g,a=>by
  unfold Q9
  cases e:w7 g with
  |none=>exact iR _
  |some k =>
   obtain⟨b,h,c,f⟩:=l04 a e
   have:=m0k d (T04 a b c f)
   have q:=(Z0 a).2.2.1
   refine Int.le_trans this ?_
   show(((wo k g.2.1.toNat 0).length:Nat):Int)<=_
   omega
theorem e0s{g:j0}(a:E1 g=true)(h:w7 g≠none):(O03 g).2.1<g.2.1:=by
 unfold O03 Q9
 cases e:w7 g with
 |none=>exact absurd e h
 |some k =>
  obtain⟨b,f,c,d⟩:=l04 a e
  have:=m0k 39 (T04 a b c d)
  have q:=(Z0 a).2.2.1
  refine Int.lt_of_le_of_lt this ?_
  show(((wo k g.2.1.toNat 0).length:Nat):Int)<_
  omega
theorem j0q{g:j0}(hf:C0 g=true):(L3 g).2.1<=g.2.1:=by
 obtain⟨⟨a,b⟩,_⟩:=G02 hf
 have:=R6 _ _ a b
 have q:=(Q0 hf).2.2.1
 show(((l3 g).length:Nat):Int)<=_
 omega
theorem f0s{a:Nat->Bool}{d v k:Nat}(c:v<=k)(e:k<v+d)(b:a k=true):lf a d v≠none:=λh=>by
 rw[s05 h k c e]at b;cases b
theorem U04{g:j0}(h:T0 g=true)(a:M02 g=true){v:Int}(b:0<=v/\v<g.2.1)(h0:v≠0):(G3 g v).2.1<g.2.1:=by
 have hf:=Z2 h
 unfold M02 at a
 simp only[Bool.and_eq_true,decide_eq_true_eq]at a
 obtain⟨P,s,i⟩:=v0t hf b
 have l:=s.nt
 have n:=s.rng 0 (by omega) (by omega)
 have m:P 0≠0:=λe=>h0 (s.inj v 0 b.1 (by omega) (by omega) (by omega) (by rw[i,e]))
 have j:w7 (L5 g (K03 g v))≠none:=by
  unfold w7
  refine f0s (k:=(P 0).toNat) (by omega) (by rw[s.nc];omega) ?_
  unfold H06
  rw[show(((P 0).toNat:Nat):Int)=P 0 by omega,s.deg (by omega) (by omega),a.2]
  rfl
 have c:=e0s (K0 s.fc) j
 have d:=j0q (L9 40 s.fc)
 have f:=s.nc
 unfold G3 J06
 refine Int.lt_of_le_of_lt d (Int.lt_of_lt_of_le c ?_)
 rw[f,l];exact iR _
def b05(g:j0):List Int->Option Int
 | []=>none
 |x::r=>if 0<=D0 g 0 x then some (D0 g 0 x)else b05 g r
theorem c0n{g:j0}:∀ {ls:List Int} {v:Int},b05 g ls=some v->∃ x∈ls,D0 g 0 x=v/\0<=v
 | [],v,h=>by cases h
 |x::r,v,h=>by
  unfold b05 at h
  by_cases c:0<=D0 g 0 x
  ·rw[if_pos c]at h;cases h;exact⟨x,mS,rfl,c⟩
  ·rw[if_neg c]at h
   obtain⟨y,a,b⟩:=c0n h
   exact⟨y,mC _ a,b⟩
theorem X0b{g:j0}:∀ {ls:List Int} {x:Int},x∈ls->0<=D0 g 0 x->∃ v,b05 g ls=some v
 |y::r,x,h,h0=>by
  unfold b05
  by_cases c:0<=D0 g 0 y
  ·rw[if_pos c];exact⟨_,rfl⟩
  ·rw[if_neg c]
   rcases List.mem_cons.1 h with rfl|h
   ·exact absurd h0 c
   ·exact X0b h h0
theorem q0i{v:Int}{e:M0}(a:e.1=v)(b:e.2.2=v):∀ {es:List M0},e∈es->2<=O8 v es
 |x::r,h=>by
  simp only[O8,T02]
  rcases List.mem_cons.1 h with rfl|h
  ·rw[if_pos a,if_pos b];omega
  ·have:=q0i a b h;omega
theorem Y0b{g:j0}(h:T0 g=true)(s:M02 g=true):∃ v,b05 g (P1 g.1.toNat 1)=some v/\(0<=v/\v<g.2.1)/\v≠0:=by
 have hf:=Z2 h
 obtain⟨q,E,F,G⟩:=Q0 hf
 have m:=s
 unfold M02 at m
 simp only[Bool.and_eq_true,decide_eq_true_eq]at m
 have t:∃ e∈g.2.2,e.1=0∨e.2.2=0:=by
  refine Classical.byContradiction λz=>?_
  have A:∀ es:List M0,(∀ e∈es,¬ (e.1=0∨e.2.2=0))->O8 0 es=0:=λes=>by
   induction es with
   |nil=>intro _;rfl
   |cons x r C =>
    intro d
    have a:=d x mS
    simp only[O8,T02,C λe b=>d e (mC _ b)]
    rw[if_neg λk=>a (.inl k),if_neg λk=>a (.inr k)]
  have:=A g.2.2 λe b k=>z ⟨e,b,k⟩
  omega
 obtain⟨e,b,d⟩:=t
 have n:=q e b
 have l:=J03 g.1.toNat 1 e.2.1.toNat (by omega) (by omega)
 rw[show((e.2.1.toNat:Nat):Int)=e.2.1 by omega]at l
 obtain⟨v,p⟩:∃ v,b05 g (P1 g.1.toNat 1)=some v:=by
  rcases d with k|k
  ·refine X0b l.1 ?_
   rw[d02 hf (v:=0) (x:=e.2.1) (y:=e.2.2) (U2.2 ⟨e,b,.inl ⟨by omega,rfl,k,rfl⟩⟩)]
   exact n.2.1.1
  ·refine X0b l.2 ?_
   rw[d02 hf (v:=0) (x := -e.2.1) (y:=e.1) (U2.2 ⟨e,b,.inr ⟨by omega,by omega,k,rfl⟩⟩)]
   exact n.1.1
 obtain⟨x,D,w,h0⟩:=c0n p
 refine⟨v,p,?_⟩
 rcases k00 g 0 x with⟨a,_⟩|a
 ·omega
 ·rw[w]at a
  obtain⟨f,j,u⟩:=U2.1 a
  have o:=q f j
  rcases u with⟨_,_,i,rfl⟩|⟨_,_,i,rfl⟩
  ·refine⟨⟨h0,o.2.1.2⟩,λc=>?_⟩
   have:=q0i i c j;omega
  ·refine⟨⟨h0,o.1.2⟩,λc=>?_⟩
   have:=q0i c i j;omega
def X02:Nat->j0->j0
 |0,g=>g
 |d+1,g=>bif M02 g then(match b05 g (P1 g.1.toNat 1)with
  |some v=>X02 d (G3 g v)
  |none=>g)else g
def J0a(g:j0):List Int->Option Int
 | []=>none
 |x::r=>if 0<=D0 g 0 x then some x else J0a g r
theorem S0e(g:j0):∀ ls,b05 g ls=(J0a g ls).map (D0 g 0)
 | []=>rfl
 |x::r=>by
  unfold b05 J0a
  by_cases c:0<=D0 g 0 x
  ·rw[if_pos c,if_pos c];rfl
  ·rw[if_neg c,if_neg c];exact S0e g r
def h01:Nat->j0->List Int
 |0,_=>[]
 |d+1,g=>bif M02 g then(match J0a g (P1 g.1.toNat 1)with
  |some x=>x::h01 d (G3 g (D0 g 0 x))
  |none=>[])else []
theorem d0n:∀(d:Nat) (g:j0),T0 g=true->g.2.1<=(d:Int)+1->T0 (X02 d g)=true/\M02 (X02 d g)=false
 |0,g,h,e=>by
  refine⟨h,?_⟩
  show M02 g=false
  unfold M02
  rw[decide_eq_false (show ¬ 1<g.2.1 by omega)];rfl
 |d+1,g,h,e=>by
  unfold X02
  cases hc:M02 g
  ·exact⟨h,hc⟩
  ·obtain⟨v,b,a,c⟩:=Y0b h hc
   have:=U04 h hc a c
   rw[cond_true,b]
   exact d0n d _ (e02 (Z2 h) a) (by omega)
def R03(g:j0):j0:=bif T0 g then X02 40 g else g
theorem w0t{a:j0}(h:T0 a=true):T0 (R03 a)=true/\M02 (R03 a)=false:=by
 unfold R03
 rw[h,cond_true]
 have:=(W02 h).2.1
 exact d0n 40 a h (by omega)
def H03(g:j0)(w:List Int):Bool:=decide ((G9 g 0 w).2=w.length)&&decide ((G9 g 0 w).1=0)
theorem E2{g:j0}(h:T0 g=true):C0 g=true:=by
 unfold T0 at h
 simp only[Bool.and_eq_true]at h
 exact h.1
def rdw(g:j0):Int->List Int->Option Int
 |v,[]=>some v
 |v,x::w=>if D0 g v x<0 then none else rdw g (D0 g v x) w
theorem b0c(g:j0):∀(w:List Int) (v u:Int),rdw g v w=some u↔((G9 g v w).2=w.length/\(G9 g v w).1=u)
 | [],v,u=>by simp[rdw,G9]
 |x::w,v,u=>by
  have a:=b0c g w (D0 g v x) u
  unfold rdw G9
  by_cases c:D0 g v x<0
  ·rw[if_pos c,if_pos c];simp
  ·rw[if_neg c,if_neg c,a];simp
theorem c0c(g:j0)(w:List Int):H03 g w=true↔rdw g 0 w=some 0:=by
 unfold H03
 rw[b0c];simp
theorem f04(g:j0):∀(a b:List Int) (v:Int),rdw g v (a++b)=(rdw g v a).bind λu=>rdw g u b
 | [],b,v=>rfl
 |x::a,b,v=>by
  have d:=f04 g a b (D0 g v x)
  show(if D0 g v x<0 then none else rdw g (D0 g v x) (a++b))=(if D0 g v x<0 then none else rdw g (D0 g v x) a).bind λu=>rdw g u b
  by_cases c:D0 g v x<0
  ·rw[if_pos c,if_pos c];rfl
  ·rw[if_neg c,if_neg c];exact d
theorem P8{g:j0}(hf:C0 g=true){v x u:Int}(h:D0 g v x=u)(h0:0<=u):D0 g u (-x)=v:=by
 rcases k00 g v x with⟨e,_⟩|e
 ·omega
 ·rw[h]at e
  obtain⟨d,i,f⟩:=U2.1 e
  refine d02 hf (U2.2 ⟨d,i,?_⟩)
  rcases f with⟨a,b,c,rfl⟩|⟨a,b,c,rfl⟩
  ·exact .inr ⟨by omega,by omega,rfl,c.symm⟩
  ·exact .inl ⟨by omega,b,rfl,c.symm⟩
structure Mor (a b:j0) (f:Int->Int):Prop where
 base:f 0=0
 rng:∀ v,0<=v->v<a.2.1->0<=f v/\f v<b.2.1
 step:∀ v x,0<=v->v<a.2.1->0<=D0 a v x->D0 b (f v) x=f (D0 a v x)
theorem Mor.rdw{a b:j0}{f:Int->Int}(m:Mor a b f)(i:inG a):∀(w:List Int) (v u:Int),0<=v->v<a.2.1->rdw a v w=some u->rdw b (f v) w=some (f u)
 | [],v,u,h0,g,h=>by
  simp only[Go.Proofs.YtkjhghloldgioaaGreat.rdw,Option.some.injEq]at h ⊢
  rw[h]
 |x::w,v,u,h0,g,h=>by
  unfold Go.Proofs.YtkjhghloldgioaaGreat.rdw at h ⊢
  by_cases c:D0 a v x<0
  ·rw[if_pos c]at h;cases h
  ·rw[if_neg c]at h
   have j:=m.step v x h0 g (by omega)
   have d:0<=D0 a v x/\D0 a v x<a.2.1:=by
    rcases l8 i v x with e|e
    ·omega
    ·exact e
   have k:=m.rng _ d.1 d.2
   rw[j,if_neg (by omega)]
   exact Mor.rdw m i w _ u d.1 d.2 h
theorem Mor.loop{a b:j0}{f:Int->Int}(m:Mor a b f)(c:C0 a=true){w:List Int}(h:H03 a w=true):H03 b w=true:=by
 obtain⟨d,e,g,i⟩:=Q0 c
 rw[c0c]at h ⊢
 have:=m.rdw d w 0 0 (iR _) (by omega) h
 rwa [m.base]at this
abbrev Im:=List Int×List Int
def C05(a b:j0)(v x:Int)(s:Im):Option Im :=
 if D0 a v x<0 then some s else if D0 b (getI s.1 v) x<0 then none else if D0 a v x∈s.2 then(if getI s.1 (D0 a v x)=D0 b (getI s.1 v) x then some s else none)else some (s.1.set (D0 a v x).toNat (D0 b (getI s.1 v) x),s.2 ++ [D0 a v x])
def R0c(a b:j0)(v:Int):List Int->Im->Option Im
 | [],s=>some s
 |x::r,s=>(C05 a b v x s).bind λs=>R0c a b v r s
def U07(a b:j0)(ls:List Int):Nat->Nat->Im->Option Im
 |0,i,s=>some s
 |f+1,i,s=>match s.2[i]? with
  |some v=>(R0c a b v ls s).bind λs=>U07 a b ls f (i+1) s
  |none=>some s
def l00(a b:j0):Bool:=T0 a&&T0 b&&decide (a.1=b.1)&&(U07 a b (P1 a.1.toNat 1) (a.2.1.toNat+1) 0 (List.replicate a.2.1.toNat 0,[0])).isSome
def M0a(n:Nat)(s:Im):Prop:=s.1.length=n/\gud n s.2/\∀ z∈s.1,I0 z
theorem u08{a b:j0}{n:Nat}(w:a.2.1=(n:Int))(j:inG a)(k:inG b)(l:b.2.1<=40){v x:Int}{s s':Im}(h:M0a n s)(c:C05 a b v x s=some s'):M0a n s'/\∃ t,s'.2=s.2++t:=by
 unfold C05 at c
 split at c
 ·cases c;exact⟨h,[],by simp⟩
 ·rename_i u
  split at c
  ·cases c
  ·split at c
   ·split at c
    ·cases c;exact⟨h,[],by simp⟩
    ·cases c
   ·rename_i i
    cases c
    have o:0<=D0 a v x/\D0 a v x<(n:Int):=by
     rcases l8 j v x with e|e
     ·omega
     ·omega
    refine⟨⟨by simp[h.1],⟨?_,?_⟩,λz f=>?_⟩,_,rfl⟩
    ·refine List.nodup_append.2 ⟨h.2.1.1,by simp,λp m q g=>?_⟩
     simp at g;subst g;exact λe=>i (e▸m)
    ·intro y d
     rcases List.mem_append.1 d with d|d
     ·exact h.2.1.2 y d
     ·simp at d;subst d;exact o
    ·rcases List.mem_or_eq_of_mem_set f with f|rfl
     ·exact h.2.2 z f
     ·exact Z7 k l _ _
theorem m0q{A:List Int}{n:Nat}(b:A.length=n){x:Int}(h0:0<=x)(a:x<n):gi A x=some (getI A x):=giI b h0 a
theorem n0q(a b:j0)(n:Nat)(C:a.2.1=(n:Int))(q:C0 a=true)(u:C0 b=true)(ls:List Int)(A:∀ x∈ls,O3 x)(H:ls.length<=1000)(i:Nat)(v:Int):∀(d k fuel:Nat) (s:Im),M0a n s->s.2[i]?=some v->k+d=ls.length->d<fuel ->
  D5 ls (i:Int) a.1 a.2.1 a.2.2 b.1 b.2.1 b.2.2 fuel (k:Int) s.1 s.2=some (match R0c a b v (ls.drop k) s with|some s' => .inr s'|none => .inl false)
 |d,k,0,s,c,e,w,hf=>by omega
 |0,k,fuel+1,s,c,e,w,hf=>by
  rw[D5.eq_2,if_neg (by simp;omega),N1 (by omega)];rfl
 |d+1,k,fuel+1,s,c,e,w,hf=>by
  obtain⟨o,N,I,O⟩:=Q0 q
  obtain⟨E,L,F,M⟩:=Q0 u
  have g:k<ls.length:=by omega
  have l:=V5 g
  have j:=A _ (List.getElem_mem g)
  generalize ls[k]=x at l j
  have D:=c.2.1.2 v (List.mem_of_getElem? e)
  have J:=R6 n s.2 c.2.1.1 c.2.1.2
  have m:=λs' (h:M0a n s') (p:s'.2[i]?=some v)=>n0q a b n C q u ls A H i v d (k+1) fuel s' h p (by omega) (by omega)
  have f:=λs'=>u08 (v:=v) (x:=x) (s':=s') C o E F.2 c
  have K:=l8 o v x
  rw[D5.eq_2,if_pos (by simp;omega),T2 e,oB,T2 l,oB,show(a.1,a.2.1,a.2.2)=a from rfl,N8 a v x j (by omega),oB,F0 (Z7 o I.2 v x),oB,G2 g (by omega),L1 l,R0c]
  unfold C05 at f ⊢
  generalize D0 a v x=y at *
  by_cases c1:y<0
  ·rw[if_pos (by simp[c1]),if_pos c1,oB]
   exact m s c e
  ·rw[if_neg (by simp;omega),if_neg c1]
   rw[if_neg c1]at f
   rw[oB,m0q c.1 D.1 D.2,oB,oB,show(b.1,b.2.1,b.2.2)=b from rfl]
   rw[N8 b (getI s.1 v) x j (by omega),oB,F0 (Z7 E F.2 (getI s.1 v) x),oB]
   generalize D0 b (getI s.1 v) x=z at *
   by_cases c2:z<0
   ·rw[if_pos (by simp[c2]),if_pos c2];rfl
   ·rw[if_neg (by simp;omega),if_neg c2,r08 s.2 y (by omega),oB]
    rw[if_neg c2]at f
    by_cases c3:y∈s.2
    ·rw[if_pos c3]
     rw[if_neg (by simp[c3]),m0q c.1 (by omega) (by omega),oB]
     by_cases c4:getI s.1 y=z
     ·rw[if_neg (by simp[c4]),if_pos c4,oB]
      exact m s c e
     ·rw[if_pos (by simp[c4]),if_neg c4];rfl
    ·rw[if_neg c3]at f ⊢
     obtain⟨G,t,p⟩:=f _ rfl
     rw[if_pos (by simp[c3]),F0 (by simp;omega),oB,m0q c.1 (by omega) (by omega),oB,oB]
     exact m _ G (by simp only;rw[List.getElem?_append_left (List.getElem?_eq_some_iff.1 e).1];exact e)
theorem j0d{a b:j0}{n:Nat}(i:a.2.1=(n:Int))(d:inG a)(f:inG b)(g:b.2.1<=40)(v:Int):∀(ls:List Int) {s s':Im},M0a n s->R0c a b v ls s=some s'->M0a n s'/\∃ t,s'.2=s.2++t
 | [],s,s',h,c=>by cases c;exact⟨h,[],by simp⟩
 |x::r,s,s',h,c=>by
  rw[R0c]at c
  cases e:C05 a b v x s with
  |none=>rw[e]at c;cases c
  |some s1 =>
   rw[e]at c
   obtain⟨l,o,j⟩:=u08 i d f g h e
   obtain⟨m,p,k⟩:=j0d i d f g v r l c
   exact⟨m,o++p,by rw[k,j,List.append_assoc]⟩
theorem o0q(a b:j0)(n:Nat)(k:a.2.1=(n:Int))(h:C0 a=true)(j:C0 b=true)(ls:List Int)(p:∀ x∈ls,O3 x)(o:ls.length<=1000):∀(f i fuel:Nat) (s:Im),M0a n s->i<=s.2.length->n+1<=f+i->f<fuel ->
  d7 ls a.1 a.2.1 a.2.2 b.1 b.2.1 b.2.2 fuel (i:Int) s.1 s.2=some (match U07 a b ls f i s with|some s' => .inr s'|none => .inl false)
 |f,i,0,s,d,m,l,hf=>by omega
 |0,i,fuel+1,s,d,m,l,hf=>by have:=R6 n s.2 d.2.1.1 d.2.1.2;omega
 |f+1,i,fuel+1,s,d,m,l,hf=>by
  obtain⟨A,F,G,H⟩:=Q0 h
  obtain⟨y,D,z,E⟩:=Q0 j
  have C:=R6 n s.2 d.2.1.1 d.2.1.2
  rw[d7.eq_2,oB,F0 (by omega),oB]
  by_cases c:i<s.2.length
  ·have g:=V5 c
   generalize s.2[i]=v at g
   have h0:=n0q a b n k h j ls p o i v ls.length 0 U0 s d g (by omega) (C1 (by omega))
   rw[show((0:Nat):Int)=0 from rfl,List.drop_zero]at h0
   rw[if_pos (by simpa using c),h0,oB,G2 c (by omega)]
   unfold U07
   rw[g]
   cases e:R0c a b v ls s with
   |none=>simp only[e];rfl
   |some s1 =>
    obtain⟨u,t,q⟩:=j0d k A y z.2 v ls d e
    have w:=o0q a b n k h j ls p o f (i+1) fuel s1 u (by rw[q,List.length_append];omega) (by omega) (by omega)
    simp only[e,oB]
    exact w
  ·have g:s.2[i]?=none:=List.getElem?_eq_none (by omega)
   rw[if_neg (by simpa using c)]
   unfold U07
   rw[g]
theorem T0e(a b:j0)(E:a.2.2.length<=140737488355328)(F:b.2.2.length<=140737488355328):q01 a b=some (l00 a b):=by
 have u:=e04 a E
 have v:=e04 b F
 have w:J2 a=some (T0 a):=by
  obtain⟨x,y,z⟩:=a
  unfold J2
  simp only[u,oB]
 have A:J2 b=some (T0 b):=by
  obtain⟨x,y,z⟩:=b
  unfold J2
  simp only[v,oB]
 have f:T0 a=true->T0 b=true->d7 (P1 a.1.toNat 1) a.1 a.2.1 a.2.2 b.1 b.2.1 b.2.2 U0 ((0:Nat):Int) (List.replicate a.2.1.toNat 0) [0]=some (match U07 a b (P1 a.1.toNat 1) (a.2.1.toNat+1) 0 (List.replicate a.2.1.toNat 0,[0])with|some s' => .inr s'|none => .inl false):=λc i=>by
  have o:=E2 c
  have t:=E2 i
  obtain⟨H,I,J,K⟩:=Q0 o
  have L:=o8 a.1.toNat 1
  exact o0q a b a.2.1.toNat (by omega) o t (P1 a.1.toNat 1) (λx g=>by
   obtain⟨j,k,q,s⟩:=S07 _ _ _ g
   exact⟨⟨by omega,by omega⟩,by omega⟩) (by omega) (a.2.1.toNat+1) 0 U0 (List.replicate a.2.1.toNat 0,[0]) ⟨by simp,⟨by simp,λx g=>by simp at g;subst g;omega⟩,λz G=>by
    rw[List.eq_of_mem_replicate G];exact⟨by omega,by omega⟩⟩ (Nat.zero_le _) (by omega) (C1 (by omega))
 have C:T0 a=true->d5 a.1=some (P1 a.1.toNat 1)/\(0:Int)<=a.2.1/\a.2.1<=40:=λc=>by
  obtain⟨H,I,J,K⟩:=Q0 (E2 c)
  obtain⟨R,D⟩:∃ R:Nat,a.1=(R:Int):=⟨a.1.toNat,by omega⟩
  exact⟨by rw[D,P0b R (by omega)];rfl,by omega,by omega⟩
 unfold l00
 obtain⟨d,e,l⟩:=a
 obtain⟨h,m,n⟩:=b
 unfold q01
 simp only[w,oB]
 cases c:T0 (d,e,l)with
 |false=>rfl
 |true =>
  simp only[Bool.not_true,Bool.not_false,Q2,A,oB,cond_false,Bool.true_and]
  cases i:T0 (h,m,n)with
  |false=>rfl
  |true =>
   have f:=f c i
   obtain⟨k,q,s⟩:=C c
   simp only at f k q s
   by_cases hr:d=h
   ·rw[if_neg (by simp[hr]),F0 (by omega),oB,k,oB,show(0:Int)=((0:Nat):Int) from rfl]
    simp only[decide_eq_true hr,Bool.true_and]
    have p:=f
    rw[show((0:Nat):Int)=0 from rfl]at p ⊢
    rw[p,oB]
    cases U07 (d,e,l) (h,m,n) (P1 d.toNat 1) (e.toNat+1) 0 (List.replicate e.toNat 0,[0])<;>rfl
   ·rw[if_pos (by simp[hr])]
    simp[hr]
def D09(s s':Im):Prop:=(∃ t,s'.2=s.2++t)/\∀ v∈s.2,getI s'.1 v=getI s.1 v
theorem D09.refl(s:Im):D09 s s:=⟨⟨[],by simp⟩,λ_ _=>rfl⟩
theorem D09.trans{s s' b:Im}(h:D09 s s')(g:D09 s' b):D09 s b:=by
 obtain⟨⟨t,e⟩,f⟩:=h
 obtain⟨⟨i,c⟩,d⟩:=g
 exact⟨⟨t++i,by rw[c,e,List.append_assoc]⟩,λv a=>(d v (by rw[e];exact List.mem_append_left _ a)).trans (f v a)⟩
def S0l(a b:j0)(v x:Int)(s:Im):Prop:=0<=D0 a v x->D0 a v x∈s.2/\D0 b (getI s.1 v) x=getI s.1 (D0 a v x)
theorem S0l.le{a b:j0}{v x:Int}{s s':Im}(g:v∈s.2)(h:S0l a b v x s)(l:D09 s s'):S0l a b v x s':=λh0=>by
 obtain⟨c,d⟩:=h h0
 obtain⟨⟨t,e⟩,f⟩:=l
 exact⟨by rw[e];exact List.mem_append_left _ c,by rw[f v g,f _ c];exact d⟩
def inB(b:j0)(s:Im):Prop:=∀ v∈s.2,0<=getI s.1 v/\getI s.1 v<b.2.1
theorem B0o{a b:j0}{n:Nat}(z:a.2.1=(n:Int))(o:inG a)(p:inG b){v x:Int}{s s':Im}(h:M0a n s)(q:v∈s.2)(i:inB b s)(d:C05 a b v x s=some s'):D09 s s'/\S0l a b v x s'/\inB b s':=by
 unfold C05 at d
 split at d
 ·rename_i c;cases d;exact⟨D09.refl s,λh0=>by omega,i⟩
 ·rename_i w
  have j:0<=D0 a v x/\D0 a v x<(n:Int):=by
   rcases l8 o v x with e|e
   ·omega
   ·omega
  split at d
  ·cases d
  ·rename_i y
   have t:0<=D0 b (getI s.1 v) x/\D0 b (getI s.1 v) x<b.2.1:=by
    rcases l8 p (getI s.1 v) x with e|e
    ·omega
    ·exact e
   split at d
   ·rename_i g
    split at d
    ·rename_i m
     cases d
     exact⟨D09.refl s,λ_=>⟨g,m.symm⟩,i⟩
    ·cases d
   ·rename_i g
    cases d
    have k:∀ u∈s.2,getI (s.1.set (D0 a v x).toNat (D0 b (getI s.1 v) x)) u=getI s.1 u:=λu f=>by
     have:=h.2.1.2 u f
     rw[m01 j.1 (by rw[h.1];omega) this.1,if_neg λ(e:u=D0 a v x)=>g (by rw[←e];exact f)]
    have l:getI (s.1.set (D0 a v x).toNat (D0 b (getI s.1 v) x)) (D0 a v x)=D0 b (getI s.1 v) x:=by
     rw[m01 j.1 (by rw[h.1];omega) j.1,if_pos rfl]
    refine⟨⟨⟨_,rfl⟩,k⟩,λ_=>⟨List.mem_append_right _ (List.mem_singleton.2 rfl),?_⟩,λu f=>?_⟩
    ·show D0 b (getI (s.1.set _ _) v) x=getI (s.1.set _ _) (D0 a v x)
     rw[k v q,l]
    ·show 0<=getI (s.1.set _ _) u/\getI (s.1.set _ _) u<b.2.1
     rcases List.mem_append.1 f with f|f
     ·rw[k u f];exact i u f
     ·simp at f;subst f
      rw[l];exact t
theorem e0n{a b:j0}{n:Nat}(i:a.2.1=(n:Int))(f:inG a)(g:inG b)(l:b.2.1<=40){v:Int}:∀(ls:List Int) {s s':Im},M0a n s->v∈s.2->inB b s->R0c a b v ls s=some s'->D09 s s'/\(∀ x∈ls,S0l a b v x s')/\inB b s'
 | [],s,s',h,j,d,c=>by cases c;exact⟨D09.refl s,(λx z=>by cases z),d⟩
 |x::r,s,s',h,j,d,c=>by
  rw[R0c]at c
  cases e:C05 a b v x s with
  |none=>rw[e]at c;cases c
  |some s1 =>
   rw[e]at c
   obtain⟨o,A,q⟩:=B0o i f g h j d e
   have m:v∈s1.2:=by obtain⟨⟨t,w⟩,_⟩:=o;rw[w];exact List.mem_append_left _ j
   obtain⟨p,C,u⟩:=e0n i f g l r (u08 i f g l h e).1 m q c
   refine⟨o.trans p,λy k=>?_,u⟩
   rcases List.mem_cons.1 k with rfl|k
   ·exact A.le m p
   ·exact C y k
theorem o0k{a b:j0}{n:Nat}(z:a.2.1=(n:Int))(o:inG a)(p:inG b)(q:b.2.1<=40)(ls:List Int):∀(f i:Nat) {s s':Im},M0a n s->inB b s->n+1<=f+i->i<=s.2.length->(∀ j,j<i->∀ v,s.2[j]?=some v->∀ x∈ls,S0l a b v x s)->U07 a b ls f i s=some s' ->
  D09 s s'/\(∀ v∈s'.2,∀ x∈ls,S0l a b v x s')/\inB b s'/\M0a n s'
 |0,i,s,s',h,m,G,H,w,d=>by have:=R6 n s.2 h.2.1.1 h.2.1.2;omega
 |f+1,i,s,s',h,m,G,H,w,d=>by
  unfold U07 at d
  cases e:s.2[i]? with
  |none =>
   rw[e]at d
   cases d
   refine⟨D09.refl s,λv A x l=>?_,m,h⟩
   obtain⟨j,y⟩:=List.getElem?_of_mem A
   have N:=List.getElem?_eq_none_iff.1 e
   exact w j (by have:=(List.getElem?_eq_some_iff.1 y).1;omega) v y x l
  |some v =>
   rw[e]at d
   have A:=List.mem_of_getElem? e
   have I:=(List.getElem?_eq_some_iff.1 e).1
   simp only at d
   cases e1:R0c a b v ls s with
   |none=>rw[e1]at d;cases d
   |some s1 =>
    rw[e1]at d
    obtain⟨J,L,D⟩:=e0n z o p q ls h A m e1
    obtain⟨⟨t,g⟩,C⟩:=J
    obtain⟨K,M,E,F⟩:=o0k z o p q ls f (i+1) (j0d z o p q v ls h e1).1 D (by omega) (by rw[g,List.length_append];omega) (λj y u k x l=>by
     by_cases c:j=i
     ·subst c
      rw[g,List.getElem?_append_left I,e]at k
      cases k
      exact L x l
     ·rw[g,List.getElem?_append_left (by omega)]at k
      exact(w j (by omega) u k x l).le (List.mem_of_getElem? k) ⟨⟨t,g⟩,C⟩) d
    exact⟨D09.trans ⟨⟨t,g⟩,C⟩ K,M,E,F⟩
theorem V07{g:j0}(i:inG g)(m:1<=g.1){v x:Int}(h:0<=D0 g v x):x∈P1 g.1.toNat 1:=by
 rcases k00 g v x with⟨e,_⟩|e
 ·omega
 ·obtain⟨d,f,c⟩:=U2.1 e
  have l:=i d f
  rcases c with⟨a,b,_⟩|⟨a,b,_⟩
  ·obtain⟨j,_⟩:=J03 g.1.toNat 1 x.toNat (by omega) (by omega)
   rwa [show((x.toNat:Nat):Int)=x by omega]at j
  ·obtain⟨_,k⟩:=J03 g.1.toNat 1 (-x).toNat (by omega) (by omega)
   rwa [show -(((-x).toNat:Nat):Int)=x by omega]at k
theorem d0c{g:j0}(h:T0 g=true):w7 g=none:=by
 unfold T0 at h
 simp only[Bool.and_eq_true,Option.isNone_iff_eq_none]at h
 exact h.2.1
theorem U0e{g:j0}(h:T0 g=true){x:Int}(h0:0<=x)(b:x<g.2.1):Rch g.2.2 0 x:=by
 by_cases c:x=0
 ·subst c;exact .base
 ·have:=s05 (d0c h) x.toNat (by omega) (by omega)
  unfold H06 at this
  simp only[Bool.or_eq_false_iff,Bool.not_eq_false',decide_eq_true_eq]at this
  have a:=this.2
  rw[show((x.toNat:Nat):Int)=x by omega]at a
  exact(c04 _ _ _).1 a
theorem V0e{a b:j0}(h:l00 a b=true):∃ f,Mor a b f:=by
 unfold l00 at h
 simp only[Bool.and_eq_true,decide_eq_true_eq]at h
 obtain⟨⟨⟨q,D⟩,Q⟩,I⟩:=h
 have l:=E2 q
 obtain⟨p,T,U,V⟩:=Q0 l
 obtain⟨L,R,M,S⟩:=Q0 (E2 D)
 obtain⟨s',e⟩:=Option.isSome_iff_exists.1 I
 have H:a.2.1=((a.2.1.toNat:Nat):Int):=by omega
 have k:getI (List.replicate a.2.1.toNat (0:Int)) 0=0:=by
  have:0<a.2.1.toNat:=by omega
  unfold getI
  simp[List.getD_eq_getElem?_getD,List.getElem?_replicate,this]
 obtain⟨⟨⟨t,E⟩,G⟩,o,F,N⟩:=o0k H p L M.2 (P1 a.1.toNat 1) (a.2.1.toNat+1) 0 (s:=(List.replicate a.2.1.toNat 0,[0])) ⟨by simp,⟨by simp,λx c=>by simp at c;subst c;omega⟩,λz k=>by
  rw[List.eq_of_mem_replicate k];exact⟨by omega,by omega⟩⟩ (λv y=>by
  simp at y;subst y
  rw[k];omega) (by omega) (Nat.zero_le _) (λj w=>by omega) e
 have h0:(0:Int)∈s'.2:=by rw[E];simp
 have u:∀ v:Int,0<=v->v<a.2.1->v∈s'.2:=λv g i=>by
  refine Rch.sub (P:=λx=>x∈s'.2) h0 (λd n=>?_) (U0e q g i)
  have O:=p d n
  obtain⟨j,w⟩:∃ j:Nat,d.2.1=(j:Int):=⟨d.2.1.toNat,by omega⟩
  obtain⟨J,K⟩:=J03 a.1.toNat 1 j (by omega) (by omega)
  have A:D0 a d.1 (j:Int)=d.2.2:=d02 l (U2.2 ⟨d,n,.inl ⟨by omega,w,rfl,rfl⟩⟩)
  have C:D0 a d.2.2 (-(j:Int))=d.1:=d02 l (U2.2 ⟨d,n,.inr ⟨by omega,by omega,rfl,rfl⟩⟩)
  constructor
  ·intro m
   have:=(o d.1 m (j:Int) J (by rw[A];omega)).1
   rwa [A]at this
  ·intro m
   have:=(o d.2.2 m (-(j:Int)) K (by rw[C];omega)).1
   rwa [C]at this
 refine⟨getI s'.1,?_,λv g i=>F v (u v g i),λv x g i c=>(o v (u v g i) x (V07 p (by omega) c) c).2⟩
 rw[G 0 (by simp)]
 exact k
def imF(f:Int->Int)(s:Im):Prop:=∀ v∈s.2,getI s.1 v=f v
theorem T0l{a b:j0}{f:Int->Int}(m:Mor a b f){n:Nat}(p:a.2.1=(n:Int))(j:inG a){v x:Int}{s:Im}(h:M0a n s)(i:v∈s.2)(d:imF f s):∃ s',C05 a b v x s=some s'/\imF f s':=by
 have l:=h.2.1.2 v i
 unfold C05
 by_cases c1:D0 a v x<0
 ·rw[if_pos c1];exact⟨s,rfl,d⟩
 ·have g:0<=D0 a v x/\D0 a v x<(n:Int):=by
   rcases l8 j v x with e|e
   ·omega
   ·omega
  have k:=m.step v x l.1 (by omega) g.1
  have o:=m.rng _ g.1 (by omega)
  rw[if_neg c1,d v i,k,if_neg (by omega)]
  by_cases c3:D0 a v x∈s.2
  ·rw[if_pos c3,if_pos (d _ c3)];exact⟨s,rfl,d⟩
  ·rw[if_neg c3]
   refine⟨_,rfl,λu c=>?_⟩
   show getI (s.1.set _ _) u=f u
   rcases List.mem_append.1 c with c|c
   ·have:=h.2.1.2 u c
    rw[m01 g.1 (by rw[h.1];omega) this.1,if_neg λ(e:u=D0 a v x)=>c3 (by rw[←e];exact c)]
    exact d u c
   ·simp at c;subst c
    rw[m01 g.1 (by rw[h.1];omega) g.1,if_pos rfl]
theorem p0k{a b:j0}{f:Int->Int}(m:Mor a b f){n:Nat}(e:a.2.1=(n:Int))(d:inG a)(j:inG b)(k:b.2.1<=40){v:Int}:∀(ls:List Int) {s:Im},M0a n s->v∈s.2->imF f s->∃ s',R0c a b v ls s=some s'/\imF f s'
 | [],s,h,g,c=>⟨s,rfl,c⟩
 |x::r,s,h,g,c=>by
  obtain⟨s1,i,l⟩:=T0l m e d (x:=x) h g c
  obtain⟨q,t,p⟩:=u08 e d j k h i
  obtain⟨s2,o,F2⟩:=p0k m e d j k r q (by rw[p];exact List.mem_append_left _ g) l
  exact⟨s2,by rw[R0c,i];exact o,F2⟩
theorem b0h{a b:j0}{f:Int->Int}(m:Mor a b f){n:Nat}(k:a.2.1=(n:Int))(c:inG a)(g:inG b)(j:b.2.1<=40)(ls:List Int):∀(d i:Nat) {s:Im},M0a n s->imF f s->∃ s',U07 a b ls d i s=some s'
 |0,i,s,h,o=>⟨s,rfl⟩
 |d+1,i,s,h,o=>by
  unfold U07
  cases e:s.2[i]? with
  |none=>exact⟨s,rfl⟩
  |some v =>
   obtain⟨s1,l,p⟩:=p0k m k c g j ls h (List.mem_of_getElem? e) o
   obtain⟨s2,q⟩:=b0h m k c g j ls d (i+1) (j0d k c g j v ls h l).1 p
   exact⟨s2,by simp only[l,oB];exact q⟩
theorem U0l{a b:j0}(d:T0 a=true)(g:T0 b=true)(k:a.1=b.1){f:Int->Int}(m:Mor a b f):l00 a b=true:=by
 obtain⟨o,t,u,w⟩:=Q0 (E2 d)
 obtain⟨l,p,n,q⟩:=Q0 (E2 g)
 have j:a.2.1=((a.2.1.toNat:Nat):Int):=by omega
 have c:getI (List.replicate a.2.1.toNat (0:Int)) 0=0:=by
  have:0<a.2.1.toNat:=by omega
  unfold getI
  simp[List.getD_eq_getElem?_getD,List.getElem?_replicate,this]
 obtain⟨s',e⟩:=b0h m j o l n.2 (P1 a.1.toNat 1) (a.2.1.toNat+1) 0 (s:=(List.replicate a.2.1.toNat 0,[0])) ⟨by simp,⟨by simp,λx i=>by simp at i;subst i;omega⟩,λz c=>by
  rw[List.eq_of_mem_replicate c];exact⟨by omega,by omega⟩⟩ (λv h=>by
  simp at h;subst h
  rw[m.base];exact c)
 unfold l00
 rw[d,g,e,decide_eq_true k]
 rfl
abbrev Tr8:=List (Option (List Int))×List Int
def trS(g:j0)(v x:Int)(s:Tr8):Tr8:=if 0<=D0 g v x/\D0 g v x ∉ s.2 then(s.1.set (D0 g v x).toNat (some ((K9 s.1 v).getD [] ++ [x])),s.2 ++ [D0 g v x])else s
def q0k(g:j0)(v:Int):List Int->Tr8->Tr8
 | [],s=>s
 |x::r,s=>q0k g v r (trS g v x s)
def N0a(g:j0)(ls:List Int):Nat->Nat->Tr8->Tr8
 |0,i,s=>s
 |f+1,i,s=>match s.2[i]? with
  |some v=>N0a g ls f (i+1) (q0k g v ls s)
  |none=>s
def C3(g:j0)(p:Int):List Int:=p5 g (P1 g.1.toNat 1) (g.2.1.toNat+1) 0 [p]
def e0c(g:j0)(p:Int):Tr8:=N0a g (P1 g.1.toNat 1) (g.2.1.toNat+1) 0 ((List.replicate g.2.1.toNat none).set p.toNat (some []),[p])
theorem f0n(g:j0)(v x:Int)(s:Tr8):(trS g v x s).2=L02 s.2 (D0 g v x):=by
 unfold trS L02
 split<;>rfl
theorem W0e(g:j0)(v:Int):∀(ls:List Int) (s:Tr8),(q0k g v ls s).2=j9 g v ls s.2
 | [],s=>rfl
 |x::r,s=>by rw[q0k,W0e g v r,f0n];rfl
theorem d0h(g:j0)(ls:List Int):∀(f i:Nat) (s:Tr8),(N0a g ls f i s).2=p5 g ls f i s.2
 |0,i,s=>rfl
 |f+1,i,s=>by
  unfold N0a p5
  cases s.2[i]? with
  |none=>rfl
  |some v=>simp only[d0h g ls f,W0e]
theorem X0e(g:j0)(p:Int):(e0c g p).2=C3 g p:=d0h _ _ _ _ _
structure TOk (g:j0) (p:Int) (n:Nat) (s:Tr8):Prop where
 ok:WOk n s.1 s.2
 gd:gud n s.2
 base:p∈s.2
 word:K9 s.1 p=some []
 par:∀ y∈s.2,y≠p->∃ v∈s.2,∃ x,x∈P1 g.1.toNat 1/\D0 g v x=y/\∃ a,K9 s.1 v=some a/\K9 s.1 y=some (a ++ [x])
 red:∀ y∈s.2,∀ a,K9 s.1 y=some a->Red a.reverse=true
theorem WOk.add{n:Nat}{b:List (Option (List Int))}{u:List Int}(a:WOk n b u){y:Int}(d:0<=y)(h:y<(n:Int))(v x:Int):WOk n (b.set y.toNat (some ((K9 b v).getD [] ++ [x]))) (u ++ [y]):=by
 have e:=a.short v
 refine⟨by simp[a.len],λz h0 f=>?_,λz=>?_⟩
 ·rw[n01 d (by have:=a.len;omega) h0]
  by_cases c:z=y
  ·rw[if_pos c];simp[c]
  ·rw[if_neg c,a.iff z h0 f];simp[c]
 ·by_cases hz:0<=z
  ·rw[n01 d (by have:=a.len;omega) hz]
   by_cases c:z=y
   ·rw[if_pos c];simp;exact e
   ·rw[if_neg c];have:=a.short z;simp only[List.length_append];omega
  ·have g:K9 (b.set y.toNat (some ((K9 b v).getD [] ++ [x]))) z=K9 (b.set y.toNat (some ((K9 b v).getD [] ++ [x]))) 0:=by
    unfold K9;rw[show z.toNat=(0:Int).toNat by omega]
   rw[g,n01 d (by have:=a.len;omega) (iR 0)]
   by_cases c:(0:Int)=y
   ·rw[if_pos c];simp;exact e
   ·rw[if_neg c];have:=a.short 0;simp only[List.length_append];omega
theorem WOk.get{n:Nat}{b:List (Option (List Int))}{u:List Int}(f:WOk n b u){v:Int}(h0:0<=v)(c:v<(n:Int))(d:v∈u):∃ a,K9 b v=some a:=by
 cases e:K9 b v with
 |none=>exact absurd d ((f.iff v h0 c).1 (by rw[e];rfl))
 |some a=>exact⟨a,rfl⟩
theorem m04{R:Nat}(b:R<=900){x:Int}(a:x∈P1 R 1):O3 x/\x≠0 /\ -(R:Int)<=x/\x<=(R:Int):=by
 obtain⟨j,c,d,e⟩:=S07 _ _ _ a
 exact⟨⟨⟨by omega,by omega⟩,by omega⟩,by omega,by omega,by omega⟩
theorem q0q{l x:Int}(a:O3 l)(h:b06 l x=true):x = -l:=by
 unfold b06 at h
 simp only[Bool.and_eq_true,beq_iff_eq]at h
 rw[h.2];exact B0g a.1 a.2
theorem TOk.add{g:j0}(hf:C0 g=true){p:Int}{n:Nat}(T:g.2.1=(n:Int)){s:Tr8}(h:TOk g p n s){v x:Int}(j:v∈s.2)(O:x∈P1 g.1.toNat 1):TOk g p n (trS g v x s):=by
 obtain⟨R,U,V,W⟩:=Q0 hf
 unfold trS
 split
 ·rename_i c
  obtain⟨o,w⟩:=c
  have Q:D0 g v x<(n:Int):=by
   rcases l8 R v x with e|e<;>omega
  obtain⟨m,u⟩:=s
  obtain⟨ok,q,base,J,G,H⟩:=h
  simp only at j o w ok q base J G H ⊢
  have E:=q.2 v j
  obtain⟨a,i⟩:=ok.get E.1 E.2 j
  have S:=ok.len
  have keep:∀ z∈u,K9 (m.set (D0 g v x).toNat (some ((K9 m v).getD [] ++ [x]))) z=K9 m z:=λz L=>by
   have:=q.2 z L
   rw[n01 o (by omega) this.1,if_neg λ(e:z=D0 g v x)=>w (by rw[←e];exact L)]
  have new:K9 (m.set (D0 g v x).toNat (some ((K9 m v).getD [] ++ [x]))) (D0 g v x)=some (a ++ [x]):=by
   rw[n01 o (by omega) o,if_pos rfl,i];rfl
  refine⟨ok.add o Q v x,⟨List.nodup_append.2 ⟨q.1,by simp,λa i b f=>?_⟩,λy d=>?_⟩,List.mem_append_left _ base,?_,λy d P=>?_,λy d b f=>?_⟩
  ·simp at f;subst f;exact λe=>w (e▸i)
  ·rcases List.mem_append.1 d with d|d
   ·exact q.2 y d
   ·simp at d;subst d;omega
  ·rw[keep p base];exact J
  ·rcases List.mem_append.1 d with d|d
   ·obtain⟨I,C,M,F,D,b,A,k⟩:=G y d P
    exact⟨I,List.mem_append_left _ C,M,F,D,b,by rw[keep I C];exact A,by rw[keep y d];exact k⟩
   ·simp at d;subst d
    exact⟨v,List.mem_append_left _ j,x,O,rfl,a,by rw[keep v j];exact i,new⟩
  ·rcases List.mem_append.1 d with d|d
   ·rw[keep y d]at f;exact H y d b f
   ·simp at d;subst d
    rw[new]at f;cases f
    have K:=H v j a i
    rw[List.reverse_append]
    show Red (x::a.reverse)=true
    cases e:a.reverse with
    |nil=>rfl
    |cons l t =>
     rw[e]at K
     unfold Red
     rw[K,Bool.and_true]
     cases hc:b06 l x with
     |false=>rfl
     |true =>
      exfalso
      have N:v≠p:=λA=>by
       subst A
       rw[J]at i;cases i;simp at e
      obtain⟨I,C,M,F,D,b,A,k⟩:=G v j N
      rw[i]at k
      injection k with k
      rw[k,List.reverse_append]at e
      simp only[List.reverse_cons,List.reverse_nil,List.nil_append,List.cons_append,List.cons.injEq]at e
      rw[←e.1]at hc
      have:=q0q (m04 (by omega) F).1 hc
      have f:=P8 hf D E.1
      rw[←this]at f
      exact w (f▸C)
 ·exact h
theorem g0n(g:j0)(v x:Int)(s:Tr8):∃ t,(trS g v x s).2=s.2++t:=by rw[f0n];exact A0e _ _
theorem r0q(g:j0)(v:Int)(ls:List Int)(s:Tr8):∃ t,(q0k g v ls s).2=s.2++t:=by rw[W0e];exact T00 _ _ _ _
theorem TOk.inn{g:j0}(hf:C0 g=true){p:Int}{n:Nat}(c:g.2.1=(n:Int)){v:Int}:∀(ls:List Int) {s:Tr8},TOk g p n s->v∈s.2->(∀ x∈ls,x∈P1 g.1.toNat 1)->TOk g p n (q0k g v ls s)
 | [],s,h,b,a=>h
 |x::r,s,h,b,a=>by
  obtain⟨t,e⟩:=g0n g v x s
  exact TOk.inn hf c r (h.add hf c b (a x mS)) (by rw[e];exact List.mem_append_left _ b) λy d=>a y (mC _ d)
theorem TOk.out{g:j0}(hf:C0 g=true){p:Int}{n:Nat}(a:g.2.1=(n:Int)):∀(f i:Nat) {s:Tr8},TOk g p n s->TOk g p n (N0a g (P1 g.1.toNat 1) f i s)
 |0,i,s,h=>h
 |f+1,i,s,h=>by
  unfold N0a
  cases e:s.2[i]? with
  |none=>exact h
  |some v=>exact TOk.out hf a f (i+1) (h.inn hf a _ (List.mem_of_getElem? e) λx b=>b)
theorem s0q(N:Nat)(x:Int):K9 (List.replicate N (none:Option (List Int))) x=none:=by
 unfold K9
 rw[List.getD_eq_getElem?_getD,List.getElem?_replicate];split<;>rfl
theorem e0h(g:j0){p:Int}{N:Nat}(d:0<=p/\p<(N:Int)):TOk g p N ((List.replicate N none).set p.toNat (some []),[p]):=by
 have f:∀ x,0<=x->K9 ((List.replicate N (none:Option (List Int))).set p.toNat (some [])) x=if x=p then some []else none:=λx h0=>by
  rw[n01 d.1 (by simp;omega) h0,s0q]
 refine⟨⟨by simp,λx h0 k=>?_,λx=>?_⟩,⟨by simp,λx j=>by simp at j;subst j;exact d⟩,by simp,?_,λy b h=>?_,λy b a i=>?_⟩
 ·simp only
  rw[f x h0]
  by_cases c:x=p
  ·rw[if_pos c];simp[c]
  ·rw[if_neg c];simp[c]
 ·have:∀ x,0<=x->((K9 ((List.replicate N (none:Option (List Int))).set p.toNat (some [])) x).getD []).length<=1:=λx h0=>by
   rw[f x h0];split<;>simp
  by_cases hz:0<=x
  ·exact this x hz
  ·have e:K9 ((List.replicate N (none:Option (List Int))).set p.toNat (some [])) x=K9 ((List.replicate N (none:Option (List Int))).set p.toNat (some [])) 0:=by
    unfold K9;rw[show x.toNat=(0:Int).toNat by omega]
   simp only
   rw[e];exact this 0 (iR 0)
 ·simp only
  rw[f p d.1,if_pos rfl]
 ·simp at b;exact absurd b h
 ·simp at b;subst b
  simp only at i
  rw[f y d.1,if_pos rfl]at i
  cases i;rfl
theorem s0i{g:j0}(hf:C0 g=true){p:Int}(a:0<=p/\p<g.2.1):TOk g p g.2.1.toNat (e0c g p):=by
 obtain⟨b,c,d,e⟩:=Q0 hf
 exact TOk.out hf (by omega) _ _ (e0h g ⟨a.1,by omega⟩)
theorem M0s{g:j0}(hf:C0 g=true)(p:Int){n:Nat}(q:g.2.1=(n:Int))(ls:List Int)(o:∀ x∈ls,x∈P1 g.1.toNat 1)(A:ls.length<=1000000)(v:Int):∀(d k fuel:Nat) (s:Tr8),TOk g p n s->v∈s.2->k+d=ls.length->d<fuel ->
  Q3 ls g.1 g.2.1 g.2.2 v fuel (k:Int) s.1 s.2=some (q0k g v (ls.drop k) s)
 |d,k,0,s,a,b,j,hf=>by omega
 |0,k,fuel+1,s,a,b,j,hf=>by
  rw[Q3.eq_2,if_neg (by simp;omega),N1 (by omega)];rfl
 |d+1,k,fuel+1,s,a,b,j,G=>by
  obtain⟨w,K,F,L⟩:=Q0 hf
  have m:k<ls.length:=by omega
  have e:=V5 m
  have f:=o _ (List.mem_of_getElem? e)
  have l:=L1 e
  generalize ls[k]=x at e f l
  have D:=(m04 (by omega) f).1
  have H:=R6 n s.2 a.gd.1 a.gd.2
  have I:=l8 w v x
  have C:=a.add hf q b f
  obtain⟨t,z⟩:=g0n g v x s
  have E:=M0s hf p q ls o A v d (k+1) fuel (trS g v x s) C (by rw[z];exact List.mem_append_left _ b) (by omega) (by omega)
  have c:=a.ok
  have u:=a.gd.2 v b
  rw[Q3.eq_2,if_pos (by simp;omega),l,q0k,←E]
  simp only[T2 e,oB,show(g.1,g.2.1,g.2.2)=g from rfl,g00 g v x D (by omega),F0 (Z7 w F.2 v x),G2 m (show ls.length<=9223372036854775807 by omega)]
  unfold trS
  generalize D0 g v x=y at *
  by_cases c1:0<=y
  ·have i:y<(n:Int):=by omega
   simp only[show decide (y ≥ 0)=true by simpa using c1,Q2,giO c.len c1 i,oB,cond_true]
   by_cases c2:y∈s.2
   ·have : ¬ ((K9 s.1 y).isNone=true):=λh=>(c.iff y c1 i).1 h c2
    rw[if_neg this,if_neg λh=>h.2 c2]
   ·have:(K9 s.1 y).isNone=true:=(c.iff y c1 i).2 c2
    have J:=c.short v
    rw[if_pos this,if_pos ⟨c1,c2⟩,giO c.len u.1 u.2,oB,W0m (by omega),oB,F0 (by simp;omega),oB,F0 (by simp;omega),oB]
  ·simp only[show decide (y ≥ 0)=false by simpa using c1,o5,oB,cond_false]
   rw[if_neg (by simp),if_neg λh=>c1 h.1]
theorem N0s{g:j0}(hf:C0 g=true)(p:Int){n:Nat}(c:g.2.1=(n:Int)):∀(f i fuel:Nat) (s:Tr8),TOk g p n s->i<=s.2.length->n+1<=i+f->f<fuel ->
  Y4 g.1 g.2.1 g.2.2 fuel (i:Int) s.1 s.2=some (N0a g (P1 g.1.toNat 1) f i s)
 |f,i,0,s,b,h,d,hf=>by omega
 |0,i,fuel+1,s,b,h,d,hf=>by have:=R6 n s.2 b.gd.1 b.gd.2;omega
 |f+1,i,fuel+1,s,b,h,d,m=>by
  obtain⟨q,u,w,y⟩:=Q0 hf
  have o:=R6 n s.2 b.gd.1 b.gd.2
  rw[Y4.eq_2,oB,F0 (by omega),oB]
  by_cases hk:i<s.2.length
  ·have a:=V5 hk
   generalize s.2[i]=v at a
   have j:=List.mem_of_getElem? a
   have h0:=M0s hf p c (P1 g.1.toNat 1) (λx a=>a) (by rw[o8];omega) v (P1 g.1.toNat 1).length 0 U0 s b j (by omega) (C1 (by rw[o8];omega))
   rw[show((0:Nat):Int)=0 from rfl,List.drop_zero]at h0
   obtain⟨t,e⟩:=r0q g v (P1 g.1.toNat 1) s
   have l:=N0s hf p c f (i+1) fuel _ (b.inn hf c _ j λx a=>a) (by rw[e,List.length_append];omega) (by omega) (by omega)
   have k:d4 g.1=some (P1 g.1.toNat 1):=by
    have:=O0b g.1.toNat (by omega)
    rwa [show((g.1.toNat:Nat):Int)=g.1 by omega]at this
   rw[if_pos (by simpa using hk),T2 a,oB,k,oB,h0,oB]
   simp only[G2 hk (show s.2.length<=9223372036854775807 by omega),N0a,a]
   exact l
  ·have a:s.2[i]?=none:=List.getElem?_eq_none (by omega)
   rw[if_neg (by simpa using hk)]
   simp only[N0a,a]
def M06(g:j0)(p:Int):List (List Int):=(e0c g p).1.map λo=>o.getD []
theorem Y0e{g:j0}(hf:C0 g=true){p:Int}(f:0<=p/\p<g.2.1):a7 g p=some (C3 g p,M06 g p):=by
 obtain⟨h,i,j,l⟩:=Q0 hf
 have d:g.2.1=((g.2.1.toNat:Nat):Int):=by omega
 have h0:=N0s hf p d (g.2.1.toNat+1) 0 U0 _ (e0h g (N:=g.2.1.toNat) ⟨f.1,by omega⟩) (by simp) (by omega) (C1 (by omega))
 have e:gi (List.replicate g.2.1.toNat (none:Option (List Int))) p=some none:=by
  have:=T2 (xs:=List.replicate g.2.1.toNat (none:Option (List Int))) (k:=p.toNat) (x:=none) (by rw[List.getElem?_replicate,if_pos (by omega)])
  rwa [show((p.toNat:Nat):Int)=p by omega]at this
 rw[←X0e]
 unfold M06 e0c
 obtain⟨a,b,c⟩:=g
 simp only at *
 unfold a7
 simp only
 rw[F0 (by omega),oB,e,oB]
 rw[show((0:Nat):Int)=0 from rfl]at h0
 rw[h0]
 rfl
def tw(g:j0)(p v:Int):List Int:=(K9 (e0c g p).1 v).getD []
structure W0f (g:j0) (p:Int) (t:Int->List Int):Prop where
 z:t p = []
 par:∀ y∈C3 g p,y≠p->∃ v∈C3 g p,∃ x,x∈P1 g.1.toNat 1/\D0 g v x=y/\t y=t v ++ [x]
 red:∀ y∈C3 g p,Red (t y).reverse=true
 len:∀ y,(t y).length<=40
theorem z01{g:j0}(hf:C0 g=true){p:Int}(k:0<=p/\p<g.2.1):W0f g p (tw g p):=by
 obtain⟨o,q,s,t⟩:=Q0 hf
 have h:=s0i hf k
 have e:=X0e g p
 refine⟨by unfold tw;rw[h.word];rfl,λy b n=>?_,λy b=>?_,λy=>?_⟩
 ·rw[←e]at b ⊢
  obtain⟨v,l,x,m,f,a,i,j⟩:=h.par y b n
  exact⟨v,l,x,m,f,by unfold tw;rw[i,j];rfl⟩
 ·rw[←e]at b
  have d:=h.gd.2 y b
  obtain⟨a,c⟩:=h.ok.get d.1 d.2 b
  unfold tw
  rw[c]
  exact h.red y b a c
 ·have:=h.ok.short y
  have:=R6 _ _ h.gd.1 h.gd.2
  unfold tw
  omega
theorem B00{g:j0}(hf:C0 g=true){p:Int}(a:0<=p/\p<g.2.1):gud g.2.1.toNat (C3 g p):=by
 rw[←X0e];exact(s0i hf a).gd
theorem O0a(g:j0)(p:Int):∃ t,C3 g p=p::t:=by
 obtain⟨t,e⟩:=K06 g (P1 g.1.toNat 1) (g.2.1.toNat+1) 0 [p]
 exact⟨t,e⟩
theorem W0f.ind{g:j0}{p:Int}{t:Int->List Int}(h:W0f g p t)(P:Int->Prop)(h0:P p)(d:∀ v∈C3 g p,∀ y∈C3 g p,∀ x,x∈P1 g.1.toNat 1->D0 g v x=y->t y=t v ++ [x]->P v->P y):∀(k:Nat) (y:Int),(t y).length<=k->y∈C3 g p->P y
 |k,y,a,f=>by
  by_cases c:y=p
  ·rw[c];exact h0
  ·obtain⟨v,e,x,j,i,b⟩:=h.par y f c
   cases k with
   |zero=>rw[b]at a;simp at a
   |succ k=>exact d v e y f x j i b (W0f.ind h P h0 d k v (by rw[b]at a;simp at a;omega) e)
theorem W0f.induct{g:j0}{p:Int}{t:Int->List Int}(h:W0f g p t){P:Int->Prop}(h0:P p)(a:∀ v∈C3 g p,∀ y∈C3 g p,∀ x,x∈P1 g.1.toNat 1->D0 g v x=y->t y=t v ++ [x]->P v->P y){y:Int}(b:y∈C3 g p):P y:=h.ind P h0 a _ y (Nat.le_refl _) b
theorem t0i{g:j0}{v x y:Int}(h:D0 g v x=y)(h0:0<=y):rdw g v [x]=some y:=by
 unfold rdw
 rw[if_neg (by omega),h];rfl
theorem W0f.rd{g:j0}(hf:C0 g=true){p:Int}(d:0<=p/\p<g.2.1){t:Int->List Int}(h:W0f g p t){y:Int}(a:y∈C3 g p):rdw g p (t y)=some y:=by
 refine h.induct (P:=λy=>rdw g p (t y)=some y) ?_ (λv f y a x i b c e=>?_) a
 ·rw[h.z];rfl
 ·rw[c,f04,e,oB]
  exact t0i b ((B00 hf d).2 y a).1
theorem W0f.let{g:j0}{p:Int}{t:Int->List Int}(h:W0f g p t){y:Int}(c:y∈C3 g p):∀ x∈t y,x∈P1 g.1.toNat 1:=by
 refine h.induct (P:=λy=>∀ x∈t y,x∈P1 g.1.toNat 1) ?_ (λv i y c x b f d e=>?_) c
 ·rw[h.z];exact λx b=>by cases b
 ·rw[d]
  intro z a
  rcases List.mem_append.1 a with a|a
  ·exact e z a
  ·simp at a;rw[a];exact b
def r0k(w:List Int):Int:=w.getLastD 0
theorem c06(a:List Int)(x:Int):r0k (a ++ [x])=x:=by unfold r0k;simp
def tE(g:j0)(v:Int):M0:=stp (D0 g v (-(r0k (tw g 0 v)))) (r0k (tw g 0 v)) v
def Z02(g:j0):List M0:=F6 D1 [] ((C3 g 0).tail.map (tE g))
theorem Z0e{g:j0}(hf:C0 g=true){p:Int}(b:0<=p/\p<g.2.1){v:Int}(d:0<=v/\v<g.2.1):gi (M06 g p) v=some (tw g p v):=by
 have h:=s0i hf b
 have c:=h.ok.len
 have a:v.toNat<(e0c g p).1.length:=by omega
 have:=T2 (xs:=M06 g p) (k:=v.toNat) (x:=tw g p v) (by
  unfold M06 tw K9
  rw[List.getElem?_map,List.getElem?_eq_getElem a,List.getD_eq_getElem?_getD,List.getElem?_eq_getElem a];rfl)
 rwa [show((v.toNat:Nat):Int)=v by omega]at this
theorem a0f{g:j0}(hf:C0 g=true){v:Int}:v∈(C3 g 0).tail↔v∈C3 g 0/\v≠0:=by
 obtain⟨f,i,j,k⟩:=Q0 hf
 obtain⟨t,e⟩:=O0a g 0
 have b:=(B00 hf (p:=0) ⟨by omega,by omega⟩).1
 rw[e]at b ⊢
 have:=(List.nodup_cons.1 b).1
 constructor
 ·intro h
  exact⟨mC _ h,λc=>this (c▸h)⟩
 ·rintro⟨a,d⟩
  rcases List.mem_cons.1 a with a|a
  ·exact absurd a d
  ·exact a
theorem h0n{g:j0}(hf:C0 g=true):∀(d k fuel:Nat) (acc:List M0),k+d=(C3 g 0).tail.length->d<fuel->acc.length<=k ->
  p6 (C3 g 0).tail (M06 g 0) g.1 g.2.1 g.2.2 fuel (k:Int) acc=some (acc++((C3 g 0).tail.drop k).map (tE g))
 |d,k,0,acc,j,s,i=>by omega
 |0,k,fuel+1,acc,j,s,i=>by
  rw[p6.eq_2,if_neg (by simp only[decide_eq_true_eq];omega),N1 (by omega)];simp
 |d+1,k,fuel+1,acc,j,G,i=>by
  obtain⟨D,M,E,N⟩:=Q0 hf
  have f:(0:Int)<=0/\(0:Int)<g.2.1:=⟨by omega,by omega⟩
  have h:=z01 hf f
  have e:=B00 hf f
  have H:=R6 _ _ e.1 e.2
  have m:k<(C3 g 0).tail.length:=by omega
  have K:(C3 g 0).tail.length<=40:=by rw[List.length_tail];omega
  have b:=V5 m
  have n:=List.mem_of_getElem? b
  have l:=L1 b
  generalize (C3 g 0).tail[k]=v at b n l
  obtain⟨o,z⟩:=(a0f hf).1 n
  have A:=e.2 v o
  obtain⟨u,L,x,C,F,c⟩:=h.par v o z
  have a:=m04 (by omega) C
  have I:(tw g 0 v).length=(tw g 0 u).length+1:=by rw[c];simp
  have J:=h.len u
  have q:gi (tw g 0 v) (IntKind.i64.wrap (((tw g 0 v).length:Nat)-1))=some x:=by
   rw[w64 (by omega) (by omega),show(((tw g 0 v).length:Nat):Int)-1=(((tw g 0 u).length:Nat):Int) by omega]
   refine T2 ?_
   rw[c,List.getElem?_append_right (Nat.le_refl _)];simp
  have y:tE g v=stp (D0 g v (-x)) x v:=by unfold tE;rw[c,c06]
  have w:O3 (-x):=⟨⟨by have:=a.2.2;omega,by have:=a.2.2;omega⟩,by have:=a.2.2;omega⟩
  have p:=h0n hf d (k+1) fuel (acc ++ [tE g v]) (by omega) (by omega) (by simp;omega)
  rw[p6.eq_2,if_pos (by simp only[decide_eq_true_eq];omega),T2 b,oB,Z0e hf f ⟨A.1,by omega⟩,oB,q,oB,B0g a.1.1 a.1.2,show(g.1,g.2.1,g.2.2)=g from rfl,g00 g v (-x) w (by omega),oB,F0 (Z7 D E.2 v _),oB,e0q _ x v a.1,oB,←y,G2 m (by omega),l,List.map_cons]
  generalize tE g v=t at p ⊢
  obtain⟨O,P,Q⟩:=t
  simp only
  rw[F0 (by simp;omega),oB]
  rw[p]
  simp
theorem s0k{g:j0}(hf:C0 g=true):V00 g=some (Z02 g):=by
 obtain⟨n,o,p,q⟩:=Q0 hf
 have f:(0:Int)<=0/\(0:Int)<g.2.1:=⟨by omega,by omega⟩
 have d:=B00 hf f
 have m:=R6 _ _ d.1 d.2
 have i:=Y0e hf f
 obtain⟨t,h⟩:=O0a g 0
 have j:D06 (C3 g 0) 1 (((C3 g 0).length:Nat):Int)=some (C3 g 0).tail:=by
  have:=P04 (xs:=C3 g 0) (k:=1) (by rw[h];simp)
  rw[show((1:Nat):Int)=1 from rfl]at this
  rw[this,List.drop_one]
 have e:=h0n hf (C3 g 0).tail.length 0 U0 [] (by omega) (C1 (by rw[List.length_tail];omega)) (by simp)
 rw[show((0:Nat):Int)=0 from rfl,List.drop_zero,List.nil_append]at e
 have l:=B0a ((C3 g 0).tail.map (tE g)) (by rw[List.length_map,List.length_tail];omega)
 unfold Z02
 obtain⟨a,b,c⟩:=g
 simp only at *
 unfold V00
 simp only[i,oB,j,e,l]
theorem v08{g:j0}(hf:C0 g=true){e:M0}:e∈Z02 g↔∃ z∈C3 g 0,∃ q∈C3 g 0,∃ l,l∈P1 g.1.toNat 1/\D0 g q l=z/\tw g 0 z=tw g 0 q ++ [l]/\e=stp q l z:=by
 obtain⟨p,s,t,u⟩:=Q0 hf
 have m:(0:Int)<=0/\(0:Int)<g.2.1:=⟨by omega,by omega⟩
 have j:=z01 hf m
 have i:=B00 hf m
 unfold Z02
 rw[z9 H8,List.mem_map]
 constructor
 ·rintro(h|⟨z,d,rfl⟩)
  ·cases h
  ·obtain⟨f,o⟩:=(a0f hf).1 d
   obtain⟨q,n,l,k,b,a⟩:=j.par z f o
   refine⟨z,f,q,n,l,k,b,a,?_⟩
   unfold tE
   rw[a,c06,P8 hf b (i.2 z f).1]
 ·rintro⟨z,d,q,n,l,k,b,a,rfl⟩
  refine .inr ⟨z,(a0f hf).2 ⟨d,λc=>?_⟩,?_⟩
  ·rw[c,j.z]at a;simp at a
  ·unfold tE
   rw[a,c06,P8 hf b (i.2 z d).1]
def O00(g:j0):List M0:=g.2.2.filter λe => !decide (e∈Z02 g)
theorem D0o{g:j0}(hf:C0 g=true):(Z02 g).length<=40:=by
 obtain⟨c,d,e,f⟩:=Q0 hf
 have a:=B00 hf (p:=0) ⟨by omega,by omega⟩
 have b:=R6 _ _ a.1 a.2
 unfold Z02
 have:=I03 ((C3 g 0).tail.map (tE g)) []
 rw[List.length_map,List.length_tail,List.length_nil]at this
 omega
theorem i0n(a:List M0)(q:a.length<=1000)(es:List M0)(t:es.length<=1000):∀(d k fuel:Nat) (acc:List M0),k+d=es.length->d<fuel->acc.length<=k ->
  Z4 es a fuel (k:Int) acc=some (acc++(es.drop k).filter λe => !decide (e∈a))
 |d,k,0,acc,l,s,j=>by omega
 |0,k,fuel+1,acc,l,s,j=>by
  rw[Z4.eq_2,if_neg (by simp only[decide_eq_true_eq];omega),N1 (by omega)];simp
 |d+1,k,fuel+1,acc,l,u,j=>by
  have n:k<es.length:=by omega
  have b:=V5 n
  have m:=L1 b
  generalize es[k]=e at b m
  have o:=λp h=>i0n a q es t d (k+1) fuel p (by omega) (by omega) h
  obtain⟨f,g,i⟩:=e
  rw[Z4.eq_2,if_pos (by simp only[decide_eq_true_eq];omega),T2 b,oB]
  simp only[M0l a (f,g,i) (by omega),oB,G2 n (show es.length<=9223372036854775807 by omega),m,List.filter_cons]
  by_cases c:(f,g,i)∈a
  ·simp only[decide_eq_true c,Bool.not_true,Bool.false_eq_true,if_false]
   exact o acc (by omega)
  ·simp only[decide_eq_false c,Bool.not_false,if_true]
   rw[F0 (by simp;omega),oB,o _ (by simp;omega)]
   simp
theorem g0s{g:j0}(hf:C0 g=true):A00 g=some (O00 g):=by
 obtain⟨i,j,k,l⟩:=Q0 hf
 have e:=n8 g (by omega)
 have f:=s0k hf
 have h:=D0o hf
 have d:=i0n (Z02 g) (by omega) g.2.2 (by omega) g.2.2.length 0 U0 [] (by omega) (C1 (by omega)) (by simp)
 rw[show((0:Nat):Int)=0 from rfl,List.drop_zero,List.nil_append]at d
 unfold O00
 obtain⟨a,b,c⟩:=g
 simp only at *
 unfold A00
 simp only[e,hf,oB,f,Bool.not_true,Bool.false_eq_true,if_false,d]
theorem s03{g:j0}{e:M0}:e∈O00 g↔e∈g.2.2/\e ∉ Z02 g:=by
 unfold O00
 rw[List.mem_filter]
 simp
def bw(g:j0)(e:M0):List Int:=tw g 0 e.1 ++ [e.2.1]++inv (tw g 0 e.2.2)
def u02(g:j0):List (List Int):=(O00 g).map λe=>(z02 [] (bw g e)).reverse
theorem x0t{g:j0}(hf:C0 g=true)(e:M0):(bw g e).length<=81:=by
 obtain⟨d,f,h,i⟩:=Q0 hf
 have a:=z01 hf (p:=0) ⟨by omega,by omega⟩
 have b:=a.len e.1
 have c:=a.len e.2.2
 unfold bw
 simp only[List.length_append,r0i,List.length_singleton]
 omega
theorem j0n{g:j0}(hf:C0 g=true)(es:List M0)(m:∀ e∈es,e∈g.2.2)(v:es.length<=1000):∀(d k fuel:Nat) (acc:List (List Int)),k+d=es.length->d<fuel->acc.length<=k ->
  V7 es (M06 g 0) fuel (k:Int) acc=some (acc++(es.drop k).map λe=>(z02 [] (bw g e)).reverse)
 |d,k,0,acc,j,u,i=>by omega
 |0,k,fuel+1,acc,j,u,i=>by
  rw[V7.eq_2,if_neg (by simp only[decide_eq_true_eq];omega),N1 (by omega)];simp
 |d+1,k,fuel+1,acc,j,C,i=>by
  obtain⟨x,D,E,F⟩:=Q0 hf
  have b:(0:Int)<=0/\(0:Int)<g.2.1:=⟨by omega,by omega⟩
  have f:=z01 hf b
  have o:k<es.length:=by omega
  have a:=V5 o
  have n:=m _ (List.mem_of_getElem? a)
  have l:=L1 a
  generalize es[k]=e at a l n
  have c:=x e n
  have s:=f.len e.1
  have t:=f.len e.2.2
  have w:=λq h=>j0n hf es m v d (k+1) fuel q (by omega) (by omega) h
  have p:i00 [tw g 0 e.1,[e.2.1],inv (tw g 0 e.2.2)]=some (z02 [] (bw g e)).reverse:=by
   rw[b09 _ (by simp) (by simp only[C0o,r0i,List.length_singleton];omega)]
   unfold bw p0q
   simp only[p0q,n0k]
  obtain⟨y,z,A⟩:=e
  rw[V7.eq_2,if_pos (by simp only[decide_eq_true_eq];omega),T2 a,oB]
  simp only at c p s t ⊢
  rw[Z0e hf b c.1,oB,oB,Z0e hf b c.2.1,oB,a0c _ (by omega),oB,oB,p,oB,oB,F0 (by simp;omega),oB,G2 o (show es.length<=9223372036854775807 by omega),w _ (by simp;omega),l]
  simp
theorem h0s{g:j0}(f:T0 g=true):W00 g=some (u02 g):=by
 have hf:=E2 f
 obtain⟨m,n,o,q⟩:=Q0 hf
 have h:=p8 g (by omega)
 have i:=g0s hf
 have j:=Y0e hf (p:=0) ⟨by omega,by omega⟩
 have l:(O00 g).length<=g.2.2.length:=List.length_filter_le _ _
 have d:=j0n hf (O00 g) (λe k=>(s03.1 k).1) (by omega) (O00 g).length 0 U0 [] (by omega) (C1 (by omega)) (by simp)
 rw[show((0:Nat):Int)=0 from rfl,List.drop_zero,List.nil_append]at d
 unfold u02
 obtain⟨a,b,c⟩:=g
 simp only at *
 unfold W00
 simp only[h,f,oB,i,j,Bool.not_true,Bool.false_eq_true,if_false,d]
theorem k0d:∀(s t:List Int),Red (s++t)=true↔Red s=true/\Red t=true/\∀ a b,s.getLast?=some a->t.head?=some b->b06 b a=false
 | [],t=>by simp[Red]
 | [a],[]=>by simp[Red]
 | [a],b::t=>by
  show(!b06 b a&&Red (b::t))=true↔_
  simp only[Bool.and_eq_true,Bool.not_eq_true']
  constructor
  ·rintro⟨d,c⟩
   refine⟨rfl,c,λj k g h=>?_⟩
   simp at g h;subst g;subst h;exact d
  ·rintro⟨_,c,e⟩
   exact⟨e a b rfl rfl,c⟩
 |x::y::s,t=>by
  have i:=k0d (y::s) t
  show(!b06 y x&&Red (y::s++t))=true↔(!b06 y x&&Red (y::s))=true/\_
  rw[Bool.and_eq_true,i,Bool.and_eq_true,List.getLast?_cons_cons]
  constructor
  ·rintro⟨d,c,e,f⟩;exact⟨⟨d,c⟩,e,f⟩
  ·rintro⟨⟨d,c⟩,e,f⟩;exact⟨d,c,e,f⟩
theorem W07{x:Int}(h:O3 x):ng x = -x:=B0g h.1 h.2
theorem E09{x:Int}(h:O3 x):O3 (-x):=⟨⟨by have:=h.1.2;have:=h.2;omega,by have:=h.1.1;have:=h.2;omega⟩,by have:=h.1.2;omega⟩
theorem P0a{l x:Int}(a:O3 l)(h0:l≠0):b06 l x=true↔x = -l:=by
 unfold b06
 rw[W07 a]
 simp only[Bool.and_eq_true,Bool.not_eq_true',beq_eq_false_iff_ne,beq_iff_eq,ne_eq]
 constructor
 ·exact λh=>h.2
 ·exact λh=>⟨⟨h0,a.2⟩,h⟩
theorem i0s{x y:Int}(a:O3 x)(c:x≠0)(b:O3 y)(d:y≠0):b06 (ng y) (ng x)=b06 x y:=by
 rw[Bool.eq_iff_iff,W07 a,W07 b,P0a (E09 b) (by omega),P0a a c]
 omega
theorem j0s(w:List Int):(inv w).reverse=w.map ng:=by simp[inv]
theorem t0q:∀(w:List Int),(∀ x∈w,O3 x/\x≠0)->Red w.reverse=true->Red (w.map ng)=true
 | [],_,_=>rfl
 | [x],_,_=>rfl
 |x::y::w,a,h=>by
  rw[List.reverse_cons,k0d]at h
  have i:=t0q (y::w) (λz g=>a z (mC _ g)) h.1
  have b:=h.2.2 y x (by simp) rfl
  show(!b06 (ng y) (ng x)&&Red (List.map ng (y::w)))=true
  obtain⟨c,d⟩:=a x (by simp)
  obtain⟨e,f⟩:=a y (by simp)
  rw[i0s c d e f,b,i];rfl
theorem k0s{w:List Int}(a:∀ x∈w,O3 x):inv (inv w)=w:=by
 unfold inv
 rw[List.map_reverse,List.reverse_reverse,List.map_map]
 refine(List.map_congr_left λx b=>?_).trans (List.map_id w)
 have h:=a x b
 show ng (ng x)=x
 rw[W07 h,W07 (E09 h)];omega
theorem u0q(x:Int)(w:List Int):inv (x::w)=inv w ++ [ng x]:=by simp[inv]
theorem k0n{w:List Int}(a:∀ x∈w,O3 x):∀ x∈inv w,O3 x:=λx b=>by
 simp only[inv,List.mem_reverse,List.mem_map]at b
 obtain⟨y,c,rfl⟩:=b
 rw[W07 (a y c)];exact E09 (a y c)
theorem E0o{s:List Int}{x y:Int}(h:y∈H04 s x):y∈s∨y=x:=by
 cases s with
 |nil=>simp[H04]at h;exact .inr h
 |cons l t =>
  simp only[H04]at h
  cases c:b06 l x with
  |true=>rw[c]at h;exact .inl (mC _ h)
  |false =>
   rw[c]at h
   rcases List.mem_cons.1 h with h|h
   ·exact .inr h
   ·exact .inl h
theorem t0k:∀(w s:List Int) {y:Int},y∈z02 s w->y∈s∨y∈w
 | [],s,y,h => .inl h
 |x::w,s,y,h=>by
  rcases t0k w (H04 s x) h with h|h
  ·rcases E0o h with h|rfl
   ·exact .inl h
   ·exact .inr mS
  ·exact .inr (mC _ h)
theorem w08{g:j0}(a:inG g):∀(w:List Int) (v u:Int),(0<=v/\v<g.2.1)->rdw g v w=some u->0<=u/\u<g.2.1
 | [],v,u,b,h=>by simp only[rdw,Option.some.injEq]at h;rw[←h];exact b
 |x::w,v,u,b,h=>by
  unfold rdw at h
  by_cases c:D0 g v x<0
  ·rw[if_pos c]at h;cases h
  ·rw[if_neg c]at h
   refine w08 a w _ u ?_ h
   rcases l8 a v x with e|e<;>omega
theorem u0i{g:j0}(hf:C0 g=true):∀(w:List Int) (v u:Int),(∀ x∈w,O3 x)->0<=v->rdw g v w=some u->rdw g u (inv w)=some v
 | [],v,u,a,b,h=>by simp only[rdw,Option.some.injEq]at h;rw[←h];rfl
 |x::w,v,u,a,b,h=>by
  unfold rdw at h
  by_cases c:D0 g v x<0
  ·rw[if_pos c]at h;cases h
  ·rw[if_neg c]at h
   have e:=u0i hf w _ u (λy d=>a y (mC _ d)) (by omega) h
   rw[u0q,f04,e,oB,W07 (a x mS)]
   exact t0i (P8 hf rfl (by omega)) b
theorem b0f{v:Int}{e:M0}(h:T02 v e≠0):e.1=v∨e.2.2=v:=by
 unfold T02 at h
 by_cases c1:e.1=v
 ·exact .inl c1
 ·by_cases c2:e.2.2=v
  ·exact .inr c2
  ·rw[if_neg c1,if_neg c2]at h;omega
theorem f0h{v:Int}:∀ {es:List M0},(∀ e∈es,T02 v e=0)->O8 v es=0
 | [],h=>rfl
 |e::l,h=>by
  show T02 v e+O8 v l=0
  rw[h e mS,f0h λd a=>h d (mC _ a)]
theorem u0k{v:Int}:∀ {es:List M0},(∀ e∈es,T02 v e<=1)->es.Pairwise (λa b=>T02 v a=0∨T02 v b=0)->O8 v es<=1
 | [],h,i=>Nat.zero_le _
 |e::l,h,i=>by
  show T02 v e+O8 v l<=1
  have m:=h e mS
  obtain⟨j,k⟩:=List.pairwise_cons.1 i
  have n:=u0k (λd g=>h d (mC _ g)) k
  by_cases c:T02 v e=0
  ·omega
  ·have:=f0h (v:=v) (es:=l) λd g=>by
    rcases j d g with f|f
    ·exact absurd f c
    ·exact f
   omega
theorem u00{g:j0}(hf:C0 g=true){e:M0}(a:e∈g.2.2):D0 g e.1 e.2.1=e.2.2/\D0 g e.2.2 (-e.2.1)=e.1:=by
 have b:=(Q0 hf).1 e a
 exact⟨d02 hf (U2.2 ⟨e,a,.inl ⟨by omega,rfl,rfl,rfl⟩⟩),d02 hf (U2.2 ⟨e,a,.inr ⟨by omega,by omega,rfl,rfl⟩⟩)⟩
theorem N06{g:j0}(hf:C0 g=true){v:Int}(y:2<=O8 v g.2.2)(z:Int):∃ x,x≠z/\0<=D0 g v x:=by
 refine Classical.byContradiction λu=>?_
 have t:∀ x,0<=D0 g v x->x=z:=λx h0=>Classical.byContradiction λh=>u ⟨x,h,h0⟩
 obtain⟨i,C,D,E⟩:=Q0 hf
 have j:∀ e∈g.2.2,e.1=v->e.2.1=z:=λe c h=>by
  have:=(u00 hf c).1
  rw[h]at this
  exact t _ (by rw[this];exact(i e c).2.1.1)
 have k:∀ e∈g.2.2,e.2.2=v -> -e.2.1=z:=λe c h=>by
  have:=(u00 hf c).2
  rw[h]at this
  exact t _ (by rw[this];exact(i e c).1.1)
 have w:g.2.2.Pairwise λa b=>N03 a b=false:=by
  unfold C0 at hf
  simp only[Bool.and_eq_true]at hf
  exact(q08 _).1 hf.2
 have:=u0k (v:=v) (es:=g.2.2) (λe c=>by
  have A:=i e c
  unfold T02
  by_cases c1:e.1=v<;>by_cases c2:e.2.2=v
  ·have:=j e c c1;have:=k e c c2;omega
  ·rw[if_pos c1,if_neg c2];omega
  ·rw[if_neg c1,if_pos c2];omega
  ·rw[if_neg c1,if_neg c2];omega) (List.Pairwise.imp_of_mem (λ{a b} l m s=>by
  have F:=i a l
  have G:=i b m
  unfold N03 at s
  simp only[Bool.and_eq_false_iff,Bool.or_eq_false_iff,decide_eq_false_iff_not]at s
  have n:=j a l
  have o:=k a l
  have p:=j b m
  have q:=k b m
  by_cases ha0:T02 v a=0
  ·exact .inl ha0
  ·by_cases hb0:T02 v b=0
   ·exact .inr hb0
   ·exfalso
    have d:=b0f ha0
    have f:=b0f hb0
    rcases d with d|d<;>rcases f with f|f
    ·have:=n d;have:=p f;omega
    ·have:=n d;have:=q f;omega
    ·have:=o d;have:=p f;omega
    ·have:=o d;have:=q f;omega) w)
 omega
theorem d06{g:j0}(h:T0 g=true){v:Int}(h0:0<=v)(a:v<g.2.1):v∈C3 g 0:=t08 (E2 h) (d0c h) h0 a
theorem v0q{g:j0}(h:T0 g=true){v:Int}(h0:0<v)(b:v<g.2.1):2<=O8 v g.2.2:=by
 have:=s05 (d0c h) v.toNat (by omega) (by omega)
 unfold H06 at this
 simp only[Bool.or_eq_false_iff,decide_eq_false_iff_not]at this
 have a:=this.1
 rw[show((v.toNat:Nat):Int)=v by omega]at a
 omega
theorem g0h{u x v a c b:Int}(h:stp u x v=stp a c b):(u=a/\x=c/\v=b)∨(x = -c/\u=b/\v=a):=by
 unfold stp at h
 split at h<;>split at h<;>simp only[Prod.mk.injEq]at h<;>omega
theorem A01{g:j0}{v x:Int}(h0:0<=D0 g v x):x≠0/\∃ e∈g.2.2,e=stp v x (D0 g v x)/\((0<x/\e.2.1=x/\e.1=v/\e.2.2=D0 g v x)∨(x<0/\e.2.1 = -x/\e.2.2=v/\e.1=D0 g v x)):=by
 rcases k00 g v x with⟨e,_⟩|e
 ·omega
 ·obtain⟨d,i,h⟩:=U2.1 e
  obtain⟨d0,j,k⟩:=d
  simp only at h
  rcases h with⟨a,b,c,f⟩|⟨a,b,c,f⟩
  ·refine⟨by omega,_,i,?_,.inl ⟨a,b,c,f.symm⟩⟩
   unfold stp
   rw[if_neg (by omega),←b,←c,b,c,←f]
  ·refine⟨by omega,_,i,?_,.inr ⟨a,b,c,f.symm⟩⟩
   unfold stp
   rw[if_pos a,←f,b,c]
theorem w0q{g:j0}(a:T0 g=true):∀(k:Nat) (v:Int),0<v->v<g.2.1->41<=(tw g 0 v).length+k->∃ u r,tw g 0 u=tw g 0 v++r/\∃ e∈O00 g,e.1=u∨e.2.2=u
 |0,v,h0,f,w=>by
  have hf:=E2 a
  obtain⟨D,E,F,G⟩:=Q0 hf
  have:=(z01 hf (p:=0) ⟨by omega,by omega⟩).len v
  omega
 |k+1,v,h0,f,w=>by
  have hf:=E2 a
  obtain⟨D,E,F,G⟩:=Q0 hf
  have i:=z01 hf (p:=0) ⟨by omega,by omega⟩
  obtain⟨p,M,x,O,I,j⟩:=i.par v (d06 a (by omega) f) (by omega)
  obtain⟨H,L,y⟩:=N06 hf (v0q a h0 f) (-x)
  obtain⟨P,d,n,s,o⟩:=A01 y
  by_cases ht:d∈Z02 g
  ·obtain⟨z,C,q,N,l,K,J,f2,f3⟩:=(v08 hf).1 ht
   rw[s]at f3
   rcases g0h f3 with⟨h,b,m⟩|⟨h,b,m⟩
   ·have R:=(B00 hf (p:=0) ⟨by omega,by omega⟩).2 z C
    rw[←h,←b]at f2
    have Q:z≠0:=λc=>by rw[c,i.z]at f2;simp at f2
    obtain⟨u,r,A,t⟩:=w0q a k z (by omega) (by omega) (by rw[f2];simp;omega)
    exact⟨u,[H]++r,by rw[A,f2,List.append_assoc],t⟩
   ·exfalso
    rw[←b,j]at f2
    have:=congrArg r0k f2
    rw[c06,c06]at this
    omega
  ·refine⟨v,[],by simp,d,s03.2 ⟨n,ht⟩,?_⟩
   rcases o with⟨_,_,e,_⟩|⟨_,_,e,_⟩
   ·exact .inl e
   ·exact .inr e
theorem V04{g:j0}(a:T0 g=true){v:Int}(h0:0<=v)(b:v<g.2.1):∀ x∈tw g 0 v,O3 x/\x≠0:=λx d=>by
 have hf:=E2 a
 obtain⟨e,f,h,i⟩:=Q0 hf
 have c:=z01 hf (p:=0) ⟨by omega,by omega⟩
 have:=m04 (by omega) (c.let (d06 a h0 b) x d)
 exact⟨this.1,this.2.1⟩
theorem y0t{g:j0}(m:T0 g=true){e:M0}(A:e∈O00 g):Red (bw g e).reverse=true:=by
 have hf:=E2 m
 obtain⟨H,I,J,K⟩:=Q0 hf
 obtain⟨w,x⟩:=s03.1 A
 have i:=z01 hf (p:=0) ⟨by omega,by omega⟩
 have h:=H e w
 obtain⟨F,G⟩:=u00 hf w
 have o:=d06 m h.1.1 h.1.2
 have s:=d06 m h.2.1.1 h.2.1.2
 have E:O3 e.2.1:=⟨⟨by omega,by omega⟩,by omega⟩
 have C:stp e.1 e.2.1 e.2.2=e:=by unfold stp;rw[if_neg (by omega)]
 have D:stp e.2.2 (-e.2.1) e.1=e:=by unfold stp;rw[if_pos (by omega),Int.neg_neg]
 unfold bw
 rw[List.reverse_append,List.reverse_append,j0s,List.reverse_singleton,k0d,k0d]
 refine⟨t0q _ (V04 m h.2.1.1 h.2.1.2) (i.red _ s),⟨rfl,i.red _ o,λa b f d=>?_⟩,λa b f d=>?_⟩
 ·simp only[List.getLast?_singleton,Option.some.injEq]at f
  subst f
  cases hcc:b06 b e.2.1 with
  |false=>rfl
  |true =>
   exfalso
   have v:e.1≠0:=λc=>by rw[c,i.z]at d;simp at d
   obtain⟨q,t,l,k,j,f2⟩:=i.par _ o v
   rw[f2,List.reverse_append]at d
   simp at d
   subst d
   have n:=m04 (by omega) k
   have u:=(P0a n.1 n.2.1).1 hcc
   have d:=P8 hf j h.1.1
   rw[←u,F]at d
   refine x ((v08 hf).2 ⟨e.1,o,q,t,l,k,j,f2,?_⟩)
   rw[←d,show l = -e.2.1 by omega];exact D.symm
 ·simp only[List.cons_append,List.nil_append,List.head?_cons,Option.some.injEq]at d
  subst d
  cases hcc:b06 e.2.1 a with
  |false=>rfl
  |true =>
   exfalso
   have v:e.2.2≠0:=λc=>by rw[c,i.z]at f;simp at f
   obtain⟨q,t,l,k,j,f2⟩:=i.par _ s v
   rw[f2,List.map_append]at f
   simp at f
   have n:=m04 (by omega) k
   have u:=(P0a E (by omega)).1 hcc
   rw[←f,W07 n.1]at u
   have y:l=e.2.1:=by omega
   have d:=P8 hf j h.2.1.1
   rw[y,G]at d
   refine x ((v08 hf).2 ⟨e.2.2,s,q,t,l,k,j,f2,?_⟩)
   rw[←d,y];exact C.symm
theorem F0o{g:j0}(c:T0 g=true){e:M0}(d:e∈g.2.2):∀ x∈bw g e,O3 x:=λx a=>by
 obtain⟨h,i,j,k⟩:=Q0 (E2 c)
 have b:=h e d
 unfold bw at a
 rcases List.mem_append.1 a with a|a
 ·rcases List.mem_append.1 a with a|a
  ·exact(V04 c b.1.1 b.1.2 x a).1
  ·simp at a;subst a
   exact⟨⟨by omega,by omega⟩,by omega⟩
 ·exact k0n (λy f=>(V04 c b.2.1.1 b.2.1.2 y f).1) x a
theorem c0f{g:j0}(c:T0 g=true){e:M0}(d:e∈O00 g):(z02 [] (z02 [] (bw g e)).reverse).reverse=bw g e/\(z02 [] (bw g e)).reverse=bw g e:=by
 have b:=Z0g _ (y0t c d)
 rw[List.reverse_reverse]at b
 have a:(z02 [] (bw g e)).reverse=bw g e:=by rw[b,List.reverse_reverse]
 exact⟨by rw[a,a],a⟩
def B01(b:j0)(a:List (List Int)):Bool:=T0 b&&a.all λw=>H03 b (z02 [] w).reverse
theorem V0l{a b:j0}(g:T0 a=true)(q:T0 b=true){e:M0}(l:e∈O00 a)(h:H03 b (z02 [] (z02 [] (bw a e)).reverse).reverse=true):∃ d f,rdw b 0 (tw a 0 e.1)=some d/\D0 b d e.2.1=f/\0<=f/\rdw b 0 (tw a 0 e.2.2)=some f:=by
 have j:=E2 q
 obtain⟨t,y,z,A⟩:=Q0 (E2 g)
 obtain⟨p,u,v,w⟩:=Q0 j
 have n:=t e (s03.1 l).1
 rw[(c0f g l).1,c0c]at h
 unfold bw at h
 rw[f04,f04]at h
 cases e1:rdw b 0 (tw a 0 e.1)with
 |none=>rw[e1]at h;cases h
 |some d =>
  rw[e1,oB]at h
  cases e2:rdw b d [e.2.1]with
  |none=>rw[e2]at h;cases h
  |some f =>
   rw[e2,oB]at h
   have s:=w08 p _ _ _ ⟨by omega,by omega⟩ e1
   have o:=w08 p _ _ _ s e2
   have m:=V04 g n.2.1.1 n.2.1.2
   have k:=u0i j _ _ _ (k0n λx i=>(m x i).1) o.1 h
   rw[k0s λx i=>(m x i).1]at k
   refine⟨d,f,rfl,?_,o.1,k⟩
   unfold rdw at e2
   by_cases c:D0 b d e.2.1<0
   ·rw[if_pos c]at e2;cases e2
   ·rw[if_neg c]at e2
    simpa only[rdw,Option.some.injEq] using e2
theorem G0o{a b:j0}(w:T0 a=true)(L:T0 b=true)(h:∀ e∈O00 a,H03 b (z02 [] (z02 [] (bw a e)).reverse).reverse=true):∃ f,Mor a b f:=by
 have k:=E2 w
 have A:=E2 L
 obtain⟨R,an,ao,ap⟩:=Q0 k
 obtain⟨ae,ak,al,am⟩:=Q0 A
 have M:=z01 k (p:=0) ⟨by omega,by omega⟩
 have O:∀ e∈O00 a,∃ o j,rdw b 0 (tw a 0 e.1)=some o/\D0 b o e.2.1=j/\0<=j/\rdw b 0 (tw a 0 e.2.2)=some j:=λe i=>V0l w L i (h e i)
 have Y:∀ v,0<=v->v<a.2.1->∃ y,rdw b 0 (tw a 0 v)=some y:=λv h0 g=>by
  by_cases c:v=0
  ·rw[c,M.z];exact⟨0,rfl⟩
  ·obtain⟨u,r,aa,e,i,V⟩:=w0q w 41 v (by omega) g (by omega)
   obtain⟨o,j,J,S,af,K⟩:=O e i
   have:∃ y,rdw b 0 (tw a 0 u)=some y:=by
    rcases V with rfl|rfl
    ·exact⟨o,J⟩
    ·exact⟨j,K⟩
   obtain⟨y,n⟩:=this
   rw[aa,f04]at n
   cases e1:rdw b 0 (tw a 0 v)with
   |none=>rw[e1]at n;cases n
   |some z=>exact⟨z,rfl⟩
 let f:Int->Int:=λv=>(rdw b 0 (tw a 0 v)).getD 0
 have hf:∀ v,0<=v->v<a.2.1->rdw b 0 (tw a 0 v)=some (f v):=λv h0 g=>by
  obtain⟨y,n⟩:=Y v h0 g
  show _=some ((rdw b 0 (tw a 0 v)).getD 0)
  rw[n];rfl
 have F:∀ v,0<=v->v<a.2.1->0<=f v/\f v<b.2.1:=λv h0 g=>w08 ae _ _ _ ⟨by omega,by omega⟩ (hf v h0 g)
 have U:∀ e∈a.2.2,D0 b (f e.1) e.2.1=f e.2.2:=λe i=>by
  have m:=R e i
  by_cases ht:e∈Z02 a
  ·obtain⟨z,ac,q,W,l,ai,ag,f2,f3⟩:=(v08 k).1 ht
   have Q:=(B00 k (p:=0) ⟨by omega,by omega⟩).2 z ac
   have X:=(B00 k (p:=0) ⟨by omega,by omega⟩).2 q W
   have P:D0 b (f q) l=f z:=by
    have g:=hf z Q.1 (by omega)
    rw[f2,f04,hf q X.1 (by omega),oB]at g
    unfold rdw at g
    by_cases c:D0 b (f q) l<0
    ·rw[if_pos c]at g;cases g
    ·rw[if_neg c]at g
     simpa only[rdw,Option.some.injEq] using g
   have Z:stp e.1 e.2.1 e.2.2=e:=by unfold stp;rw[if_neg (by omega)]
   rw[←Z]at f3
   rcases g0h f3 with⟨C,D,E⟩|⟨C,D,E⟩
   ·rw[C,D,E];exact P
   ·rw[C,D,E]
    exact P8 A P (F z Q.1 (by omega)).1
  ·obtain⟨o,j,J,S,af,K⟩:=O e (s03.2 ⟨i,ht⟩)
   have g:=hf e.1 m.1.1 m.1.2
   have s:=hf e.2.2 m.2.1.1 m.2.1.2
   rw[J]at g
   rw[K]at s
   injection g with g
   injection s with s
   rw[←g,←s];exact S
 refine⟨f,?_,F,λv x h0 g ab=>?_⟩
 ·show(rdw b 0 (tw a 0 0)).getD 0=0
  rw[M.z];rfl
 ·obtain⟨aj,d,N,ah,T⟩:=A01 ab
  have m:=R d N
  have t:=U d N
  rcases T with⟨ad,G,H,I⟩|⟨ad,G,H,I⟩
  ·rw[G,H,I]at t;exact t
  ·rw[G,H,I]at t
   have:=P8 A t (F v h0 g).1
   rwa [Int.neg_neg]at this
theorem H0o{a b:j0}(g:T0 a=true){f:Int->Int}(m:Mor a b f){e:M0}(i:e∈O00 a):H03 b (z02 [] (z02 [] (bw a e)).reverse).reverse=true:=by
 have c:=E2 g
 obtain⟨l,n,o,q⟩:=Q0 c
 have h:=z01 c (p:=0) ⟨by omega,by omega⟩
 have j:=(s03.1 i).1
 have d:=l e j
 rw[(c0f g i).1]
 refine m.loop c ?_
 rw[c0c]
 unfold bw
 rw[f04,f04,h.rd c ⟨by omega,by omega⟩ (d06 g d.1.1 d.1.2),oB,t0i (u00 c j).1 d.2.1.1,oB]
 exact u0i c _ _ _ (λx k=>(V04 g d.2.1.1 d.2.1.2 x k).1) (iR 0) (h.rd c ⟨by omega,by omega⟩ (d06 g d.2.1.1 d.2.1.2))
theorem v0k(a b:j0):(T0 a&&T0 b&&decide (a.1=b.1)&&B01 b (u02 a))=l00 a b:=by
 rw[Bool.eq_iff_iff]
 constructor
 ·intro h
  unfold B01 u02 at h
  simp only[Bool.and_eq_true,decide_eq_true_eq,List.all_eq_true,List.mem_map]at h
  obtain⟨⟨⟨c,d⟩,i⟩,_,h⟩:=h
  obtain⟨f,m⟩:=G0o c d λe g=>h _ ⟨e,g,rfl⟩
  exact U0l c d i m
 ·intro h
  obtain⟨f,m⟩:=V0e h
  unfold l00 at h
  unfold B01 u02
  simp only[Bool.and_eq_true,decide_eq_true_eq,List.all_eq_true,List.mem_map]at h ⊢
  obtain⟨⟨⟨c,d⟩,i⟩,j⟩:=h
  refine⟨⟨⟨c,d⟩,i⟩,d,?_⟩
  rintro w ⟨e,g,rfl⟩
  exact H0o c m g
structure Hom (x t:j0) (g:Int->Int):Prop where
 rng:∀ v,0<=v->v<x.2.1->0<=g v/\g v<t.2.1
 step:∀ v l,0<=v->v<x.2.1->0<=D0 x v l->D0 t (g v) l=g (D0 x v l)
structure Emb (c t:j0) (E:Int->Int):Prop where
 fc:C0 c=true
 hom:Hom c t E
 inj:∀ x y,0<=x->x<c.2.1->0<=y->y<c.2.1->E x=E y->x=y
 full:∀ x y l,0<=x->x<c.2.1->0<=y->y<c.2.1->D0 t (E x) l=E y->D0 c x l=y
theorem t01{g:j0}(hf:C0 g=true){v l:Int}(h:0<=D0 g v l):D0 g v l<g.2.1:=by
 rcases l8 (Q0 hf).1 v l with e|e<;>omega
theorem w0k{g:j0}(hf:C0 g=true){v l:Int}(h:0<=D0 g v l):0<=v/\v<g.2.1:=by
 have d:=P8 hf rfl h
 obtain⟨h0,e,b,_,c⟩:=A01 h
 have:=(Q0 hf).1 e b
 rcases c with⟨_,_,a,_⟩|⟨_,_,a,_⟩
 ·rw[←a];exact this.1
 ·rw[←a];exact this.2.1
theorem Emb.comp{a b c:j0}{E j:Int->Int}(e:Emb a b E)(d:Emb b c j):Emb a c (λx=>j (E x)) where
 fc:=e.fc
 hom:=⟨λv h0 f=>d.hom.rng _ (e.hom.rng v h0 f).1 (e.hom.rng v h0 f).2,λv l h0 f h=>by
  have m:=e.hom.step v l h0 f h
  have k:=e.hom.rng v h0 f
  have n:=e.hom.rng _ h (t01 e.fc h)
  show D0 c (j (E v)) l=j (E (D0 a v l))
  rw[d.hom.step _ l k.1 k.2 (by rw[m];exact n.1),m]⟩
 inj:=λx y h0 f g i h=>e.inj x y h0 f g i (d.inj _ _ (e.hom.rng x h0 f).1 (e.hom.rng x h0 f).2 (e.hom.rng y g i).1 (e.hom.rng y g i).2 h)
 full:=λx y l h0 f g i h=>e.full x y l h0 f g i (d.full _ _ l (e.hom.rng x h0 f).1 (e.hom.rng x h0 f).2 (e.hom.rng y g i).1 (e.hom.rng y g i).2 h)
theorem x0k{g:j0}{a v l:Int}(h:0<=D0 g v l):Rch g.2.2 a v↔Rch g.2.2 a (D0 g v l):=by
 obtain⟨_,e,f,_,i⟩:=A01 h
 have b:=Rch.closed (v:=a) e f
 rcases i with⟨_,_,c,d⟩|⟨_,_,c,d⟩
 ·rw[c,d]at b;exact b
 ·rw[c,d]at b;exact b.symm
theorem Hom.rch{x t:j0}{g:Int->Int}(m:Hom x t g)(hf:C0 x=true){a b:Int}(h:Rch x.2.2 a b):Rch t.2.2 (g a) (g b):=by
 refine Rch.sub (P:=λz=>Rch t.2.2 (g a) (g z)) .base (λe f=>?_) h
 have c:=(Q0 hf).1 e f
 have i:=(u00 hf f).1
 have d:=m.step e.1 e.2.1 c.1.1 c.1.2 (by rw[i];exact c.2.1.1)
 rw[i]at d
 have:=x0k (g:=t) (a:=g a) (v:=g e.1) (l:=e.2.1) (by rw[d];exact(m.rng _ c.2.1.1 c.2.1.2).1)
 rw[d]at this;exact this
theorem Hom.comp{a b c:j0}{g k:Int->Int}(e:Hom a b g)(d:Hom b c k)(hf:C0 a=true):Hom a c (λx=>k (g x)) where
 rng:=λv h0 f=>d.rng _ (e.rng v h0 f).1 (e.rng v h0 f).2
 step:=λv l h0 f h=>by
  have j:=e.step v l h0 f h
  have i:=e.rng v h0 f
  have m:=e.rng _ h (t01 hf h)
  show D0 c (k (g v)) l=k (g (D0 a v l))
  rw[d.step _ l i.1 i.2 (by rw[j];exact m.1),j]
theorem Hom.lift{x c t:j0}{g E:Int->Int}(m:Hom x t g)(hf:C0 x=true)(e:Emb c t E)(h:∀ v,0<=v->v<x.2.1->∃ w,(0<=w/\w<c.2.1)/\E w=g v):∃ f,Hom x c f/\∀ v,0<=v->v<x.2.1->E (f v)=g v:=by
 have n:∀ v:Int,∃ w:Int,0<=v->v<x.2.1->(0<=w/\w<c.2.1)/\E w=g v:=λv=>by
  by_cases k:0<=v/\v<x.2.1
  ·obtain⟨w,p⟩:=h v k.1 k.2
   exact⟨w,λ_ _=>p⟩
  ·exact⟨0,λh0 d=>absurd ⟨h0,d⟩ k⟩
 let f:Int->Int:=λv=>Classical.choose (n v)
 have i:∀ v,0<=v->v<x.2.1->(0<=f v/\f v<c.2.1)/\E (f v)=g v:=λv=>Classical.choose_spec (n v)
 refine⟨f,⟨λv h0 d=>(i v h0 d).1,λv l h0 d j=>?_⟩,λv h0 d=>(i v h0 d).2⟩
 have o:=t01 hf j
 have a:=i v h0 d
 have b:=i _ j o
 exact e.full _ _ l a.1.1 a.1.2 b.1.1 b.1.2 (by rw[a.2,b.2];exact m.step v l h0 d j)
theorem x08{o:List Int}{i:Nat}{v:Int}(h:o[i]?=some v):getI o (i:Int)=v:=by
 unfold getI
 simp[List.getD_eq_getElem?_getD,h]
theorem x0q(P:List Int):∀(es:List M0) (a:M0),a∈es->0<=getI P a.1->0<=getI P a.2.2->((getI P a.1,a.2.1,getI P a.2.2):M0)∈pE P es
 |b::r,a,h,c,d=>by
  unfold pE
  rcases List.mem_cons.1 h with rfl|h
  ·rw[decide_eq_true c,decide_eq_true d]
   exact mS
  ·have e:=x0q P r a h c d
   cases decide (0<=getI P b.1)&&decide (0<=getI P b.2.2)
   ·exact e
   ·exact mC _ e
theorem d0f{t:j0}{o:List Int}{a:M0}:a∈(L5 t o).2.2↔∃ e∈t.2.2,a=(getI (plc t.2.1.toNat o) e.1,e.2.1,getI (plc t.2.1.toNat o) e.2.2)/\0<=getI (plc t.2.1.toNat o) e.1/\0<=getI (plc t.2.1.toNat o) e.2.2:=by
 show a∈F6 D1 [] _↔_
 rw[z9 H8]
 constructor
 ·rintro(h|h)
  ·cases h
  ·exact G0e _ _ a h
 ·rintro⟨e,d,rfl,b,c⟩
  exact .inr (x0q _ _ e d b c)
theorem l0n{n:Nat}{o:List Int}(b:inV n o)(d:o.Nodup){x:Int}(e:0<=x)(h:0<=getI (plc n o) x):getI o (getI (plc n o) x)=x:=by
 have j:=(k04 b e).2
 have g:(getI (plc n o) x).toNat<o.length:=by omega
 have a:=V5 g
 generalize k:o[(getI (plc n o) x).toNat]=v at a
 have i:=M0e b d a
 have f:=F0a b d e (b v (List.mem_of_getElem? a)).1 h (by omega)
 have c:=x08 a
 rw[show(((getI (plc n o) x).toNat:Nat):Int)=getI (plc n o) x by omega]at c
 rw[c,f]
theorem W0l{o:List Int}{x:Int}(h0:0<=x)(b:x<(o.length:Int)):o[x.toNat]?=some (getI o x):=by
 have a:=V5 (xs:=o) (k:=x.toNat) (by omega)
 have:=x08 a
 rw[show((x.toNat:Nat):Int)=x by omega]at this
 rw[this];exact a
theorem Q0a{t:j0}(hf:C0 t=true){o:List Int}(q:o.Nodup)(n:inV t.2.1.toNat o)(G:1<=o.length)(H:o.length<=40):Emb (L5 t o) t (getI o):=by
 have w:=J02 hf n q G H
 obtain⟨L,N,O,P⟩:=Q0 hf
 have m:∀ x:Int,0<=x->x<(o.length:Int)->(0<=getI o x/\getI o x<t.2.1)/\getI (plc t.2.1.toNat o) (getI o x)=x:=λx a b=>by
  have A:=W0l a b
  have:=n _ (List.mem_of_getElem? A)
  exact⟨by omega,by rw[M0e n q A];omega⟩
 refine⟨w,⟨λv a b=>(m v a b).1,λv l a b h=>?_⟩,λx y a b c d h=>?_,λx y l a b c d h=>?_⟩
 ·obtain⟨_,M,I,_,s⟩:=A01 h
  obtain⟨e,k,rfl,J,K⟩:=d0f.1 I
  have D:=L e k
  have C:=u00 hf k
  have E:=l0n n q D.1.1 J
  have F:=l0n n q D.2.1.1 K
  rcases s with⟨_,j,f,i⟩|⟨_,j,f,i⟩
  ·simp only at j f i
   rw[←i,F,←f,E,←j];exact C.1
  ·simp only at j f i
   rw[←i,E,←f,F,show l = -e.2.1 by omega];exact C.2
 ·rw[←(m x a b).2,h,(m y c d).2]
 ·have u:=m x a b
  have p:=m y c d
  obtain⟨_,e,k,_,s⟩:=A01 (g:=t) (v:=getI o x) (x:=l) (by rw[h];exact p.1.1)
  rw[h]at s
  rcases s with⟨_,j,f,i⟩|⟨_,j,f,i⟩
  ·have z:((x,e.2.1,y):M0)∈(L5 t o).2.2:=d0f.2 ⟨e,k,by rw[f,i,u.2,p.2],by rw[f,u.2];exact a,by rw[i,p.2];exact c⟩
   have:=(u00 w z).1
   simp only at this
   rw[←j];exact this
  ·have z:((y,e.2.1,x):M0)∈(L5 t o).2.2:=d0f.2 ⟨e,k,by rw[f,i,u.2,p.2],by rw[i,p.2];exact c,by rw[f,u.2];exact a⟩
   have:=(u00 w z).2
   simp only at this
   rw[show l = -e.2.1 by omega];exact this
structure y0q (x:j0) (p:Int):Prop where
 fx:C0 x=true
 pr:0<=p/\p<x.2.1
 two:∀ v,0<=v->v<x.2.1->v≠p->∀ z,∃ l,l≠z/\0<=D0 x v l
 con:∀ v,0<=v->v<x.2.1->Rch x.2.2 p v
def e06(c t:j0)(E:Int->Int):Prop:=∀(x:j0) (p:Int) (g:Int->Int),y0q x p->Hom x t g->(∃ w,(0<=w/\w<c.2.1)/\E w=g p)->∀ v,0<=v->v<x.2.1->∃ w,(0<=w/\w<c.2.1)/\E w=g v
theorem e0f{g:j0}(h:T0 g=true):y0q g 0:=by
 have hf:=Z2 h
 obtain⟨c,d,e,f⟩:=Q0 hf
 exact⟨hf,by omega,λv h0 a b z=>N06 hf (H0a h (by omega) a).1 z,λv h0 a=>I0a h h0 a⟩
theorem e06.comp{a b c:j0}{E h:Int->Int}(e:Emb a b E)(d:Emb b c h)(A:e06 a b E)(C:e06 b c h):e06 a c (λx=>h (E x)):=by
 rintro x p g f n ⟨w,j,s⟩
 have i:=e.hom.rng w j.1 j.2
 obtain⟨k,o,m⟩:=n.lift f.fx d (C x p g f n ⟨E w,i,s⟩)
 have q:=o.rng p f.pr.1 f.pr.2
 have t:E w=k p:=d.inj _ _ i.1 i.2 q.1 q.2 (by rw[m p f.pr.1 f.pr.2];exact s)
 intro v h0 l
 obtain⟨u,y,z⟩:=A x p k f o ⟨w,j,t⟩ v h0 l
 exact⟨u,y,by show h (E u)=g v;rw[z];exact m v h0 l⟩
theorem t03{c t:j0}{E:Int->Int}(h:∀ v,0<=v->v<t.2.1->∃ w,(0<=w/\w<c.2.1)/\E w=v):e06 c t E:=λx p g d b _ v h0 a=>h _ (b.rng v h0 a).1 (b.rng v h0 a).2
theorem R0a{v:Int}:∀ {es:List M0} {e:M0},e∈es->T02 v e<=O8 v es
 |x::r,e,h=>by
  simp only[O8]
  rcases List.mem_cons.1 h with a|a
  ·rw[a];omega
  ·have:=R0a (v:=v) a;omega
theorem h0h{v:Int}:∀ {es:List M0} {e d:M0},e∈es->d∈es->e≠d->T02 v e+T02 v d<=O8 v es
 |x::r,e,d,h,k,c=>by
  simp only[O8]
  rcases List.mem_cons.1 h with b|b
  ·rcases List.mem_cons.1 k with a|a
   ·exact absurd (b.trans a.symm) c
   ·have:=R0a (v:=v) a;rw[b];omega
  ·rcases List.mem_cons.1 k with a|a
   ·have:=R0a (v:=v) b;rw[a];omega
   ·have:=h0h (v:=v) b a c;omega
theorem v0i{g:j0}(hf:C0 g=true){v:Int}(h:∀ z,∃ l,l≠z/\0<=D0 g v l):2<=O8 v g.2.2:=by
 obtain⟨l,_,t⟩:=h 0
 obtain⟨k,n,s⟩:=h l
 obtain⟨_,e,j,w,m⟩:=A01 t
 obtain⟨_,d,q,u,o⟩:=A01 s
 by_cases c:e=d
 ·subst c
  have:=R0a (v:=v) j
  have i:e.1=v/\e.2.2=v:=by
   rcases m with⟨_,a,b,_⟩|⟨_,a,b,_⟩<;>rcases o with⟨_,p,f,_⟩|⟨_,p,f,_⟩
   ·exact absurd (by omega) n
   ·exact⟨b,f⟩
   ·exact⟨f,b⟩
   ·exact absurd (by omega) n
  unfold T02 at this
  rw[if_pos i.1,if_pos i.2]at this
  omega
 ·have:=h0h (v:=v) j q c
  have x:1<=T02 v e:=by
   unfold T02
   rcases m with⟨_,_,b,_⟩|⟨_,_,b,_⟩
   ·rw[if_pos b];omega
   ·rw[if_pos b];omega
  have i:1<=T02 v d:=by
   unfold T02
   rcases o with⟨_,_,b,_⟩|⟨_,_,b,_⟩
   ·rw[if_pos b];omega
   ·rw[if_pos b];omega
  omega
theorem Hom.two{x t:j0}{g:Int->Int}(m:Hom x t g)(hf:C0 x=true){v:Int}(h0:0<=v)(b:v<x.2.1)(h:∀ z,∃ l,l≠z/\0<=D0 x v l):∀ z,∃ l,l≠z/\0<=D0 t (g v) l:=λz=>by
 obtain⟨l,c,a⟩:=h z
 exact⟨l,c,by rw[m.step v l h0 b a];exact(m.rng _ a (t01 hf a)).1⟩
theorem w0i(g:Nat):∀(d k:Nat),(g:Int) ∉ wo g d k
 |0,k,h=>nomatch h
 |d+1,k,h=>by
  unfold wo at h
  by_cases c:k=g
  ·rw[if_pos c]at h;exact w0i g d (k+1) h
  ·rw[if_neg c]at h
   rcases List.mem_cons.1 h with h|h
   ·omega
   ·exact w0i g d (k+1) h
theorem O0s{a:Nat->Bool}:∀(d v k:Nat),lf a d v=some k->a k=true
 |0,v,k,h=>by cases h
 |d+1,v,k,h=>by
  unfold lf at h
  cases hb:a v with
  |true=>rw[hb]at h;cases h;exact hb
  |false=>rw[hb]at h;exact O0s d (v+1) k h
theorem y0k:∀(d:Nat) {h:j0},C0 h=true->(∀ w,0<=w->w<(Q9 d h).2.1->Rch (Q9 d h).2.2 0 w)->∃ E,Emb (Q9 d h) h E/\E 0=0/\e06 (Q9 d h) h E
 |0,h,hf,o=>⟨id,⟨hf,⟨λv a b=>⟨a,b⟩,λv l a b k=>rfl⟩,λx y _ _ _ _ e=>e,λx y l _ _ _ _ e=>e⟩,rfl,t03 λv a b=>⟨v,⟨a,b⟩,rfl⟩⟩
 |d+1,h,hf,o=>by
  unfold Q9 at o ⊢
  cases e:w7 h with
  |none=>exact⟨id,⟨hf,⟨λv a b=>⟨a,b⟩,λv l a b k=>rfl⟩,λx y _ _ _ _ e=>e,λx y l _ _ _ _ e=>e⟩,rfl,t03 λv a b=>⟨v,⟨a,b⟩,rfl⟩⟩
  |some k =>
   rw[e]at o
   obtain⟨ac,ad,ae,af⟩:=Q0 hf
   obtain⟨s1,s2,O,P⟩:=l04 (K0 hf) e
   have ab:=i0d e
   have q:=O0s _ _ _ e
   have L:=S04 k h.2.1.toNat 0
   have C:=Q0a hf L s1 O P
   have V:=J02 hf s1 L O P
   simp only at o ⊢
   obtain⟨E,A,F,Q⟩:=y0k d V o
   have N:getI (wo k h.2.1.toNat 0) 0=0:=by
    obtain⟨m,S⟩:∃ m,h.2.1.toNat=m+1:=⟨h.2.1.toNat-1,by omega⟩
    rw[S,wo,if_neg (by omega)];rfl
   have H:=A.comp C
   refine⟨_,H,by rw[F];exact N,?_⟩
   rintro x p g f z ⟨w,s,D⟩
   have t:=A.hom.rng w s.1 s.2
   have W:Rch h.2.2 0 (g p):=by
    have:=H.hom.rch A.fc (o w s.1 s.2)
    rw[F,N]at this
    rw[←D];exact this
   have T:∀ u,0<=u->u<(L5 h (wo k h.2.1.toNat 0)).2.1->getI (wo k h.2.1.toNat 0) u≠(k:Int):=λu Z aa c=>by
    have:=List.mem_of_getElem? (W0l Z aa)
    rw[c]at this
    exact w0i k _ _ this
   have U:∀ v,0<=v->v<x.2.1->g v≠(k:Int):=λv j n c=>by
    by_cases cp:v=p
    ·rw[cp,←D]at c
     exact T _ t.1 t.2 c
    ·unfold H06 at q
     simp only[Bool.or_eq_true,decide_eq_true_eq,Bool.not_eq_true',decide_eq_false_iff_not]at q
     rcases q with q|q
     ·have:=v0i hf (z.two f.fx j n (f.two v j n cp))
      rw[c]at this;omega
     ·refine q ((c04 _ _ _).2 ?_)
      rw[←c]
      exact Rch.tr W (z.rch f.fx (f.con v j n))
   obtain⟨G,I,J⟩:=z.lift f.fx C λv j n=>by
    have o:=z.rng v j n
    have:=O0e k h.2.1.toNat 0 (g v).toNat (Nat.zero_le _) (by omega) (λc=>U v j n (by omega))
    rw[show(((g v).toNat:Nat):Int)=g v by omega]at this
    obtain⟨i,K⟩:=List.getElem?_of_mem this
    refine⟨(i:Int),⟨by omega,?_⟩,x08 K⟩
    show(i:Int)<(((wo k h.2.1.toNat 0).length:Nat):Int)
    have:=(List.getElem?_eq_some_iff.1 K).1
    omega
   have M:=I.rng p f.pr.1 f.pr.2
   have R:E w=G p:=C.inj _ _ t.1 t.2 M.1 M.2 (by rw[J p f.pr.1 f.pr.2];exact D)
   intro v j n
   obtain⟨u,X,Y⟩:=Q x p G f I ⟨w,s,R⟩ v j n
   exact⟨u,X,by show getI _ (E u)=g v;rw[Y];exact J v j n⟩
theorem z0q{h:j0}(hf:C0 h=true):∃ E,Emb (J06 h) h E/\E 0=0/\e06 (J06 h) h E:=by
 have p:=K0 hf
 obtain⟨A,C,D,F⟩:=Q0 hf
 have d:=L9 40 hf
 have k:=C09 40 p (by omega)
 obtain⟨u,x,y,z⟩:=Q0 d
 have a:=G02 d
 have o:∀ w,0<=w->w<(Q9 40 h).2.1->w∈l3 (Q9 40 h):=λw h0 b=>t08 d k h0 b
 have q:∀ w,0<=w->w<(Q9 40 h).2.1->Rch (Q9 40 h).2.2 0 w:=λw h0 b=>by
  by_cases c:w=0
  ·rw[c];exact .base
  ·have:=s05 k w.toNat (by omega) (by omega)
   unfold H06 at this
   simp only[Bool.or_eq_false_iff,Bool.not_eq_false',decide_eq_true_eq]at this
   have g:=this.2
   rw[show((w.toNat:Nat):Int)=w by omega]at g
   exact(c04 _ _ _).1 g
 obtain⟨E,e,l,m⟩:=y0k 40 hf q
 have f:=Q0a d a.1.1 a.1.2 a.2 (Nat.le_trans (R6 _ _ a.1.1 a.1.2) (by omega))
 have s:getI (l3 (Q9 40 h)) 0=0:=by
  obtain⟨t,n⟩:=L06 (Q9 40 h)
  rw[n];rfl
 refine⟨_,f.comp e,by rw[s];exact l,e06.comp f e (t03 λv h0 b=>?_) m⟩
 obtain⟨i,j⟩:=List.getElem?_of_mem (o v h0 b)
 refine⟨(i:Int),⟨by omega,?_⟩,x08 j⟩
 show(i:Int)<(((l3 (Q9 40 h)).length:Nat):Int)
 have:=(List.getElem?_eq_some_iff.1 j).1
 omega
theorem f0f{a:j0}(hf:C0 a=true){v:Int}(e:0<=v/\v<a.2.1):∃ E,Emb (G3 a v) a E/\E 0=v/\e06 (G3 a v) a E:=by
 obtain⟨n,o,p,q⟩:=Q0 hf
 obtain⟨h,j,m⟩:=T07 hf e
 have b:=Q0a hf j h (by omega) (by omega)
 obtain⟨E,c,f,g⟩:=z0q b.fc
 refine⟨_,c.comp b,by rw[f];rfl,e06.comp c b g (t03 λu k l=>?_)⟩
 obtain⟨i,d⟩:=List.getElem?_of_mem (Y0g e.1 u k l)
 refine⟨(i:Int),⟨by omega,?_⟩,x08 d⟩
 show(i:Int)<(((K03 a v).length:Nat):Int)
 have:=(List.getElem?_eq_some_iff.1 d).1
 omega
theorem x0i{g:j0}:∀ {ls:List Int} {x:Int},J0a g ls=some x->x∈ls/\0<=D0 g 0 x
 |y::r,x,h=>by
  unfold J0a at h
  by_cases c:0<=D0 g 0 y
  ·rw[if_pos c]at h;cases h;exact⟨mS,c⟩
  ·rw[if_neg c]at h
   have:=x0i h
   exact⟨mC _ this.1,this.2⟩
theorem g0f{b:j0}(h:T0 b=true)(d:M02 b=true):∃ x,J0a b (P1 b.1.toNat 1)=some x/\b05 b (P1 b.1.toNat 1)=some (D0 b 0 x)/\(0<=D0 b 0 x/\D0 b 0 x<b.2.1)/\D0 b 0 x≠0/\∀ y,0<=D0 b 0 y->y=x:=by
 obtain⟨v,a,f,g⟩:=Y0b h d
 rw[S0e]at a
 cases e:J0a b (P1 b.1.toNat 1)with
 |none=>rw[e]at a;cases a
 |some x =>
  rw[e]at a
  simp only[Option.map_some,Option.some.injEq]at a
  refine⟨x,rfl,by rw[S0e,e];rfl,by rw[a];exact f,by rw[a];exact g,λy j=>Classical.byContradiction λi=>?_⟩
  have:=v0i (Z2 h) (v:=0) λz=>by
   by_cases c:z=x
   ·exact⟨y,by rw[c];exact i,j⟩
   ·exact⟨x,λk=>c k.symm,(x0i e).2⟩
  unfold M02 at d
  simp only[Bool.and_eq_true,decide_eq_true_eq]at d
  omega
theorem A0q{b:j0}(h:T0 b=true)(af:M02 b=true){x:Int}(C:0<=D0 b 0 x/\D0 b 0 x<b.2.1)(h0:D0 b 0 x≠0)(Z:∀ y,0<=D0 b 0 y->y=x):
  ∃ E,Emb (G3 b (D0 b 0 x)) b E/\E 0=D0 b 0 x/\e06 (G3 b (D0 b 0 x)) b E/\(∀ w,0<=w->w<(G3 b (D0 b 0 x)).2.1->E w≠0)/\(∀ u,0<=u->u<b.2.1->u≠0->∃ w,(0<=w/\w<(G3 b (D0 b 0 x)).2.1)/\E w=u):=by
 have hf:=Z2 h
 obtain⟨ap,au,av,aw⟩:=Q0 hf
 have Q:=af
 unfold M02 at Q
 simp only[Bool.and_eq_true,decide_eq_true_eq]at Q
 obtain⟨E,N,G,O⟩:=f0f hf C
 have ag:=e02 hf C
 have K:=e0f ag
 refine⟨E,N,G,O,λw w0 o d=>?_,λu ac ad ak=>?_⟩
 ·have ao:w≠0:=λc=>by rw[c,G]at d;exact h0 d
  have:=v0i hf (N.hom.two K.fx w0 o (K.two w w0 o ao))
  rw[d]at this;omega
 ·generalize aa:D0 b 0 x=v1 at *
  have ah:=Q0b 0 b.2.1.toNat 0
  rw[if_pos (by omega)]at ah
  have an:=O0g 0 b.2.1.toNat b.2.1.toNat 0 (by omega)
  have n:=Q0a hf (S04 0 b.2.1.toNat 0) an (by omega) (by omega)
  have A:∀ u,0<=u->u<b.2.1->u≠0->∃ w,(0<=w/\w<(L5 b (wo 0 b.2.1.toNat 0)).2.1)/\getI (wo 0 b.2.1.toNat 0) w=u:=λu ac ad V=>by
   have:=O0e 0 b.2.1.toNat 0 u.toNat (Nat.zero_le _) (by omega) (by omega)
   rw[show((u.toNat:Nat):Int)=u by omega]at this
   obtain⟨i,U⟩:=List.getElem?_of_mem this
   refine⟨(i:Int),⟨by omega,?_⟩,x08 U⟩
   show(i:Int)<(((wo 0 b.2.1.toNat 0).length:Nat):Int)
   have:=(List.getElem?_eq_some_iff.1 U).1
   omega
  have W:∀ w,0<=w->w<(L5 b (wo 0 b.2.1.toNat 0)).2.1->getI (wo 0 b.2.1.toNat 0) w≠0:=λw w0 o c=>by
   have:=List.mem_of_getElem? (W0l w0 o)
   rw[c]at this
   exact w0i 0 _ _ this
  obtain⟨p,s,I⟩:=A v1 C.1 C.2 h0
  generalize getI (wo 0 b.2.1.toNat 0)=D at *
  generalize L5 b (wo 0 b.2.1.toNat 0)=c at *
  have ae:∀ z l,D0 b z l=0->z=v1:=λz l k=>by
   have J:=w0k hf (v:=z) (l:=l) (by omega)
   have:=P8 hf k (iR _)
   have H:=Z (-l) (by omega)
   rw[H,aa]at this;exact this.symm
  have aj:y0q c p:=by
   refine⟨n.fc,s,λv j m am z=>?_,λv j m=>?_⟩
   ·have t:=n.hom.rng v j m
    have aq:=W v j m
    obtain⟨l,H,f⟩:=N06 hf (H0a h (by omega) t.2).1 z
    refine⟨l,H,?_⟩
    have V:D0 b (D v) l≠0:=λk=>by
     have:=ae _ _ k
     exact am (n.inj v p j m s.1 s.2 (by rw[this,I]))
    obtain⟨w,d,L⟩:=A _ f (t01 hf f) V
    rw[n.full v w l j m d.1 d.2 L.symm]
    exact d.1
   ·have Y:∀ z l,0<=D0 b z l->(z=0∨∀ w,0<=w->w<c.2.1->D w=z->Rch c.2.2 p w)->(D0 b z l=0∨∀ w,0<=w->w<c.2.1->D w=D0 b z l->Rch c.2.2 p w):=λz l f q=>by
     by_cases c0:D0 b z l=0
     ·exact .inl c0
     ·refine .inr λw w0 o d=>?_
      by_cases cz:z=0
      ·rw[cz]at f d
       rw[Z l f,aa,←I]at d
       rw[n.inj w p w0 o s.1 s.2 d];exact .base
      ·rcases q with q|q
       ·exact absurd q cz
       ·have J:=w0k hf f
        obtain⟨M,F,S⟩:=A z J.1 J.2 cz
        have ai:=q M F.1 F.2 S
        have T:=n.full M w l F.1 F.2 w0 o (by rw[S,d])
        have:=(x0k (g:=c) (a:=p) (v:=M) (l:=l) (by rw[T];exact w0)).1 ai
        rw[T]at this;exact this
    have t:=n.hom.rng v j m
    have:=Rch.sub (P:=λz=>z=0∨∀ w,0<=w->w<c.2.1->D w=z->Rch c.2.2 p w) (.inl rfl) (λe R=>by
     have X:=ap e R
     have f:=u00 hf R
     have s1:=Y e.1 e.2.1 (by rw[f.1];exact X.2.1.1)
     have s2:=Y e.2.2 (-e.2.1) (by rw[f.2];exact X.1.1)
     rw[f.1]at s1
     rw[f.2]at s2
     exact⟨s1,s2⟩) (I0a h t.1 t.2)
    rcases this with k|k
    ·exact absurd k (W v j m)
    ·exact k v j m rfl
  obtain⟨v,ab,al⟩:=A u ac ad ak
  have ar:=(Q0 K.fx).2.2.1
  obtain⟨w,d,L⟩:=O c p D aj n.hom ⟨0,⟨by omega,by omega⟩,by rw[G,I]⟩ v ab.1 ab.2
  exact⟨w,d,by rw[L,al]⟩
def z0k(b:j0):Int->Option Int->List Int->Int->Prop
 |z,_,[],e=>e=z
 |z,a,x::q,e=>0<D0 b z x/\(∀ y,0<=D0 b z y->y=x∨a=some y)/\z0k b (D0 b z x) (some (-x)) q e
theorem m0n{b c:j0}{E:Int->Int}{x:Int}(hf:C0 b=true)(a:Emb c b E)(h0:E 0=D0 b 0 x)(o:∀ w,0<=w->w<c.2.1->E w≠0)(p:∀ u,0<=u->u<b.2.1->u≠0->∃ w,(0<=w/\w<c.2.1)/\E w=u)(t:∀ y,0<=D0 b 0 y->y=x):
  ∀(q:List Int) (w:Int) (d f:Option Int) (e:Int),0<=w->w<c.2.1->(w=0->d=none/\f=some (-x))->(w≠0->f=d)->z0k c w d q e->z0k b (E w) f q (E e)
 | [],w,d,f,e,w0,g,j,A,h=>by
  show E e=E w
  rw[show e=w from h]
 |y::q,w,d,f,e,w0,g,j,A,h=>by
  obtain⟨J,C,D⟩:=h
  have i:=t01 a.fc (v:=w) (l:=y) (by omega)
  have s:=a.hom.step w y w0 g (by omega)
  have M:=a.hom.rng _ (by omega) i
  have L:=o _ (by omega) i
  refine⟨by rw[s];omega,λl m=>?_,?_⟩
  ·by_cases c0:D0 b (E w) l=0
   ·have F:=P8 hf c0 (iR _)
    have N:=a.hom.rng w w0 g
    have n:=t (-l) (by omega)
    have H:w=0:=a.inj w 0 w0 g (by omega) (by omega) (by rw[h0,←F,n])
    right
    rw[(j H).2,←n];simp
   ·obtain⟨I,z,G⟩:=p _ m (t01 hf m) c0
    have K:=a.full w I l w0 g z.1 z.2 G.symm
    rcases C l (by omega)with k|k
    ·exact .inl k
    ·by_cases cw:w=0
     ·rw[(j cw).1]at k;cases k
     ·right;rw[A cw];exact k
  ·rw[s]
   exact m0n hf a h0 o p t q _ _ _ e (by omega) i (λk=>by omega) (λ_=>rfl) D
theorem n0n:∀(d:Nat) (b:j0),T0 b=true->b.2.1<=(d:Int)+1->∃ E,Emb (X02 d b) b E/\e06 (X02 d b) b E/\z0k b 0 none (h01 d b) (E 0)
 |0,b,h,w=>⟨id,⟨Z2 h,⟨λv a b=>⟨a,b⟩,λv l a b k=>rfl⟩,λx y _ _ _ _ e=>e,λx y l _ _ _ _ e=>e⟩,t03 λv a b=>⟨v,⟨a,b⟩,rfl⟩,rfl⟩
 |d+1,b,h,w=>by
  cases hc:M02 b with
  |false =>
   rw[X02,h01,hc]
   exact⟨id,⟨Z2 h,⟨λv a b=>⟨a,b⟩,λv l a b k=>rfl⟩,λx y _ _ _ _ e=>e,λx y l _ _ _ _ e=>e⟩,t03 λv a b=>⟨v,⟨a,b⟩,rfl⟩,rfl⟩
  |true =>
   obtain⟨x,A,C,f,n,g⟩:=g0f h hc
   obtain⟨E,c,j,s,t,u⟩:=A0q h hc f n g
   have m:=e02 (Z2 h) f
   have D:=U04 h hc f n
   obtain⟨o,i,p,q⟩:=n0n d (G3 b (D0 b 0 x)) m (by omega)
   have F:=(Q0 (Z2 m)).2.2.1
   rw[X02,h01,hc,cond_true,cond_true,A,C]
   refine⟨_,i.comp c,e06.comp i c p s,by omega,λy z => .inl (g y z),?_⟩
   have:=m0n (Z2 h) c j t u g (h01 d (G3 b (D0 b 0 x))) 0 none (some (-x)) (o 0) (iR _) (by omega) (λ_=>⟨rfl,rfl⟩) (λk=>absurd rfl k) q
   rw[j]at this;exact this
theorem i0h{a b:j0}{f:Int->Int}(j:T0 a=true)(m:Mor a b f):∀(q:List Int) (u:Int) (i:Option Int) (e:Int),0<=u->u<a.2.1->(∃ l,i≠some l/\0<=D0 a u l)->z0k b (f u) i q e->∃ v,rdw a u q=some v/\(0<=v/\v<a.2.1)/\f v=e
 | [],u,i,e,n,o,s,h=>⟨u,rfl,⟨n,o⟩,Eq.symm h⟩
 |x::q,u,i,e,n,o,⟨l,s,c⟩,h=>by
  obtain⟨G,t,p⟩:=h
  have g:=m.step u l n o c
  have hf:=Z2 j
  have d:=t01 hf c
  have y:=m.rng _ c d
  have w:l=x:=by
   rcases t l (by rw[g];exact y.1)with k|k
   ·exact k
   ·exact absurd k s
  rw[w]at c g d
  have H:D0 a u x≠0:=λk=>by rw[k,m.base]at g;omega
  obtain⟨C,z,A⟩:=N06 hf (H0a j (by omega) d).1 (-x)
  rw[g]at p
  obtain⟨v,D,E,F⟩:=i0h j m q (D0 a u x) (some (-x)) e c d ⟨C,λk=>by simp at k;exact z k.symm,A⟩ p
  exact⟨v,by rw[rdw,if_neg (by omega)];exact D,E,F⟩
theorem h0f{b:j0}(h:T0 b=true):R03 b=X02 40 b:=by unfold R03;rw[h];rfl
theorem l0s{a b:j0}{f:Int->Int}(d:T0 a=true)(i:T0 b=true)(m:Mor a b f)(o:∃ l,0<=D0 a 0 l):∃ v g,rdw a 0 (h01 40 b)=some v/\(0<=v/\v<a.2.1)/\Mor (G3 a v) (R03 b) g:=by
 have D:=(Q0 (Z2 i)).2.2.1
 have pa:=(Q0 (Z2 d)).2.2.1
 obtain⟨E,j,x,y⟩:=n0n 40 b i (by omega)
 obtain⟨l,o⟩:=o
 obtain⟨v,A,p,u⟩:=i0h d m (h01 40 b) 0 none (E 0) (iR _) (by omega) ⟨l,(λk=>by cases k),o⟩ (by rw[m.base];exact y)
 obtain⟨C,w,q,_⟩:=f0f (Z2 d) p
 have h:=e0f (e02 (Z2 d) p)
 have s:=w.hom.comp (c:=b) (k:=f) ⟨m.rng,m.step⟩ h.fx
 have F:=(Q0 j.fc).2.2.1
 obtain⟨g,n,z⟩:=s.lift h.fx j (x _ 0 _ h s ⟨0,⟨by omega,by omega⟩,by rw[q,u]⟩)
 have e:=h.pr
 have t:=n.rng 0 e.1 e.2
 refine⟨v,g,A,p,?_⟩
 rw[h0f i]
 exact⟨j.inj _ _ t.1 t.2 (by omega) (by omega) (by rw[z 0 e.1 e.2,q,u]),n.rng,n.step⟩
theorem o0n:∀(l m:List Int),l.Nodup->(∀ x∈l,x∈m)->l.length<=m.length
 | [],m,_,_=>Nat.zero_le _
 |x::l,m,g,a=>by
  obtain⟨e,f⟩:=List.nodup_cons.1 g
  have b:=a x mS
  have j:=o0n l (m.erase x) f λy d=>by
   have h:y≠x:=λc=>e (c▸d)
   exact(List.mem_erase_of_ne h).2 (a y (mC _ d))
  have:=List.length_erase_of_mem b
  have i:=List.length_pos_of_mem b
  rw[List.length_cons];omega
def fib(g:Int->Int)(L:List Int)(z:Int):Nat:=(L.filter λu=>decide (g u=z)).length
theorem B0q{x y:j0}{g:Int->Int}(hf:C0 x=true)(m:Mor x y g){L:List Int}(q:L.Nodup)(i:∀ u,u∈L↔0<=u/\u<x.2.1)(j:∀ u l,0<=u->u<x.2.1->0<=D0 y (g u) l->0<=D0 x u l){z l:Int}(k:0<=D0 y z l):fib g L z<=fib g L (D0 y z l):=by
 unfold fib
 have h:=o0n ((L.filter λu=>decide (g u=z)).map λu=>D0 x u l) (L.filter λu=>decide (g u=D0 y z l)) (by
  rw[List.Nodup,List.pairwise_map]
  refine List.Pairwise.imp_of_mem (λ{a b} f p s e=>s ?_) (q.filter _)
  simp only[List.mem_filter,decide_eq_true_eq,i]at f p
  have d:=j a l f.1.1 f.1.2 (by rw[f.2];exact k)
  have n:=P8 hf (v:=a) (x:=l) rfl d
  have o:=P8 hf (v:=b) (x:=l) rfl (by rw[←e];exact d)
  rw[←n,←o,e]) λw t=>by
  obtain⟨u,c,rfl⟩:=List.mem_map.1 t
  simp only[List.mem_filter,decide_eq_true_eq,i]at c ⊢
  have d:=j u l c.1.1 c.1.2 (by rw[c.2];exact k)
  exact⟨⟨d,t01 hf d⟩,by rw[←m.step u l c.1.1 c.1.2 d,c.2]⟩
 rwa [List.length_map]at h
theorem I0o{x y:j0}{g:Int->Int}(hf:C0 x=true)(b:T0 y=true)(m:Mor x y g){L:List Int}(f:L.Nodup)(d:∀ u,u∈L↔0<=u/\u<x.2.1)(i:∀ u l,0<=u->u<x.2.1->0<=D0 y (g u) l->0<=D0 x u l){z:Int}(h0:0<=z)(k:z<y.2.1):fib g L z=fib g L 0:=by
 have c:=Z2 b
 refine Rch.sub (P:=λz=>fib g L z=fib g L 0) rfl (λe h=>?_) (I0a b h0 k)
 have j:=(Q0 c).1 e h
 have a:=u00 c h
 have n:=B0q hf m f d i (z:=e.1) (l:=e.2.1) (by rw[a.1];exact j.2.1.1)
 have o:=B0q hf m f d i (z:=e.2.2) (l := -e.2.1) (by rw[a.2];exact j.1.1)
 rw[a.1]at n
 rw[a.2]at o
 rw[show fib g L e.1=fib g L e.2.2 by omega]
def f0c(g:Int->Int)(L:List Int):Nat->Nat
 |0=>0
 |k+1=>f0c g L k+fib g L (k:Int)
theorem j0h(g:Int->Int)(u:Int)(L:List Int):∀ k:Nat,f0c g (u::L) k=f0c g L k+(if 0<=g u/\g u<(k:Int)then 1 else 0)
 |0=>by
  rw[f0c,f0c,if_neg (by omega)]
 |k+1=>by
  have a:=j0h g u L k
  have hf:fib g (u::L) (k:Int)=fib g L (k:Int)+(if g u=(k:Int)then 1 else 0):=by
   unfold fib
   by_cases c:g u=(k:Int)
   ·rw[List.filter_cons_of_pos (by simpa using c),if_pos c];rfl
   ·rw[List.filter_cons_of_neg (by simpa using c),if_neg c];rfl
  rw[f0c,f0c,a,hf]
  by_cases c1:g u=(k:Int)
  ·rw[if_neg (by omega),if_pos c1,if_pos (by omega)];omega
  ·by_cases c2:0<=g u/\g u<(k:Int)
   ·rw[if_pos c2,if_neg c1,if_pos (by omega)];omega
   ·rw[if_neg c2,if_neg c1,if_neg (by omega)];omega
theorem A0k(g:Int->Int)(m:Nat):∀(L:List Int),(∀ u∈L,0<=g u/\g u<(m:Int))->f0c g L m=L.length
 | [],_=>by
  have:∀ k,f0c g [] k=0:=λk=>by
   induction k with
   |zero=>rfl
   |succ k b=>rw[f0c,b];rfl
  exact this m
 |u::L,h=>by
  rw[j0h,A0k g m L λv a=>h v (mC _ a),if_pos (h u mS),List.length_cons]
theorem i0f(g:Int->Int)(L:List Int)(c:Nat):∀ k:Nat,(∀ z:Int,0<=z->z<(k:Int)->fib g L z=c)->f0c g L k=k*c
 |0,_=>by simp[f0c]
 |k+1,h=>by
  rw[f0c,i0f g L c k λz h0 a=>h z h0 (by omega),h (k:Int) (by omega) (by omega),Nat.add_mul,Nat.one_mul]
theorem X0l{x y:j0}{g:Int->Int}(hf:C0 x=true)(b:T0 y=true)(m:Mor x y g){L:List Int}(d:L.Nodup)(a:∀ u,u∈L↔0<=u/\u<x.2.1)(e:∀ u l,0<=u->u<x.2.1->0<=D0 y (g u) l->0<=D0 x u l):L.length=y.2.1.toNat*fib g L 0:=by
 have q:=(Q0 (Z2 b)).2.2.1
 rw[←A0k g y.2.1.toNat L λu c=>by
  have:=m.rng u ((a u).1 c).1 ((a u).1 c).2
  omega]
 exact i0f g L _ _ λz h0 f=>I0o hf b m d a e h0 (by omega)
def isS(o:Option (List Int)):Bool:=o.isSome
theorem C0q{n u:Int}(h:inR 0 (n-1) u=true):0<=u/\u<n:=by
 simp only[inR,Bool.and_eq_true,decide_eq_true_eq]at h
 omega
theorem Y0l(g:j0)(a:E1 g=true)(u:Int):T3 g u=some (inR 0 (g.2.1-1) u):=by
 obtain⟨c,d,b,e⟩:=Z0 a
 obtain⟨r,n,es⟩:=g
 simp only at b
 unfold T3
 simp only[K07]
 rw[w64 (by omega) (by omega)]
 rfl
def W7(g:j0):Bool:=T0 g&&decide (g.2.2.length=0)
theorem y08{g:j0}(h:T0 g=true)(a:g.2.2.length=0):g.2.1=1:=by
 have hf:=Z2 h
 obtain⟨f,i,j,k⟩:=Q0 hf
 have c:g.2.2 = []:=List.eq_nil_of_length_eq_zero a
 refine Classical.byContradiction λd=>?_
 have b:Rch g.2.2 0 1:=U0e h (by omega) (by omega)
 rw[c]at b
 have:=Rch.sub (P:=λx=>x=0) rfl (λe a=>by cases a) b
 omega
theorem S0a(g:j0)(f:g.2.2.length<=140737488355328):W9 g=some (W7 g):=by
 have d:=p8 g f
 have e := @y08 g
 unfold W7
 obtain⟨a,b,c⟩:=g
 unfold W9
 simp only[d,oB,l0u]
 cases hc:T0 (a,b,c)with
 |false=>rfl
 |true =>
  by_cases he:c.length=0
  ·have:=e hc he
   simp only at this
   rw[decide_eq_true he,decide_eq_true this];rfl
  ·rw[decide_eq_false he]
   cases decide (b=1)<;>rfl
theorem P0s{g:j0}(hf:C0 g=true){x:Int}(h:x∈P1 g.1.toNat 1):I0 x:=by
 obtain⟨j,a,b,c⟩:=S07 _ _ _ h
 have:=(Q0 hf).2.1
 unfold I0
 omega
theorem D0q{g:j0}(h:T0 g=true)(ls:List Int)(o:∀ x∈ls,x∈P1 g.1.toNat 1)(E:ls.length<=1000)(p:List Int)(H:p.length<=1000){v:Int}(s:∀ u,b05 g ls=some u->0<=u/\u<g.2.1):∀(d k fuel:Nat),k+d=ls.length->d<fuel->b05 g (ls.drop k)=some v->b05 g ls=some v ->
  ∃ x,(I0 x/\J0a g (ls.drop k)=some x)/\r6 ls fuel (k:Int) g.1 g.2.1 g.2.2 p=some ((G3 g v).1,(G3 g v).2.1,(G3 g v).2.2,p ++ [x])
 |d,k,0,m,hf,a,i=>by omega
 |0,k,fuel+1,m,hf,a,i=>by rw[N1 (by omega)]at a;cases a
 |d+1,k,fuel+1,m,hf,a,i=>by
  have n:k<ls.length:=by omega
  have b:=V5 n
  have l:=o _ (List.mem_of_getElem? b)
  rw[L1 b]at a
  generalize ls[k]=x at b l a
  have j:=Z2 h
  obtain⟨M,N,O⟩:=W02 h
  have G:=N8 g 0 x (d04 _ _ (by omega) x l) (by omega)
  have A:I0 (D0 g 0 x):=by
   rcases k00 g 0 x with⟨e,_⟩|e
   ·rw[e];decide
   ·obtain⟨f,C,D⟩:=U2.1 e
    have:=(Q0 j).1 f C
    unfold I0
    rcases D with⟨_,_,_,q⟩|⟨_,_,_,q⟩<;>rw[q]<;>omega
  have I:=D0q h ls o E p H (v:=v) s d (k+1) fuel (by omega) (by omega)
  have F:=P0e j (s v i)
  rw[r6.eq_2,if_pos (by simp only[decide_eq_true_eq];omega)]
  obtain⟨t,w,y⟩:=g
  simp only[T2 b,oB,G,F0 A]
  unfold b05 at a
  by_cases c:0<=D0 (t,w,y) 0 x
  ·rw[if_pos c]at a
   cases a
   rw[if_pos (by simp only[decide_eq_true_eq];exact c),F0 (by simp only[List.length_singleton];omega),oB,F,oB]
   exact⟨x,⟨P0s j l,by rw[L1 b];unfold J0a;rw[if_pos c]⟩,rfl⟩
  ·rw[if_neg c]at a
   rw[if_neg (by simp only[decide_eq_true_eq];exact c),G2 n (by omega)]
   obtain⟨z,⟨J,K⟩,L⟩:=I a i
   exact⟨z,⟨J,by rw[L1 b];unfold J0a;rw[if_neg c];exact K⟩,L⟩
theorem E0q{g:j0}(h:T0 g=true)(ls:List Int)(o:∀ x∈ls,x∈P1 g.1.toNat 1)(E:ls.length<=1000)(p:List Int)(H:p.length<=1000){v:Int}(s:∀ u,b05 g ls=some u->0<=u/\u<g.2.1):∀(d k fuel:Nat),k+d=ls.length->d<fuel->b05 g (ls.drop k)=some v->b05 g ls=some v ->
  ∃ x,(I0 x/\J0a g (ls.drop k)=some x)/\w6 ls fuel (k:Int) g.1 g.2.1 g.2.2 p=some ((G3 g v).1,(G3 g v).2.1,(G3 g v).2.2,p ++ [x])
 |d,k,0,m,hf,a,i=>by omega
 |0,k,fuel+1,m,hf,a,i=>by rw[N1 (by omega)]at a;cases a
 |d+1,k,fuel+1,m,hf,a,i=>by
  have n:k<ls.length:=by omega
  have b:=V5 n
  have l:=o _ (List.mem_of_getElem? b)
  rw[L1 b]at a
  generalize ls[k]=x at b l a
  have j:=Z2 h
  obtain⟨M,N,O⟩:=W02 h
  have G:=g00 g 0 x (d04 _ _ (by omega) x l) (by omega)
  have A:I0 (D0 g 0 x):=by
   rcases k00 g 0 x with⟨e,_⟩|e
   ·rw[e];decide
   ·obtain⟨f,C,D⟩:=U2.1 e
    have:=(Q0 j).1 f C
    unfold I0
    rcases D with⟨_,_,_,q⟩|⟨_,_,_,q⟩<;>rw[q]<;>omega
  have I:=E0q h ls o E p H (v:=v) s d (k+1) fuel (by omega) (by omega)
  have F:=Q0e j (s v i)
  rw[w6.eq_2,if_pos (by simp only[decide_eq_true_eq];omega)]
  obtain⟨t,w,y⟩:=g
  simp only[T2 b,oB,G,F0 A]
  unfold b05 at a
  by_cases c:0<=D0 (t,w,y) 0 x
  ·rw[if_pos c]at a
   cases a
   rw[if_pos (by simp only[decide_eq_true_eq];exact c),F,oB]
   simp only
   rw[F0 (by simp only[List.length_singleton];omega),oB]
   exact⟨x,⟨P0s j l,by rw[L1 b];unfold J0a;rw[if_pos c]⟩,rfl⟩
  ·rw[if_neg c]at a
   rw[if_neg (by simp only[decide_eq_true_eq];exact c),G2 n (by omega)]
   obtain⟨z,⟨J,K⟩,L⟩:=I a i
   exact⟨z,⟨J,by rw[L1 b];unfold J0a;rw[if_neg c];exact K⟩,L⟩
theorem p0n(g:j0):M02 g=(decide (g.2.1>1)&&decide (((O8 0 g.2.2:Nat):Int)=1)):=by
 unfold M02
 congr 1
 exact decide_eq_decide.2 (by omega)
theorem F0q:∀(d:Nat) (g:j0) (k fuel:Nat) (p:List Int),T0 g=true->g.2.1<=(d:Int)+1->k+d<=40->d<fuel->p.length<=k->K0a p ->
  t6 fuel (k:Int) g.1 g.2.1 g.2.2 p=some ((X02 d g).1,(X02 d g).2.1,(X02 d g).2.2,p++h01 d g)/\(p++h01 d g).length<=40/\K0a (p++h01 d g)
 |d,g,k,0,p,h,L,J,hf,M,l=>by omega
 |d,g,k,fuel+1,p,h,L,J,hf,M,l=>by
  obtain⟨C,D,E⟩:=W02 h
  have i:=K0b g 0 (by omega)
  have b:=p0n g
  have w:=P0b g.1.toNat (by omega)
  rw[show((g.1.toNat:Nat):Int)=g.1 by omega]at w
  have q:O8 0 g.2.2<=1000:=by
   have:∀ es:List M0,O8 0 es<=2*es.length:=λes=>by
    induction es with
    |nil=>exact Nat.le_refl _
    |cons x r U =>
     simp only[O8,T02,List.length_cons]
     split<;>split<;>omega
   have:=this g.2.2;omega
  have S:=o8 g.1.toNat 1
  have I:∀ u,b05 g (P1 g.1.toNat 1)=some u->M02 g=true->0<=u/\u<g.2.1:=λu j a=>by
   obtain⟨v,c,f,A⟩:=Y0b h a
   rw[c]at j;cases j;exact f
  rw[t6.eq_2]
  cases a:M02 g
  ·have o:X02 d g=g:=by
    cases d with
    |zero=>rfl
    |succ d=>unfold X02;rw[a];rfl
   have n:h01 d g = []:=by
    cases d with
    |zero=>rfl
    |succ d=>unfold h01;rw[a];rfl
   rw[o,n,List.append_nil]
   obtain⟨F,e,G⟩:=g
   simp only at b i C D E q
   refine⟨?_,by omega,l⟩
   have t:(bif decide ((k:Int)<40)then decide (e>1)else false)=(decide ((k:Int)<40)&&decide (e>1)):=by cases decide ((k:Int)<40)<;>rfl
   rw[t]
   rw[a]at b
   cases hb:(decide ((k:Int)<40)&&decide (e>1))
   ·simp only[chk,cond_false,Bool.false_eq_true,if_false,oB]
    rw[F0 (by decide),oB]
   ·have H:decide (e>1)=true:=(Bool.and_eq_true_iff.1 hb).2
    simp only[chk,if_true,i,oB]
    rw[F0 (c64 (by omega) (by omega)),oB]
    rw[H,Bool.true_and]at b
    rw[←b]
    simp only[cond_true,Bool.false_eq_true,if_false]
  ·obtain⟨v,c,f,A⟩:=Y0b h a
   have T:=U04 h a f A
   have K:=e02 (Z2 h) f
   cases d with
   |zero =>
    exfalso
    unfold M02 at a
    simp only[Bool.and_eq_true,decide_eq_true_eq]at a
    omega
   |succ d =>
    obtain⟨x,⟨y,s⟩,m⟩:=D0q h (P1 g.1.toNat 1) (λx y=>y) (by omega) p (by omega) (v:=v) (λu j=>I u j a) (P1 g.1.toNat 1).length 0 U0 (by omega) (C1 (by omega)) (by rw[List.drop_zero];exact c) c
    obtain⟨O,P,Q⟩:=F0q d (G3 g v) (k+1) fuel (p ++ [x]) K (by omega) (by omega) (by omega) (by simp;omega) (c0h l λz R=>by rw[List.mem_singleton.1 R];exact y)
    rw[List.drop_zero]at s
    have N:D0 g 0 x=v:=by
     have:=c
     rw[S0e,s]at this
     exact oJ this
    have n:p++h01 (d+1) g=p ++ [x]++h01 d (G3 g v):=by
     rw[h01,a,cond_true,s]
     simp only[N,List.append_assoc,List.singleton_append]
    have o:X02 (d+1) g=X02 d (G3 g v):=by
     rw[X02,a,cond_true,c]
    rw[o,n]
    refine⟨?_,P,Q⟩
    have t:decide ((k:Int)<40)=true:=decide_eq_true (by omega)
    rw[a]at b
    have b:=b.symm
    rw[Bool.and_eq_true]at b
    obtain⟨F,e,G⟩:=g
    simp only at b i w m ⊢
    rw[t,b.1]
    simp only[chk,cond_true,if_true,i,oB]
    rw[F0 (c64 (by simp only at q;omega) (by simp only at q;omega)),oB,b.2,if_pos rfl,w,oB]
    rw[show((0:Nat):Int)=0 from rfl]at m
    rw[m,oB]
    simp only
    rw[show IntKind.i64.wrap ((k:Int)+1)=((k+1:Nat):Int) from G2 (show k<41 by omega) (by omega)]
    exact O
theorem G0q:∀(d:Nat) (g:j0) (fuel:Nat) (p:List Int),T0 g=true->g.2.1<=(d:Int)+1->d<=40->d<fuel->p.length+d<=40->K0a p ->
  A6 fuel g.1 g.2.1 g.2.2 p=some ((X02 d g).1,(X02 d g).2.1,(X02 d g).2.2,p++h01 d g)/\(p++h01 d g).length<=40/\K0a (p++h01 d g)
 |d,g,0,p,h,I,G,hf,J,j=>by omega
 |d,g,fuel+1,p,h,I,G,hf,J,j=>by
  obtain⟨y,A,C⟩:=W02 h
  have f:=G0g g 0 (by omega)
  have b:=p0n g
  have q:=O0b g.1.toNat (by omega)
  rw[show((g.1.toNat:Nat):Int)=g.1 by omega]at q
  have n:O8 0 g.2.2<=1000:=by
   have:∀ es:List M0,O8 0 es<=2*es.length:=λes=>by
    induction es with
    |nil=>exact Nat.le_refl _
    |cons x r R =>
     simp only[O8,T02,List.length_cons]
     split<;>split<;>omega
   have:=this g.2.2;omega
  have P:=o8 g.1.toNat 1
  have F:∀ u,b05 g (P1 g.1.toNat 1)=some u->M02 g=true->0<=u/\u<g.2.1:=λu i a=>by
   obtain⟨v,c,e,t⟩:=Y0b h a
   rw[c]at i;cases i;exact e
  rw[A6.eq_2]
  cases a:M02 g
  ·have m:X02 d g=g:=by
    cases d with
    |zero=>rfl
    |succ d=>unfold X02;rw[a];rfl
   have l:h01 d g = []:=by
    cases d with
    |zero=>rfl
    |succ d=>unfold h01;rw[a];rfl
   rw[m,l,List.append_nil]
   obtain⟨D,w,E⟩:=g
   simp only at b f y A C n
   refine⟨?_,by omega,j⟩
   rw[a]at b
   cases hb2:decide (w>1)
   ·simp only[chk,cond_false,Bool.false_eq_true,if_false,oB]
    rw[F0 (by decide),oB]
   ·simp only[chk,if_true,f,oB]
    rw[F0 (c64 (by omega) (by omega)),oB]
    rw[hb2,Bool.true_and]at b
    rw[←b]
    simp only[cond_true,Bool.false_eq_true,if_false]
  ·obtain⟨v,c,e,t⟩:=Y0b h a
   have Q:=U04 h a e t
   have H:=e02 (Z2 h) e
   cases d with
   |zero =>
    exfalso
    unfold M02 at a
    simp only[Bool.and_eq_true,decide_eq_true_eq]at a
    omega
   |succ d =>
    obtain⟨x,⟨s,o⟩,k⟩:=E0q h (P1 g.1.toNat 1) (λx s=>s) (by omega) p (by omega) (v:=v) (λu i=>F u i a) (P1 g.1.toNat 1).length 0 U0 (by omega) (C1 (by omega)) (by rw[List.drop_zero];exact c) c
    obtain⟨L,M,N⟩:=G0q d (G3 g v) fuel (p ++ [x]) H (by omega) (by omega) (by omega) (by simp;omega) (c0h j λz O=>by rw[List.mem_singleton.1 O];exact s)
    rw[List.drop_zero]at o
    have K:D0 g 0 x=v:=by
     have:=c
     rw[S0e,o]at this
     exact oJ this
    have l:p++h01 (d+1) g=p ++ [x]++h01 d (G3 g v):=by
     rw[h01,a,cond_true,o]
     simp only[K,List.append_assoc,List.singleton_append]
    have m:X02 (d+1) g=X02 d (G3 g v):=by
     rw[X02,a,cond_true,c]
    rw[m,l]
    refine⟨?_,M,N⟩
    rw[a]at b
    have b:=b.symm
    rw[Bool.and_eq_true]at b
    obtain⟨D,w,E⟩:=g
    simp only at b f q k ⊢
    rw[b.1]
    simp only[chk,cond_true,if_true,f,oB]
    rw[F0 (c64 (by simp only at n;omega) (by simp only at n;omega)),oB,b.2,if_pos rfl,q,oB]
    rw[show((0:Nat):Int)=0 from rfl]at k
    rw[k,oB]
    exact L
theorem Z0l(g:j0)(a:g.2.2.length<=140737488355328):J2 g=some (T0 g):=by
 unfold J2
 simp only[e04 g a,oB]
theorem J0o{g:j0}(h:T0 g=true):m00 g=some (R03 g,h01 40 g)/\(h01 40 g).length<=40/\K0a (h01 40 g):=by
 obtain⟨i,j,k⟩:=W02 h
 have e:=Z0l g (by omega)
 have d:=q03 g (by omega)
 obtain⟨a,b,c⟩:=F0q 40 g 0 U0 [] h (by omega) (by omega) (C1 (by omega)) (Nat.le_refl _) (λx f=>nomatch f)
 rw[List.nil_append]at a b c
 refine⟨?_,b,c⟩
 unfold R03
 rw[h,cond_true]
 rw[show((0:Nat):Int)=0 from rfl]at a
 obtain⟨l,m,n⟩:=g
 unfold m00
 simp only at a
 simp only[e,h,d,oB,Bool.not_true,Bool.false_eq_true,if_false,a]
theorem K0o{g:j0}(h:T0 g=true):n00 g=some (R03 g,h01 40 g)/\(h01 40 g).length<=40/\K0a (h01 40 g):=by
 obtain⟨i,j,k⟩:=W02 h
 have e:=p8 g (by omega)
 have d:=O01 g (by omega)
 obtain⟨a,b,c⟩:=G0q 40 g U0 [] h (by omega) (by omega) (C1 (by omega)) (by simp) (λx f=>nomatch f)
 rw[List.nil_append]at a b c
 refine⟨?_,b,c⟩
 unfold R03
 rw[h,cond_true]
 obtain⟨l,m,n⟩:=g
 unfold n00
 simp only at a
 simp only[e,h,d,oB,Bool.not_true,Bool.false_eq_true,if_false,a]
theorem m0s{g:j0}(hf:C0 g=true){w:List Int}(k:∀ x∈w,O3 x)(j:w.length<=140737488355328):j00 g w=some (H03 g w):=by
 obtain⟨e,m,f,n⟩:=Q0 hf
 have h:=O0p g e f.2 (by omega) 0 w k j
 have i:=Q0j e f.2 w 0 ⟨by omega,by omega⟩
 have l:=n0e g w 0
 unfold H03
 obtain⟨a,b,c⟩:=g
 unfold j00
 simp only[h,oB]
 rw[F0 i,oB,F0 (show I0 (((G9 (a,b,c) 0 w).2:Nat):Int) from⟨by omega,by omega⟩),oB]
 by_cases d:(G9 (a,b,c) 0 w).2=w.length
 ·rw[decide_eq_true d,show decide ((((G9 (a,b,c) 0 w).2:Nat):Int)=((w.length:Nat):Int))=true from decide_eq_true (by omega)]
  simp
 ·rw[decide_eq_false d,show decide ((((G9 (a,b,c) 0 w).2:Nat):Int)=((w.length:Nat):Int))=false from decide_eq_false (by omega)]
  simp
theorem y0i(w:List Int)(a:w.length<=1099511627776):n9 w=some (z02 [] w).reverse:=by
 unfold n9
 rw[b09 [w] (by simp) (by simp only[C0o];omega)]
 rfl
theorem j0f{w:List Int}(a:∀ x∈w,O3 x):∀ x∈(z02 [] w).reverse,O3 x:=λx b=>by
 rcases t0k w [] (List.mem_reverse.1 b)with h|h
 ·cases h
 ·exact a x h
theorem H0q{g:j0}(hf:C0 g=true)(a:List (List Int))(j:∀ w∈a,(∀ x∈w,O3 x)/\w.length<=1099511627776)(l:a.length<=1099511627776):∀(d k fuel:Nat),k+d=a.length->d<fuel ->
  H5 a g.1 g.2.1 g.2.2 fuel (k:Int)=some (bif(a.drop k).all λw=>H03 g (z02 [] w).reverse then .inr ()else .inl false)
 |d,k,0,e,h=>by omega
 |0,k,fuel+1,e,h=>by
  rw[H5.eq_2,if_neg (by simp only[decide_eq_true_eq];omega),N1 (by omega)];rfl
 |d+1,k,fuel+1,e,h=>by
  have i:k<a.length:=by omega
  have b:=V5 i
  have c:=j _ (List.mem_of_getElem? b)
  have f:=L1 b
  generalize a[k]=w at b c f
  have m:=L0a w []
  have n:=H0q hf a j l d (k+1) fuel (by omega) (by omega)
  rw[H5.eq_2,if_pos (by simp only[decide_eq_true_eq];omega),T2 b,oB,y0i w c.2,oB,show(g.1,g.2.1,g.2.2)=g from rfl,m0s hf (j0f c.1) (by rw[List.length_reverse];simp only[List.length_nil]at m;omega),oB,G2 i (by omega),n,f,List.all_cons]
  cases H03 g (z02 [] w).reverse<;>rfl
theorem X0f(b:j0)(h:b.2.2.length<=140737488355328)(d:List (List Int))(i:∀ w∈d,(∀ x∈w,O3 x)/\w.length<=1099511627776)(g:d.length<=1099511627776):Q8 b d=some (B01 b d):=by
 have f:=p8 b h
 have e:T0 b=true->_:=λc=>H0q (E2 c) d i g d.length 0 U0 (by omega) (C1 (by omega))
 rw[show((0:Nat):Int)=0 from rfl,List.drop_zero]at e
 unfold B01
 obtain⟨a,b,c⟩:=b
 unfold Q8
 simp only[f,oB]
 cases cb:T0 (a,b,c)with
 |false=>rfl
 |true =>
  have:=e cb
  simp only at this
  simp only[Bool.not_true,Bool.false_eq_true,if_false,this,oB,Bool.true_and]
  cases d.all λw=>H03 (a,b,c) (z02 [] w).reverse<;>rfl
theorem k0f{g:j0}(a:T0 g=true):(∀ w∈u02 g,(∀ x∈w,O3 x)/\w.length<=81)/\(u02 g).length<=120:=by
 obtain⟨h,i,j,k⟩:=Q0 (E2 a)
 refine⟨λw b=>?_,?_⟩
 ·unfold u02 at b
  obtain⟨e,d,rfl⟩:=List.mem_map.1 b
  refine⟨j0f (F0o a (s03.1 d).1),?_⟩
  have c:=L0a (bw g e) []
  have f:=x0t (E2 a) e
  rw[List.length_reverse]
  simp only[List.length_nil]at c
  omega
 ·unfold u02
  rw[List.length_map]
  have:(O00 g).length<=g.2.2.length:=List.length_filter_le _ _
  omega
theorem l0f(a b:j0)(p:a.2.2.length<=140737488355328)(f:b.2.2.length<=140737488355328):r01 a b=some (l00 a b):=by
 have l:=p8 a p
 have m:=p8 b f
 have n:T0 a=true->W00 a=some (u02 a):=λc=>h0s c
 have o:T0 a=true->Q8 b (u02 a)=some (B01 b (u02 a)):=λc=>X0f b f _ (λw g=>⟨((k0f c).1 w g).1,by have:=((k0f c).1 w g).2;omega⟩) (by have:=(k0f c).2;omega)
 rw[←v0k]
 obtain⟨d,h,i⟩:=a
 obtain⟨e,j,k⟩:=b
 unfold r01
 simp only[l,oB]
 cases ca:T0 (d,h,i)with
 |false=>rfl
 |true =>
  simp only[Q2,m,oB,cond_true,Bool.true_and]
  cases cb:T0 (e,j,k)with
  |false=>rfl
  |true =>
   simp only[cond_true,Bool.true_and]
   by_cases hr:d=e
   ·simp only[decide_eq_true hr,Q2,cond_true,n ca,oB,o ca,Bool.true_and]
   ·simp only[decide_eq_false hr,o5,cond_false,oB,Bool.false_and]
theorem M03(g:j0)(d:g.2.2.length<=140737488355328):J2 g=some (T0 g):=by
 have:=e04 g d
 obtain⟨a,b,c⟩:=g
 unfold J2
 show(K00 (a,b,c)).bind (λe=>some e)=_
 rw[this];rfl
def z08(g:j0):j0:=L3 (O03 (T9 g).1)
theorem B0k{g:j0}(f:E1 g=true):S7 g=some (z08 g):=by
 obtain⟨m,o,p,s⟩:=Z0 f
 have h:=Z08 g (by omega)
 have hf:=R04 f
 obtain⟨v,d⟩:=J0e (K0 hf)
 have e:=O07 (O03 (T9 g).1) (L9 40 hf)
 unfold z08
 obtain⟨r,n,es⟩:=g
 unfold S7
 generalize T9 (r,n,es)=q at *
 obtain⟨⟨a,b,c⟩,l⟩:=q
 simp only[h,oB]
 simp only at d e
 generalize O03 (a,b,c)=q2 at *
 obtain⟨i,j,k⟩:=q2
 simp only[d,oB,e]
theorem C0k{g:j0}(f:E1 g=true):T7 g=some (z08 g):=by
 obtain⟨m,o,p,s⟩:=Z0 f
 have h:=a09 g (by omega)
 have hf:=R04 f
 obtain⟨v,d⟩:=I0c (K0 hf)
 have e:=N07 (O03 (T9 g).1) (L9 40 hf)
 unfold z08
 obtain⟨r,n,es⟩:=g
 unfold T7
 generalize T9 (r,n,es)=q at *
 obtain⟨⟨a,b,c⟩,l⟩:=q
 simp only[h,oB]
 simp only at d e
 generalize O03 (a,b,c)=q2 at *
 obtain⟨i,j,k⟩:=q2
 simp only[d,oB,e]
def A08(g:j0)(v:Int):j0×Bool:=bif C0 g&&inR 0 (g.2.1-1) v then(G3 g v,true)else(g,false)
theorem K0c(g:j0)(h:g.2.2.length<=1099511627776)(v:Int):B7 g v=some (A08 g v):=by
 unfold A08
 cases hf:C0 g with
 |false =>
  have d:=i9 g (by omega)
  have e:=q03 g (by omega)
  rw[hf]at d
  obtain⟨a,b,c⟩:=g
  unfold B7
  simp only[d,oB,Bool.not_false,Bool.not_true,o5,cond_true,if_true,e,Bool.false_and,cond_false]
 |true =>
  cases hv:inR 0 (g.2.1-1) v with
  |true=>exact P0e hf (by simp only[inR,Bool.and_eq_true,decide_eq_true_eq]at hv;omega)
  |false =>
   obtain⟨i,j,f,k⟩:=Q0 hf
   have d:=i9 g (by omega)
   have e:=q03 g (by omega)
   rw[hf]at d
   obtain⟨a,b,c⟩:=g
   simp only at hv f
   unfold B7
   simp only[d,oB,Bool.not_false,Bool.not_true,Q2,N04,w64 (show -9223372036854775808<=b-1 by omega) (show b-1<=9223372036854775807 by omega),hv,cond_false,if_true,e,Bool.true_and]
theorem D0k(g:j0)(i:g.2.2.length<=1099511627776)(v:Int):C7 g v=some (A08 g v):=by
 unfold A08
 cases hf:C0 g with
 |false =>
  have d:=n8 g (by omega)
  have e:=O01 g (by omega)
  rw[hf]at d
  obtain⟨a,b,c⟩:=g
  unfold C7
  simp only[d,oB,Bool.not_false,Bool.not_true,o5,cond_true,if_true,e,Bool.false_and,cond_false]
 |true =>
  cases hv:inR 0 (g.2.1-1) v with
  |true=>exact Q0e hf (by simp only[inR,Bool.and_eq_true,decide_eq_true_eq]at hv;omega)
  |false =>
   obtain⟨j,k,h,l⟩:=Q0 hf
   have d:=n8 g (by omega)
   have e:=O01 g (by omega)
   have f:=Y0l g (K0 hf) v
   rw[hf]at d
   rw[hv]at f
   obtain⟨a,b,c⟩:=g
   simp only at hv h
   unfold C7
   simp only[d,oB,Bool.not_false,Bool.not_true,Q2,f,cond_false,if_true,e,Bool.true_and]
def T01(g:j0):Int:=bif T0 g then(g.2.2.length:Int)-g.2.1+1 else -1
theorem O06(g:j0)(e:g.2.2.length<=140737488355328):L00 g=some (T01 g)/\I0 (T01 g):=by
 have d:=M03 g e
 unfold T01
 cases hc:T0 g with
 |false =>
  rw[hc]at d
  obtain⟨a,b,c⟩:=g
  unfold L00
  simp only[d,oB,Bool.not_false,if_true,cond_false]
  exact⟨trivial,⟨by omega,by omega⟩⟩
 |true =>
  obtain⟨i,j,f,h⟩:=Q0 (E2 hc)
  rw[hc]at d
  obtain⟨a,b,c⟩:=g
  simp only at f h
  unfold L00
  simp only[d,oB,Bool.not_true,Bool.false_eq_true,if_false,cond_true]
  rw[w64 (x:=((c.length:Nat):Int)-b) (by omega) (by omega),w64 (by omega) (by omega)]
  exact⟨rfl,⟨by omega,by omega⟩⟩
theorem m0f(g:j0)(e:g.2.2.length<=140737488355328):M00 g=some (T01 g):=by
 have d:=p8 g e
 unfold T01
 cases hc:T0 g with
 |false =>
  rw[hc]at d
  obtain⟨a,b,c⟩:=g
  unfold M00
  simp only[d,oB,Bool.not_false,if_true,cond_false]
 |true =>
  obtain⟨i,j,f,h⟩:=Q0 (E2 hc)
  rw[hc]at d
  obtain⟨a,b,c⟩:=g
  simp only at f h
  unfold M00
  simp only[d,oB,Bool.not_true,Bool.false_eq_true,if_false,cond_true]
  rw[w64 (x:=((c.length:Nat):Int)-b) (by omega) (by omega),w64 (by omega) (by omega)]
def T0k(n:Int):ByteArray:=if n=0 then⟨#[48]⟩else if n<0 then⟨(45::H08 20 n.natAbs []).toArray⟩else⟨(H08 20 n.natAbs []).toArray⟩
def I01(n:Int)(m:Nat):Int:=if n<0 then -(m:Int)else m
theorem E0n(n:Int)(m:Nat):(I01 n m).tmod 10=I01 n (m % 10):=by
 unfold I01
 split
 ·rw[Int.neg_tmod,show(10:Int)=((10:Nat):Int) from rfl,←Int.ofNat_tmod]
 ·rw[show(10:Int)=((10:Nat):Int) from rfl,←Int.ofNat_tmod]
theorem F0n(n:Int)(m:Nat):(I01 n m).tdiv 10=I01 n (m / 10):=by
 unfold I01
 split
 ·rw[Int.neg_tdiv,show(10:Int)=((10:Nat):Int) from rfl,←Int.ofNat_tdiv]
 ·rw[show(10:Int)=((10:Nat):Int) from rfl,←Int.ofNat_tdiv]
theorem U0k{n:Int}{m:Nat}:I01 n m=0↔m=0:=by
 unfold I01
 split<;>omega
theorem m0u{X:Int}{m:Nat}(acc:List UInt8)(e:X=((m % 10:Nat):Int)):strOfNums [IntKind.u8.wrap (IntKind.i64.wrap (48+X))]++⟨acc.toArray⟩=⟨(UInt8.ofNat (48+m % 10)::acc).toArray⟩:=by
 have a:IntKind.u8.wrap (IntKind.i64.wrap (48+X))=((48+m % 10:Nat):Int):=by
  rw[e]
  simp[IntKind.wrap,IntKind.signed,IntKind.bits]
  omega
 rw[a,show strOfNums [((48+m % 10:Nat):Int)]=⟨#[UInt8.ofNat (48+m % 10)]⟩ from by simp only[strOfNums,List.map_cons,List.map_nil,Int.toNat_natCast]]
 generalize UInt8.ofNat (48+m % 10)=d
 apply ByteArray.ext
 rw[ByteArray.data_append]
 simp
theorem u0s(a b:List UInt8):(⟨a.toArray⟩:ByteArray)++⟨b.toArray⟩=⟨(a++b).toArray⟩:=by
 apply ByteArray.ext
 rw[ByteArray.data_append]
 simp
theorem i06(a:List UInt8):(⟨a.toArray⟩:ByteArray).size=a.length:=by simp[ByteArray.size]
theorem S0s{n:Int}{m:Nat}(h:m<=9223372036854775808)(a:n<0∨m<=9223372036854775807):I0 (I01 n m):=by
 unfold I01
 split<;>constructor<;>omega
theorem U03(n:Int):∀(f m fuel:Nat) (acc:List UInt8),m<10 ^ f->f<fuel->m<=9223372036854775808->acc.length+f<=100->(n<0∨m<=9223372036854775807) ->
  T4 fuel (I01 n m) ⟨acc.toArray⟩=some ⟨(H08 f m acc).toArray⟩
 |f,m,0,acc,a,c,d,g,h=>by omega
 |0,m,fuel+1,acc,a,c,d,g,h=>by
  have:m=0:=by simp at a;exact a
  subst this
  rw[T4.eq_2,show I01 n 0=0 by unfold I01;split<;>simp]
  rfl
 |f+1,m,fuel+1,acc,a,c,d,g,h=>by
  rw[T4.eq_2]
  by_cases h0:m=0
  ·subst h0
   rw[show I01 n 0=0 by unfold I01;split<;>simp]
   simp[H08]
  ·have l:I01 n m≠0:=λe=>h0 (U0k.1 e)
   have next:=U03 n f (m / 10) fuel (UInt8.ofNat (48+m % 10)::acc) (by rw[Nat.pow_succ]at a;omega) (by omega) (by omega) (by simp only[List.length_cons];omega) (by omega)
   have j:IntKind.i64.wrap ((I01 n m).tdiv 10)=I01 n (m / 10):=by
    rw[F0n]
    have:=S0s (n:=n) (m:=m / 10) (by omega) (by omega)
    exact w64 this.1 this.2
   rw[if_pos (by simpa using l),j,E0n]
   simp only[show ∀ k:Unit->Option ByteArray,(grd (10≠0)).bind k=k () from λk=>rfl]
   have key:∀ X:Int,X=((m % 10:Nat):Int)->((grd ([IntKind.u8.wrap (IntKind.i64.wrap (48+X))].length<=9223372036854775807)).bind λ_=>(grd ((strOfNums [IntKind.u8.wrap (IntKind.i64.wrap (48+X))]).size+(⟨acc.toArray⟩:ByteArray).size<=9223372036854775807)).bind λ_ =>
     T4 fuel (I01 n (m / 10)) (strOfNums [IntKind.u8.wrap (IntKind.i64.wrap (48+X))]++⟨acc.toArray⟩))=some ⟨(H08 (f+1) m acc).toArray⟩:=λX i=>by
    rw[F0 (by simp),oB,F0 (by rw[strOfNums_size,i06];simp only[List.length_singleton];omega),oB,m0u acc i,next]
    simp[H08,h0]
   by_cases hneg:I01 n (m % 10)<0
   ·rw[if_pos (by simpa using hneg)]
    refine key _ ?_
    unfold I01 at hneg ⊢
    split at hneg
    ·rename_i b
     rw[if_pos b,w64 (by omega) (by omega)];omega
    ·omega
   ·rw[if_neg (by simpa using hneg)]
    refine key _ ?_
    unfold I01 at hneg ⊢
    split at hneg
    ·rename_i b
     rw[if_pos b];omega
    ·rename_i b
     rw[if_neg b]
theorem V0k(n:Int):I01 n n.natAbs=n:=by unfold I01;split<;>omega
theorem v01(n:Int)(a:I0 n):J6 n=some (T0k n):=by
 unfold J6 T0k
 by_cases h0:n=0
 ·rw[if_pos (by simpa using h0),if_pos h0]
 ·rw[if_neg (by simpa using h0),if_neg h0]
  have h:=U03 n 20 n.natAbs U0 [] (by have:=a.1;have:=a.2;omega) (by unfold U0;omega) (by have:=a.1;have:=a.2;omega) (by simp) (by have:=a.2;omega)
  rw[V0k]at h
  rw[h,oB]
  have b:=d0e 20 n.natAbs []
  simp only[List.length_nil]at b
  by_cases hneg:n<0
  ·rw[if_pos (by simpa using hneg),if_pos hneg,F0 (by have e:=i06 (H08 20 n.natAbs []);have c:(⟨#[45]⟩:ByteArray).size=1:=rfl;omega),oB]
   exact congrArg some (u0s [45] _)
  ·rw[if_neg (by simpa using hneg),if_neg hneg]
def W0a:Nat->Nat->List Int
 |0,_=>[]
 |f+1,m=>if m=0 then []else((48+m % 10:Nat):Int)::W0a f (m / 10)
theorem W0k:∀(f m:Nat),(W0a f m).length<=f
 |0,m=>by simp[W0a]
 |f+1,m=>by
  simp only[W0a]
  split
  ·simp
  ·have:=W0k f (m / 10)
   simp only[List.length_cons];omega
theorem j0c:∀(f m:Nat) (acc:List UInt8),H08 f m acc=(W0a f m).reverse.map (λx=>UInt8.ofNat x.toNat)++acc
 |0,m,acc=>by simp[H08,W0a]
 |f+1,m,acc=>by
  simp only[H08,W0a]
  split
  ·simp
  ·rw[j0c f (m / 10)]
   simp only[List.reverse_cons,List.map_append,List.map_cons,List.map_nil,Int.toNat_natCast,List.append_assoc,List.singleton_append]
theorem V03(n:Int):∀(f m fuel:Nat) (acc:List Int),m<10 ^ f->f<fuel->m<=9223372036854775808->acc.length+f<=100->(n<0∨m<=9223372036854775807) ->
  U4 fuel (I01 n m) acc=some (acc++W0a f m)
 |f,m,0,acc,a,c,d,g,h=>by omega
 |0,m,fuel+1,acc,a,c,d,g,h=>by
  have:m=0:=by simp at a;exact a
  subst this
  rw[U4.eq_2,show I01 n 0=0 by unfold I01;split<;>simp]
  simp[W0a]
 |f+1,m,fuel+1,acc,a,c,d,g,h=>by
  rw[U4.eq_2]
  by_cases h0:m=0
  ·subst h0
   rw[show I01 n 0=0 by unfold I01;split<;>simp]
   simp[W0a]
  ·have o:I01 n m≠0:=λe=>h0 (U0k.1 e)
   have next:=V03 n f (m / 10) fuel (acc ++ [((48+m % 10:Nat):Int)]) (by rw[Nat.pow_succ]at a;omega) (by omega) (by omega) (by simp only[List.length_append,List.length_singleton];omega) (by omega)
   have l:IntKind.i64.wrap ((I01 n m).tdiv 10)=I01 n (m / 10):=by
    rw[F0n]
    have:=S0s (n:=n) (m:=m / 10) (by omega) (by omega)
    exact w64 this.1 this.2
   rw[if_pos (by simpa using o),l,E0n]
   simp only[show ∀ k:Unit->Option (List Int),(grd (10≠0)).bind k=k () from λk=>rfl]
   have key:∀ X:Int,X=((m % 10:Nat):Int)->((grd ((acc.length + [IntKind.u8.wrap (IntKind.i64.wrap (48+X))].length)*1<=140737488355328)).bind λ_ =>
     U4 fuel (I01 n (m / 10)) (acc ++ [IntKind.u8.wrap (IntKind.i64.wrap (48+X))]))=some (acc++W0a (f+1) m):=λX i=>by
    have j:IntKind.u8.wrap (IntKind.i64.wrap (48+X))=((48+m % 10:Nat):Int):=by
     rw[i]
     simp[IntKind.wrap,IntKind.signed,IntKind.bits]
     omega
    rw[j,F0 (by simp only[List.length_singleton];omega),oB,next]
    simp[W0a,h0]
   by_cases hneg:I01 n (m % 10)<0
   ·rw[if_pos (by simpa using hneg)]
    refine key _ ?_
    unfold I01 at hneg ⊢
    split at hneg
    ·rename_i b
     rw[if_pos b,w64 (by omega) (by omega)];omega
    ·omega
   ·rw[if_neg (by simpa using hneg)]
    refine key _ ?_
    unfold I01 at hneg ⊢
    split at hneg
    ·rename_i b
     rw[if_pos b];omega
    ·rename_i b
     rw[if_neg b]
theorem T0s(xs:List Int)(o:xs.length<=140737488355328):∀(fuel i j:Nat) (a:List Int),i+j+1=xs.length->j+1-i<fuel->a.length=xs.length->(∀ t,t<xs.length->a[t]?=if t<i∨j<t then xs[xs.length-1-t]? else xs[t]?) ->
  Z3 fuel (i:Int) (j:Int) a=some xs.reverse
 |0,i,j,a,m,n,l,d=>by omega
 |fuel+1,i,j,a,m,n,l,d=>by
  rw[Z3.eq_2]
  by_cases hij:i<j
  ·have h:=V5 (show i<a.length by omega)
   have e:=V5 (show j<a.length by omega)
   generalize p:a[i]=xi at h
   generalize q:a[j]=xj at e
   rw[if_pos (by simp;omega),T2 e,oB,T2 h,oB,oB]
   rw[T2 (k:=j) (x:=xj) (by rw[List.getElem?_set];simp;rw[if_neg (by omega)];exact e),oB,G2 hij (by omega),M0j (by omega) (by omega)]
   refine T0s xs o fuel (i+1) (j-1) _ (by omega) (by omega) (by simpa using l) (λt b=>?_)
   have f:=d i (by omega)
   have g:=d j (by omega)
   rw[if_neg (by omega)]at f g
   rw[h]at f
   rw[e]at g
   simp only[Int.toNat_natCast]
   by_cases t1:j=t
   ·subst t1
    rw[List.getElem?_set_self (by simp only[List.length_set];omega),if_pos (Or.inr (by omega)),show xs.length-1-j=i by omega]
    exact f
   ·rw[List.getElem?_set_ne t1]
    by_cases t2:i=t
    ·subst t2
     rw[List.getElem?_set_self (by omega),if_pos (Or.inl (by omega)),show xs.length-1-i=j by omega]
     exact g
    ·rw[List.getElem?_set_ne t2,d t b]
     by_cases c:t<i∨j<t
     ·rw[if_pos c,if_pos (by omega)]
     ·rw[if_neg c,if_neg (by omega)]
  ·rw[if_neg (by simp;omega)]
   refine congrArg some (List.ext_getElem? λt=>?_)
   rcases Nat.lt_or_ge t xs.length with b|b
   ·rw[d t b,List.getElem?_reverse b]
    by_cases c:t<i∨j<t
    ·rw[if_pos c]
    ·rw[if_neg c,show xs.length-1-t=t by omega]
   ·rw[List.getElem?_eq_none (by omega),List.getElem?_eq_none (by simpa using b)]
theorem v0r(xs:List Int)(h0:0<xs.length)(a:xs.length<=1000):Z3 U0 0 (IntKind.i64.wrap (((xs.length:Nat):Int)-1)) xs=some xs.reverse:=by
 rw[M0j h0 (by omega)]
 exact T0s xs (by omega) U0 0 (xs.length-1) xs (by omega) (by unfold U0;omega) rfl (λt b=>by rw[if_neg (by omega)])
theorem w01(n:Int)(a:I0 n):K6 n=some (T0k n):=by
 unfold K6 T0k
 by_cases h0:n=0
 ·rw[if_pos (by simpa using h0),if_pos h0]
 ·rw[if_neg (by simpa using h0),if_neg h0]
  have h:=V03 n 20 n.natAbs U0 [] (by have:=a.1;have:=a.2;omega) (by unfold U0;omega) (by have:=a.1;have:=a.2;omega) (by simp) (by have:=a.2;omega)
  rw[V0k,List.nil_append]at h
  have c:=W0k 20 n.natAbs
  have b:0<(W0a 20 n.natAbs).length:=by simp only[W0a];rw[if_neg (by omega)];simp
  rw[h,oB]
  simp only[oB]
  by_cases hneg:n<0
  ·rw[if_pos (by simpa using hneg),if_pos hneg,F0 (by simp only[List.length_singleton];omega),oB,F0 (by simp only[List.length_append,List.length_singleton];omega),oB,
    v0r _ (by simp) (by simp only[List.length_append,List.length_singleton];omega),oB,F0 (by simp only[List.length_reverse,List.length_append,List.length_singleton];omega),oB,j0c]
   simp[strOfNums]
  ·rw[if_neg (by simpa using hneg),if_neg hneg,F0 (by omega),oB,
    v0r _ b (by omega),oB,F0 (by simp only[List.length_reverse];omega),oB,j0c]
   simp[strOfNums]
end Go.Proofs.YtkjhghloldgioaaGreat
