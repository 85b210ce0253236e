/- Texts of the claim, joined: Plain laws: the core of a folded graph is a core and others. -/
import Derived.Test.YtkjhghloldgioaaGreatPart23
import Derived.Test.YtkjhghloldgioaaGreatPart17
import Derived.Test.YtkjhghloldgioaaGreatH36
import Derived.Test.YtkjhghloldgioaaGreatPart18
namespace Go.Proofs.YtkjhghloldgioaaGreat
open Go.H
set_option linter.unusedVariables false
set_option linter.unusedSimpArgs false
theorem p0b:∀(d:Nat) {g:j0},Z0 g=true->g.2.1.toNat<=d+1->P5 (W00 d g)=none
 |0,g,hg,hn=>by
  cases e:P5 g with
  |none=>exact e
  |some k=>have:=X0d e;omega
 |d+1,g,hg,hn=>by
  unfold W00
  cases e:P5 g with
  |none=>exact e
  |some k =>
   obtain⟨h1,h2,h3,h4⟩:=N03 hg e
   exact p0b d (F02 hg h1 h3 h4) (by show(((wo k g.2.1.toNat 0).length:Nat):Int).toNat<=d+1;omega)
theorem X0i{g:j0}(hf:K0 g=true){v x y z:Int}(hy:y∈R7 v x g.2.2)(hz:z∈R7 v x g.2.2):y=z:=by
 obtain⟨e,he,h1⟩:=C3.1 hy
 obtain⟨e',he',h2⟩:=C3.1 hz
 by_cases hne:e=e'
 ·subst hne
  rcases h1 with⟨a,b,c,rfl⟩|⟨a,b,c,rfl⟩<;>rcases h2 with⟨a',b',c',rfl⟩|⟨a',b',c',rfl⟩<;>first|rfl|omega
 ·have hc:=(E08 (R3 hf)).1 hf e he e' he' hne
  unfold E02 at hc
  simp only[Bool.and_eq_false_iff,Bool.or_eq_false_iff,decide_eq_false_iff_not]at hc
  rcases h1 with⟨a,b,c,d⟩|⟨a,b,c,d⟩<;>rcases h2 with⟨a',b',c',d'⟩|⟨a',b',c',d'⟩<;>first|omega|(exfalso;rcases hc with hc|⟨hc1,hc2⟩<;>omega)
theorem d9(g:j0)(v x:Int):(j1 g v x = -1/\R7 v x g.2.2 = [])∨j1 g v x∈R7 v x g.2.2:=by
 unfold j1
 cases e:w00 g v x with
 |nil =>
  left
  refine⟨rfl,List.eq_nil_iff_forall_not_mem.2 λy hy=>?_⟩
  have:y∈w00 g v x:=(H7 q00 y _ _).2 (.inr hy)
  rw[e]at this;cases this
 |cons a l=>exact .inr (y0c (by rw[e];exact mS))
theorem d02{g:j0}(hf:K0 g=true){v x y:Int}(hy:y∈R7 v x g.2.2):j1 g v x=y:=by
 rcases d9 g v x with⟨_,h⟩|h
 ·rw[h]at hy;cases hy
 ·exact X0i hf h hy
theorem q0b:∀(d i j:Nat),i<=j->j<i+d->(j:Int)∈I5 d i /\ -(j:Int)∈I5 d i
 |0,i,j,h1,h2=>by omega
 |d+1,i,j,h1,h2=>by
  simp only[I5,List.mem_cons]
  by_cases c:j=i
  ·subst c;simp
  ·obtain⟨a,b⟩:=q0b d (i+1) j (by omega) (by omega)
   exact⟨.inr (.inr a),.inr (.inr b)⟩
theorem P0c(g:j0)(v:Int):∀(ls u:List Int) (x:Int),x∈ls->0<=j1 g v x->j1 g v x∈Z8 g v ls u
 |y::r,u,x,hx,h0=>by
  rw[Z8]
  rcases List.mem_cons.1 hx with rfl|hx
  ·obtain⟨t,e⟩:=F00 g v r (o03 u (j1 g v x))
   rw[e]
   refine List.mem_append_left _ ?_
   unfold o03
   split
   ·exact List.mem_append_right _ (List.mem_singleton.2 rfl)
   ·rename_i h
    by_cases hm:j1 g v x∈u
    ·exact hm
    ·exact absurd ⟨h0,hm⟩ h
  ·exact P0c g v r _ x hx h0
theorem r0b(g:j0)(ls:List Int):∀(f i:Nat) (u:List Int),∃ t,S5 g ls f i u=u++t
 |0,i,u=>⟨[],by simp[S5]⟩
 |f+1,i,u=>by
  unfold S5
  split
  ·rename_i v _
   obtain⟨t1,e1⟩:=F00 g v ls u
   obtain⟨t2,e2⟩:=r0b g ls f (i+1) (Z8 g v ls u)
   exact⟨t1++t2,by rw[e2,e1,List.append_assoc]⟩
  ·exact⟨[],by simp⟩
theorem s0b{r:Int}{n:Nat}{es:List I0}(hg:inG (r,(n:Int),es))(ls:List Int):∀(f i:Nat) (u:List Int),gud n u->n+1<=f+i->i<=u.length ->
  (∀ j,j<i->∀ v,u[j]?=some v->∀ x∈ls,0<=j1 (r,(n:Int),es) v x->j1 (r,(n:Int),es) v x∈u) ->
  ∀ v∈S5 (r,(n:Int),es) ls f i u,∀ x∈ls,0<=j1 (r,(n:Int),es) v x->j1 (r,(n:Int),es) v x∈S5 (r,(n:Int),es) ls f i u
 |0,i,u,hu,hn,hi,hc=>by have:=O8 n u hu.1 hu.2;omega
 |f+1,i,u,hu,hn,hi,hc=>by
  unfold S5
  cases e:u[i]? with
  |none =>
   have:i=u.length:=by have:=List.getElem?_eq_none_iff.1 e;omega
   show ∀ v∈u,∀ x∈ls,0<=j1 (r,(n:Int),es) v x->j1 (r,(n:Int),es) v x∈u
   intro v hv x hx h0
   obtain⟨j,hj⟩:=List.getElem?_of_mem hv
   exact hc j (by have:=(List.getElem?_eq_some_iff.1 hj).1;omega) v hj x hx h0
  |some w =>
   have hil:=(List.getElem?_eq_some_iff.1 e).1
   obtain⟨t,et⟩:=F00 (r,(n:Int),es) w ls u
   refine s0b hg ls f (i+1) _ (v01 hg w ls u hu) (by omega) (by rw[et,List.length_append];omega) λj hj v hv x hx h0=>?_
   by_cases c:j=i
   ·subst c
    rw[et,List.getElem?_append_left hil,e]at hv
    cases hv
    exact P0c _ _ ls u x hx h0
   ·rw[et,List.getElem?_append_left (by omega)]at hv
    rw[et]
    exact List.mem_append_left _ (hc j (by omega) v hv x hx h0)
theorem G06(g:j0):∃ t,Q2 g=0::t:=by
 obtain⟨t,e⟩:=r0b g (I5 g.1.toNat 1) (g.2.1.toNat+1) 0 [0]
 exact⟨t,e⟩
theorem F0f{g:j0}(hf:K0 g=true){x:Int}(h:Rch g.2.2 0 x):x∈Q2 g:=by
 obtain⟨q1,q2,q3,q4⟩:=V1 hf
 have hz:=G06 g
 have hclo:∀ v∈Q2 g,∀ x∈I5 g.1.toNat 1,0<=j1 g v x->j1 g v x∈Q2 g:=by
  obtain⟨r,n,es⟩:=g
  simp only at q2 q3
  obtain⟨N,rfl⟩:∃ N:Nat,n=(N:Int):=⟨n.toNat,by omega⟩
  exact s0b q1 _ (((N:Int)).toNat+1) 0 [0] ⟨by simp,λx hx=>by simp at hx;subst hx;omega⟩ (by simp only[Int.toNat_natCast];omega) (Nat.zero_le _) (λj hj=>by omega)
 refine Rch.sub (P:=λx=>x∈Q2 g) ?_ (λe he=>?_) h
 ·obtain⟨t,e⟩:=hz
  rw[e];exact mS
 ·have hq:=q1 e he
  obtain⟨j,hj⟩:∃ j:Nat,e.2.1=(j:Int):=⟨e.2.1.toNat,by omega⟩
  obtain⟨l1,l2⟩:=q0b g.1.toNat 1 j (by omega) (by omega)
  have n1:j1 g e.1 (j:Int)=e.2.2:=d02 hf (C3.2 ⟨e,he,.inl ⟨by omega,hj,rfl,rfl⟩⟩)
  have n2:j1 g e.2.2 (-(j:Int))=e.1:=d02 hf (C3.2 ⟨e,he,.inr ⟨by omega,by omega,rfl,rfl⟩⟩)
  constructor
  ·intro h1
   have:=hclo e.1 h1 (j:Int) l1 (by rw[n1];omega)
   rwa [n1]at this
  ·intro h1
   have:=hclo e.2.2 h1 (-(j:Int)) l2 (by rw[n2];omega)
   rwa [n2]at this
theorem H07{bad:Nat->Bool}:∀ {d v:Nat},lf bad d v=none->∀ k,v<=k->k<v+d->bad k=false
 |0,v,h,k,h1,h2=>by omega
 |d+1,v,h,k,h1,h2=>by
  unfold lf at h
  cases hb:bad v with
  |true=>rw[hb]at h;cases h
  |false =>
   rw[hb]at h
   by_cases c:k=v
   ·rw[c];exact hb
   ·exact H07 (d:=d) (v:=v+1) h k (by omega) (by omega)
theorem H06{bad:Nat->Bool}:∀ {d v:Nat},(∀ k,v<=k->k<v+d->bad k=false)->lf bad d v=none
 |0,v,h=>rfl
 |d+1,v,h=>by
  unfold lf
  rw[h v (Nat.le_refl _) (by omega)]
  exact H06 λk h1 h2=>h k (by omega) (by omega)
theorem F08{g:j0}(hf:K0 g=true)(hl:P5 g=none){x:Int}(h0:0<=x)(h1:x<g.2.1):x∈Q2 g:=by
 refine F0f hf ?_
 by_cases c:x=0
 ·subst c;exact .base
 ·have:=H07 hl x.toNat (by omega) (by omega)
  unfold R05 at this
  simp only[Bool.or_eq_false_iff,Bool.not_eq_false',decide_eq_true_eq]at this
  have h3:=this.2
  rw[show((x.toNat:Nat):Int)=x by omega]at h3
  exact(p04 _ _ _).1 h3
theorem Q0c{n:Nat}:∀(o:List Int) (k:Nat) (A:List Int),A.length=n->inV n o->o.Nodup->∀(i:Nat) (v:Int),o[i]?=some v->getI (c9 A k o) v=((k+i:Nat):Int)
 | [],k,A,hA,ho,hd,i,v,hi=>by simp at hi
 |w::r,k,A,hA,ho,hd,i,v,hi=>by
  have hw:=ho w mS
  obtain⟨hd1,hd2⟩:=List.nodup_cons.1 hd
  cases i with
  |zero =>
   simp at hi;subst hi
   rw[c9,c0b r _ _ w (by simp[hA]) (λu hu=>ho u (mC _ hu)) hw.1 hd1,K01 hw.1 (by omega) hw.1,if_pos rfl];rfl
  |succ i =>
   rw[c9,Q0c r (k+1) _ (by simp[hA]) (λu hu=>ho u (mC _ hu)) hd2 i v (by simpa using hi)]
   omega
theorem t0b{n:Nat}{o:List Int}(ho:inV n o)(hd:o.Nodup){i:Nat}{v:Int}(hi:o[i]?=some v):getI (plc n o) v=(i:Int):=by
 have:=Q0c o 0 (List.replicate n (-1)) (by simp) ho hd i v hi
 rw[Nat.zero_add]at this;exact this
theorem G08(P:List Int):∀(es:List I0),(∀ e∈es,0<=getI P e.1/\0<=getI P e.2.2)->pE P es=es.map λe=>(getI P e.1,e.2.1,getI P e.2.2)
 | [],h=>rfl
 |e::r,h=>by
  have h1:=h e mS
  unfold pE
  rw[show(decide (0<=getI P e.1)&&decide (0<=getI P e.2.2))=true by simp[h1.1,h1.2],G08 P r λe' he'=>h e' (mC _ he')]
  rfl
theorem R0c(e:I0):∀ {l:List I0},e ∉ l->(e00 S0 e l).Perm (e::l)
 | [],_=>List.Perm.refl _
 |y::l,h=>by
  have ih:=R0c e (l:=l) λhm=>h (mC _ hm)
  unfold e00
  split
  ·exact List.Perm.refl _
  ·split
   ·rename_i c
    exact absurd (O5.eq _ _ c) λhh=>h (by rw[hh];exact mS)
   ·exact(List.Perm.cons y ih).trans (List.Perm.swap e y l)
theorem r09:∀(r acc:List I0),(acc++r).Nodup->(O7 S0 acc r).Perm (acc++r)
 | [],acc,h=>by simp[O7]
 |x::r,acc,h=>by
  have hm:(acc++x::r).Perm (x::(acc++r)):=List.perm_middle
  have hn:=hm.nodup_iff.1 h
  have hx:x ∉ acc:=λh1=>(List.nodup_cons.1 hn).1 (List.mem_append_left _ h1)
  have hp:=R0c x hx
  have hp2:(e00 S0 x acc++r).Perm (x::(acc++r)):=hp.append_right r
  rw[O7]
  exact((r09 r _ (hp2.nodup_iff.2 hn)).trans hp2).trans hm.symm
theorem S0c(v:Int){l l':List I0}(h:l.Perm l'):S7 v l=S7 v l':=by
 induction h with
 |nil=>rfl
 |cons x _ ih=>simp only[S7,ih]
 |swap x y l=>simp only[S7];omega
 |trans _ _ h1 h2=>rw[h1,h2]
theorem u0b{φ:Int->Int}{v:Int}:∀(es:List I0),(∀ e∈es,(φ e.1=φ v↔e.1=v)/\(φ e.2.2=φ v↔e.2.2=v))->S7 (φ v) (es.map λe=>(φ e.1,e.2.1,φ e.2.2))=S7 v es
 | [],h=>rfl
 |e::r,h=>by
  obtain⟨h1,h2⟩:=h e mS
  have ih:=u0b r λe' he'=>h e' (mC _ he')
  simp only[List.map_cons,S7,ih,P0b]
  congr 2
  ·by_cases c:e.1=v
   ·rw[if_pos (h1.2 c),if_pos c]
   ·rw[if_neg λq=>c (h1.1 q),if_neg c]
  ·by_cases c:e.2.2=v
   ·rw[if_pos (h2.2 c),if_pos c]
   ·rw[if_neg λq=>c (h2.1 q),if_neg c]
theorem P0g:∀(m:Nat) (o:List Int),(∀ i:Nat,i<m->(i:Int)∈o)->m<=o.length
 |0,o,h=>Nat.zero_le _
 |m+1,o,h=>by
  have hm:=h m (by omega)
  have h1:=P0g m (o.erase (m:Int)) λi hi=>(List.mem_erase_of_ne (by omega)).2 (h i (by omega))
  rw[List.length_erase_of_mem hm]at h1
  have:=List.length_pos_of_mem hm
  omega
theorem H08{es:List I0}(hA:Asc S0 es):es.Nodup:=by
 refine List.Pairwise.imp (λ{a b} h e=>?_) hA
 rw[e,O5.refl]at h;omega
theorem G0f{es:List I0}(hA:Asc S0 es):O7 S0 [] es=es :=
 A06 O5 (t01 O5 _ _ .nil) hA λx=>by rw[H7 O5];simp
theorem Q0g{t:j0}(hf:K0 t=true)(hl:P5 t=none):P1 (M2 t)=true:=by
 have hg:=R3 hf
 obtain⟨q1,q2,q3,q4⟩:=V1 hf
 have hA:=M05 hg
 obtain⟨⟨hd,ho⟩,ho1⟩:=G00 hf
 have hlen:=O8 _ _ hd ho
 have hall:∀ x:Int,0<=x->x<t.2.1->x∈Q2 t:=λx h0 h1=>F08 hf hl h0 h1
 obtain⟨tl,hz⟩:=G06 t
 obtain⟨n,hn⟩:∃ n:Nat,t.2.1=(n:Int):=⟨t.2.1.toNat,by omega⟩
 have hnt:t.2.1.toNat=n:=by omega
 rw[hnt]at ho hlen
 have hol:(Q2 t).length=n:=by
  have:=P0g n (Q2 t) λi hi=>hall _ (by omega) (by omega)
  omega
 let P:Int->Int:=getI (plc n (Q2 t))
 have hP:∀(i:Nat) (v:Int),(Q2 t)[i]?=some v->P v=(i:Int):=λi v hi=>t0b ho hd hi
 have hPr:∀ x:Int,0<=x->x<t.2.1->0<=P x/\P x<(n:Int):=λx h0 h1=>by
  obtain⟨i,hi⟩:=List.getElem?_of_mem (hall x h0 h1)
  have:=(List.getElem?_eq_some_iff.1 hi).1
  rw[hP i x hi];omega
 have hPi:∀ x y:Int,0<=x->x<t.2.1->0<=y->y<t.2.1->P x=P y->x=y:=λx y h0 h1 h2 h3 h=>U09 ho hd h0 h2 (hPr x h0 h1).1 h
 have hP0:P 0=0:=hP 0 0 (by rw[hz];rfl)
 have hpE:pE (plc n (Q2 t)) t.2.2=t.2.2.map λe=>(P e.1,e.2.1,P e.2.2):=G08 _ _ λe he=>by
  have:=q1 e he
  exact⟨(hPr e.1 this.1.1 this.1.2).1,(hPr e.2.2 this.2.1.1 this.2.1.2).1⟩
 have hC:M2 t=(t.1,(n:Int),O7 S0 [] (t.2.2.map λe=>(P e.1,e.2.1,P e.2.2))):=by
  unfold M2 T4
  rw[hnt,hpE,hol]
 have hinjE:∀ e∈t.2.2,∀ e'∈t.2.2,((P e.1,e.2.1,P e.2.2):I0)=(P e'.1,e'.2.1,P e'.2.2)->e=e':=λe he e' he' h=>by
  have a:=q1 e he
  have b:=q1 e' he'
  simp only[Prod.mk.injEq]at h
  have h1:=hPi _ _ a.1.1 a.1.2 b.1.1 b.1.2 h.1
  have h2:=hPi _ _ a.2.1.1 a.2.1.2 b.2.1.1 b.2.1.2 h.2.2
  obtain⟨e0,e1,e2⟩:=e
  obtain⟨f0,f1,f2⟩:=e'
  simp only at h1 h2 h
  rw[h1,h2,h.2.1]
 have hmap:(t.2.2.map λe=>((P e.1,e.2.1,P e.2.2):I0)).Nodup:=by
  have:=H08 hA
  rw[List.Nodup,List.pairwise_map]
  exact List.Pairwise.imp_of_mem (λ{a b} ha hb h e=>h (hinjE a ha b hb e)) this
 have hmem:∀ e',e'∈(M2 t).2.2↔∃ e∈t.2.2,e'=(P e.1,e.2.1,P e.2.2):=λe'=>by
  rw[hC]
  simp only
  rw[H7 O5]
  simp only[List.not_mem_nil,false_or,List.mem_map]
  exact⟨λ⟨e,h1,h2⟩=>⟨e,h1,h2.symm⟩,λ⟨e,h1,h2⟩=>⟨e,h1,h2.symm⟩⟩
 have hcf:K0 (M2 t)=true:=f03 hf (by rw[hnt];exact ho) hd ho1 (by omega)
 have hcg:=R3 hcf
 have hn1:(M2 t).2.1=(n:Int):=by rw[hC]
 have hdeg:∀ v:Int,0<=v->v<t.2.1->S7 (P v) (M2 t).2.2=S7 v t.2.2:=λv h0 h1=>by
  rw[hC]
  simp only
  rw[S0c _ (r09 _ [] (by simpa using hmap)),List.nil_append]
  refine u0b _ λe he=>?_
  have:=q1 e he
  exact⟨⟨λh=>hPi _ _ this.1.1 this.1.2 h0 h1 h,λh=>by rw[h]⟩,⟨λh=>hPi _ _ this.2.1.1 this.2.1.2 h0 h1 h,λh=>by rw[h]⟩⟩
 have hrch:∀ x,Rch t.2.2 0 x->Rch (M2 t).2.2 0 (P x):=λx hx =>
  Rch.sub (P:=λx=>Rch (M2 t).2.2 0 (P x)) (by show Rch _ 0 (P 0);rw[hP0];exact .base) (λe he=>Rch.closed (P e.1,e.2.1,P e.2.2) ((hmem _).2 ⟨e,he,rfl⟩)) hx
 have hleaf:P5 (M2 t)=none:=by
  unfold P5
  refine H06 λk k1 k2=>?_
  rw[hn1,Int.toNat_natCast]at k2
  obtain⟨v,hv⟩:∃ v,(Q2 t)[k]?=some v:=⟨_,List.getElem?_eq_getElem (by omega)⟩
  have hvr:=ho v (List.mem_of_getElem? hv)
  have hPv:=hP k v hv
  have hv0:v≠0:=λh=>by rw[h,hP0]at hPv;omega
  have hb:=H07 hl v.toNat (by omega) (by omega)
  unfold R05 at hb ⊢
  rw[show((v.toNat:Nat):Int)=v by omega]at hb
  simp only[Bool.or_eq_false_iff,Bool.not_eq_false',decide_eq_true_eq,decide_eq_false_iff_not]at hb ⊢
  refine⟨?_,?_⟩
  ·rw[←hPv,hdeg v hvr.1 (by omega)];exact hb.1
  ·rw[←hPv]
   exact(p04 _ _ _).2 (hrch v ((p04 _ _ _).1 hb.2))
 have hnext:∀ v x:Int,0<=v->v<t.2.1->(j1 t v x = -1/\j1 (M2 t) (P v) x = -1)∨((0<=j1 t v x/\j1 t v x<t.2.1)/\j1 (M2 t) (P v) x=P (j1 t v x)):=λv x h0 h1=>by
  rcases d9 t v x with⟨e1,e2⟩|e1
  ·left
   refine⟨e1,?_⟩
   rcases d9 (M2 t) (P v) x with⟨c1,c2⟩|c1
   ·exact c1
   ·exfalso
    obtain⟨e',he',hh⟩:=C3.1 c1
    obtain⟨e,he,rfl⟩:=(hmem e').1 he'
    have hq:=q1 e he
    have:∃ y,y∈R7 v x t.2.2:=by
     rcases hh with⟨a,b,c,_⟩|⟨a,b,c,_⟩
     ·exact⟨_,C3.2 ⟨e,he,.inl ⟨a,b,hPi _ _ hq.1.1 hq.1.2 h0 h1 c,rfl⟩⟩⟩
     ·exact⟨_,C3.2 ⟨e,he,.inr ⟨a,b,hPi _ _ hq.2.1.1 hq.2.1.2 h0 h1 c,rfl⟩⟩⟩
    obtain⟨y,hy⟩:=this
    rw[e2]at hy;cases hy
  ·right
   generalize j1 t v x=y at e1
   obtain⟨e,he,hh⟩:=C3.1 e1
   have hq:=q1 e he
   rcases hh with⟨a,b,c,rfl⟩|⟨a,b,c,rfl⟩
   ·exact⟨hq.2.1,d02 hcf (C3.2 ⟨_,(hmem _).2 ⟨e,he,rfl⟩,.inl ⟨a,b,by show P e.1=P v;rw[c],rfl⟩⟩)⟩
   ·exact⟨hq.1,d02 hcf (C3.2 ⟨_,(hmem _).2 ⟨e,he,rfl⟩,.inr ⟨a,b,by show P e.2.2=P v;rw[c],rfl⟩⟩)⟩
 have inR':∀ u:List Int,gud n u->∀ x∈u,0<=x/\x<t.2.1:=λu hu x hx=>by have:=hu.2 x hx;omega
 have hgt:inG (t.1,(n:Int),t.2.2):=by
  have:=q1
  intro e he
  have:=q1 e he
  rw[hn]at this;exact this
 have het:(t.1,(n:Int),t.2.2)=t:=by
  rw[←hn]
 have hS:∀(u:List Int) (y z:Int),gud n u->(y = -1/\z = -1)∨((0<=y/\y<t.2.1)/\z=P y)->o03 (u.map P) z=(o03 u y).map P:=λu y z hu h=>by
  unfold o03
  rcases h with⟨rfl,rfl⟩|⟨⟨h0,h1⟩,rfl⟩
  ·rw[if_neg (by omega),if_neg (by omega)]
  ·have hm:P y∈u.map P↔y∈u:=by
    constructor
    ·intro h
     obtain⟨x,hx,e⟩:=List.mem_map.1 h
     have:=inR' u hu x hx
     rw[←hPi x y this.1 this.2 h0 h1 e];exact hx
    ·exact λh=>List.mem_map.2 ⟨y,h,rfl⟩
   by_cases c:y∈u
   ·rw[if_neg λq=>q.2 (hm.2 c),if_neg λq=>q.2 c]
   ·rw[if_pos ⟨(hPr y h0 h1).1,λq=>c (hm.1 q)⟩,if_pos ⟨h0,c⟩];simp
 have hIn:∀(v:Int),0<=v->v<t.2.1->∀(ls u:List Int),gud n u->Z8 (M2 t) (P v) ls (u.map P)=(Z8 t v ls u).map P:=λv h0 h1 ls=>by
  induction ls with
  |nil=>intro u hu;rfl
  |cons x l ih =>
   intro u hu
   have hx:j1 t v x = -1∨(0<=j1 t v x/\j1 t v x<(n:Int)):=by
    rcases hnext v x h0 h1 with⟨a,_⟩|⟨a,_⟩
    ·exact .inl a
    ·exact .inr (by omega)
   rw[Z8,Z8,hS u _ _ hu (hnext v x h0 h1),ih _ (m0f hu hx)]
 have hOut:∀(f i:Nat) (u:List Int) (ls:List Int),gud n u->S5 (M2 t) ls f i (u.map P)=(S5 t ls f i u).map P:=λf=>by
  induction f with
  |zero=>intro i u ls hu;rfl
  |succ f ih =>
   intro i u ls hu
   unfold S5
   rw[List.getElem?_map]
   cases e:u[i]? with
   |none=>rfl
   |some v =>
    have hv:=inR' u hu v (List.mem_of_getElem? e)
    have hgi:gud n (Z8 t v ls u):=by
     have:=v01 hgt v ls u hu
     rw[het]at this;exact this
    simp only[Option.map_some]
    rw[hIn v hv.1 hv.2 ls u hu]
    exact ih (i+1) _ ls hgi
 have hord:Q2 (M2 t)=(Q2 t).map P:=by
  have h1:(M2 t).1=t.1:=by rw[hC]
  have h2:=hOut (n+1) 0 [0] (I5 t.1.toNat 1) ⟨by simp,λx hx=>by simp at hx;subst hx;omega⟩
  rw[List.map_cons,List.map_nil,hP0]at h2
  show S5 (M2 t) (I5 (M2 t).1.toNat 1) ((M2 t).2.1.toNat+1) 0 [0]=(S5 t (I5 t.1.toNat 1) (t.2.1.toNat+1) 0 [0]).map P
  rw[h1,hn1,hnt,Int.toNat_natCast]
  exact h2
 have hiota:∀ i:Nat,i<n->(Q2 (M2 t))[i]?=some (i:Int):=λi hi=>by
  rw[hord,List.getElem?_map]
  obtain⟨v,hv⟩:∃ v,(Q2 t)[i]?=some v:=⟨_,List.getElem?_eq_getElem (by omega)⟩
  rw[hv,Option.map_some,hP i v hv]
 obtain⟨⟨hd2,ho2⟩,_⟩:=G00 hcf
 rw[hn1,Int.toNat_natCast]at ho2
 have hid:∀ x:Int,0<=x->x<(n:Int)->getI (plc n (Q2 (M2 t))) x=x:=λx h0 h1=>by
  have:=t0b ho2 hd2 (hiota x.toNat (by omega))
  rw[show((x.toNat:Nat):Int)=x by omega]at this;exact this
 have hlen2:(Q2 (M2 t)).length=n:=by rw[hord,List.length_map,hol]
 have hcin:=(T3 hcg).1
 have hcan:M2 (M2 t)=M2 t:=by
  have hpe:pE (plc n (Q2 (M2 t))) (M2 t).2.2=(M2 t).2.2:=by
   rw[G08 _ _ λe he=>by
    have:=hcin e he
    rw[hn1]at this
    exact⟨by rw[hid _ this.1.1 this.1.2];exact this.1.1,by rw[hid _ this.2.1.1 this.2.1.2];exact this.2.1.1⟩]
   refine(List.map_congr_left λe he=>?_).trans (List.map_id _)
   have:=hcin e he
   rw[hn1]at this
   rw[hid _ this.1.1 this.1.2,hid _ this.2.1.1 this.2.1.2];rfl
  show T4 (M2 t) (Q2 (M2 t))=M2 t
  unfold T4
  rw[hn1,Int.toNat_natCast,hpe,G0f (M05 hcg),hlen2]
  rw[←hn1]
 unfold P1
 rw[hcf,hleaf,hcan]
 simp[l05]
theorem Y0i{g:j0}(hf:K0 g=true):P1 (u05 g)=true:=by
 have hg:=R3 hf
 have:=(T3 hg).2.2.1
 exact Q0g (X00 40 hf) (p0b 40 hg (by omega))
theorem d8{g:j0}(h:P1 g=true):K0 g=true:=by
 unfold P1 at h
 simp only[Bool.and_eq_true]at h
 exact h.1
def J00(g:j0)(v:Int):List Int:=v::wo v.toNat g.2.1.toNat 0
def D6(g:j0)(v:Int):j0:=u05 (T4 g (J00 g v))
theorem B0k(g:Nat):∀(d k:Nat),(g:Int) ∉ wo g d k
 |0,k,h=>nomatch h
 |d+1,k,h=>by
  unfold wo at h
  split at h
  ·exact B0k g d (k+1) h
  ·rcases List.mem_cons.1 h with h|h
   ·omega
   ·exact B0k g d (k+1) h
theorem R0g(g:Nat):∀(d k j:Nat),k<=j->j<k+d->j≠g->(j:Int)∈wo g d k
 |0,k,j,h1,h2,h3=>by omega
 |d+1,k,j,h1,h2,h3=>by
  unfold wo
  split
  ·exact R0g g d (k+1) j (by omega) (by omega) h3
  ·by_cases c:j=k
   ·rw[c];exact mS
   ·exact mC _ (R0g g d (k+1) j (by omega) (by omega) h3)
theorem I07{g:j0}(hf:K0 g=true){v:Int}(hv:0<=v/\v<g.2.1):inV g.2.1.toNat (J00 g v)/\(J00 g v).Nodup/\(J00 g v).length=g.2.1.toNat:=by
 obtain⟨q1,q2,q3,q4⟩:=V1 hf
 refine⟨λx hx=>?_,?_,?_⟩
 ·rcases List.mem_cons.1 hx with rfl|hx
  ·omega
  ·exact p0f _ _ _ _ (by omega) x hx
 ·refine List.nodup_cons.2 ⟨λh=>?_,t05 _ _ _⟩
  have:=B0k v.toNat g.2.1.toNat 0
  rw[show((v.toNat:Nat):Int)=v by omega]at this
  exact this h
 ·unfold J00
  rw[List.length_cons,h0b,if_pos (by omega)]
  omega
theorem I08{g:j0}(hf:K0 g=true){v:Int}(hv:0<=v/\v<g.2.1):K0 (T4 g (J00 g v))=true:=by
 obtain⟨q1,q2,q3,q4⟩:=V1 hf
 obtain⟨h1,h2,h3⟩:=I07 hf hv
 exact f03 hf h1 h2 (by omega) (by omega)
theorem i02{g:j0}(hf:K0 g=true){v:Int}(hv:0<=v/\v<g.2.1):P1 (D6 g v)=true:=Y0i (I08 hf hv)
theorem C0k(n:Nat)(v:Int)(h0:0<=v)(hn:n<=1000):∀(d k fuel:Nat) (acc:List Int),k+d=n->d<fuel->acc.length<=k+1 ->
  j4 (n:Int) v fuel (k:Int) acc=some (acc++wo v.toNat d k)
 |d,k,0,acc,hd,hf,ha=>by omega
 |0,k,fuel+1,acc,hd,hf,ha=>by
  rw[j4.eq_2,if_neg (by simp only[decide_eq_true_eq];omega)];simp[wo]
 |d+1,k,fuel+1,acc,hd,hf,ha=>by
  have ih:=λacc' h=>C0k n v h0 hn d (k+1) fuel acc' (by omega) (by omega) h
  rw[j4.eq_2,if_pos (by simp only[decide_eq_true_eq];omega),J2 (show k<10000 by omega) (by omega)]
  unfold wo
  by_cases c:k=v.toNat
  ·have e:decide ((k:Int)=v)=true:=decide_eq_true (by omega)
   rw[e,if_neg (by simp),if_pos c,ih _ (by omega)]
  ·have e:decide ((k:Int)=v)=false:=decide_eq_false (by omega)
   rw[e,if_pos (show(!false)=true from rfl),if_neg c,H0 (by simp;omega),oB,ih _ (by simp;omega)]
   simp
theorem i0m(n:Nat)(v:Int):∀(fuel:Nat) (k:Int) (acc:List Int),H5 (n:Int) v fuel k acc=j4 (n:Int) v fuel k acc
 |0,k,acc=>rfl
 |fuel+1,k,acc=>by
  rw[H5.eq_2,j4.eq_2]
  simp only[i0m n v fuel]
theorem v0b{g:j0}(hf:K0 g=true){v:Int}(hv:0<=v/\v<g.2.1):D8 g v=some (D6 g v,true):=by
 obtain⟨q1,q2,q3,q4⟩:=V1 hf
 obtain⟨h1,h2,h3⟩:=I07 hf hv
 have hfd:=U00 g (by omega)
 rw[hf]at hfd
 have hL:=C0k g.2.1.toNat v hv.1 (by omega) g.2.1.toNat 0 T0 [v] (by omega) (D1 (by omega)) (by simp)
 have hc:=N0g (I08 hf hv)
 have hr:=F06 g.1 g.2.1.toNat g.2.2 (J00 g v) (by rw[show((g.2.1.toNat:Nat):Int)=g.2.1 by omega];exact R3 hf) h1 h2 (by omega) (by omega)
 rw[show((0:Nat):Int)=0 from rfl]at hL
 rw[show((g.2.1.toNat:Nat):Int)=g.2.1 by omega]at hL hr
 rw[show [v]++wo v.toNat g.2.1.toNat 0=J00 g v from rfl]at hL
 rw[show(g.1,g.2.1,g.2.2)=g from rfl]at hr
 unfold D6
 generalize J00 g v=o at *
 generalize hpt:T4 g o=q at *
 obtain⟨a,b,c⟩:=g
 obtain⟨qa,qb,qc⟩:=q
 simp only at hL hv q3 ⊢
 unfold D8
 simp only[hfd,oB,Bool.not_true,Bool.not_false,O1,m03,cond_false]
 rw[w64 (by omega) (by omega),show inR 0 (b-1) v=true by simp[inR];omega]
 simp only[Bool.not_true,Bool.false_eq_true,if_false,hL,oB,hr,hc]
theorem w0b{g:j0}(hf:K0 g=true){v:Int}(hv:0<=v/\v<g.2.1):E8 g v=some (D6 g v,true):=by
 obtain⟨q1,q2,q3,q4⟩:=V1 hf
 obtain⟨h1,h2,h3⟩:=I07 hf hv
 have hfd:=R9 g (by omega)
 rw[hf]at hfd
 have hh:=f0n (R3 hf) hv
 have hL:=C0k g.2.1.toNat v hv.1 (by omega) g.2.1.toNat 0 T0 [v] (by omega) (D1 (by omega)) (by simp)
 rw[←i0m]at hL
 have hc:=O0g (I08 hf hv)
 have hr:=Q0d g.1 g.2.1.toNat g.2.2 (J00 g v) (λe he=>by have:=q1 e he;omega) h1 (by omega) (by omega) (by omega)
 rw[show((0:Nat):Int)=0 from rfl]at hL
 rw[show((g.2.1.toNat:Nat):Int)=g.2.1 by omega]at hL hr
 rw[show [v]++wo v.toNat g.2.1.toNat 0=J00 g v from rfl]at hL
 rw[show(g.1,g.2.1,g.2.2)=g from rfl]at hr
 unfold D6
 generalize J00 g v=o at *
 generalize hpt:T4 g o=q at *
 obtain⟨a,b,c⟩:=g
 obtain⟨qa,qb,qc⟩:=q
 simp only at hL hv q3 ⊢
 unfold E8
 simp only[hfd,oB,Bool.not_true,Bool.not_false,O1,hh,cond_false]
 simp only[Bool.false_eq_true,if_false,hL,oB,hr,hc]
theorem o8{g:j0}(h:P1 g=true):g.2.2.length<=120/\(1<=g.2.1/\g.2.1<=40)/\(1<=g.1/\g.1<=3):=by
 obtain⟨q1,q2,q3,q4⟩:=V1 (d8 h)
 exact⟨q4,q3,q2⟩
structure Iso (t c:j0) (P:Int->Int) (n:Nat):Prop where
 rank:c.1=t.1
 nt:t.2.1=(n:Int)
 nc:c.2.1=(n:Int)
 ft:K0 t=true
 fc:K0 c=true
 rng:∀ x:Int,0<=x->x<(n:Int)->0<=P x/\P x<(n:Int)
 inj:∀ x y:Int,0<=x->x<(n:Int)->0<=y->y<(n:Int)->P x=P y->x=y
 mem:∀ e',e'∈c.2.2↔∃ e∈t.2.2,e'=(P e.1,e.2.1,P e.2.2)
theorem Iso.inE{t c:j0}{P:Int->Int}{n:Nat}(s:Iso t c P n){e:I0}(he:e∈t.2.2):(0<=e.1/\e.1<(n:Int))/\(0<=e.2.2/\e.2.2<(n:Int)):=by
 have:=(V1 s.ft).1 e he
 rw[s.nt]at this
 exact⟨this.1,this.2.1⟩
theorem Iso.comp{a b c:j0}{P Q:Int->Int}{n:Nat}(s:Iso a b P n)(u:Iso b c Q n):Iso a c (λx=>Q (P x)) n where
 rank:=by rw[u.rank,s.rank]
 nt:=s.nt
 nc:=u.nc
 ft:=s.ft
 fc:=u.fc
 rng:=λx h0 h1=>u.rng _ (s.rng x h0 h1).1 (s.rng x h0 h1).2
 inj:=λx y h0 h1 h2 h3 h=>s.inj x y h0 h1 h2 h3 (u.inj _ _ (s.rng x h0 h1).1 (s.rng x h0 h1).2 (s.rng y h2 h3).1 (s.rng y h2 h3).2 h)
 mem:=λe'=>by
  rw[u.mem]
  constructor
  ·rintro⟨e,he,rfl⟩
   obtain⟨f,hf,rfl⟩:=(s.mem e).1 he
   exact⟨f,hf,rfl⟩
  ·rintro⟨f,hf,rfl⟩
   exact⟨_,(s.mem _).2 ⟨f,hf,rfl⟩,rfl⟩
theorem H0f{t:j0}(hf:K0 t=true){o:List Int}(hd:o.Nodup)(ho:inV t.2.1.toNat o)(hall:∀ x:Int,0<=x->x<t.2.1->x∈o):
  Iso t (T4 t o) (getI (plc t.2.1.toNat o)) t.2.1.toNat/\(∀(i:Nat) (v:Int),o[i]?=some v->getI (plc t.2.1.toNat o) v=(i:Int)):=by
 have hg:=R3 hf
 obtain⟨q1,q2,q3,q4⟩:=V1 hf
 have hlen:=O8 _ _ hd ho
 obtain⟨n,hn⟩:∃ n:Nat,t.2.1=(n:Int):=⟨t.2.1.toNat,by omega⟩
 have hnt:t.2.1.toNat=n:=by omega
 rw[hnt]at ho hlen ⊢
 have hol:o.length=n:=by
  have:=P0g n o λi hi=>hall _ (by omega) (by omega)
  omega
 have hP:∀(i:Nat) (v:Int),o[i]?=some v->getI (plc n o) v=(i:Int):=λi v hi=>t0b ho hd hi
 have hPr:∀ x:Int,0<=x->x<(n:Int)->0<=getI (plc n o) x/\getI (plc n o) x<(n:Int):=λx h0 h1=>by
  obtain⟨i,hi⟩:=List.getElem?_of_mem (hall x h0 (by omega))
  have:=(List.getElem?_eq_some_iff.1 hi).1
  rw[hP i x hi];omega
 have hpE:pE (plc n o) t.2.2=t.2.2.map λe=>(getI (plc n o) e.1,e.2.1,getI (plc n o) e.2.2):=G08 _ _ λe he=>by
  have:=q1 e he
  exact⟨(hPr e.1 this.1.1 (by omega)).1,(hPr e.2.2 this.2.1.1 (by omega)).1⟩
 refine⟨⟨rfl,hn,by show((o.length:Nat):Int)=_;rw[hol],hf,f03 hf (by rw[hnt];exact ho) hd (by omega) (by omega),hPr,λx y h0 h1 h2 h3 h=>U09 ho hd h0 h2 (hPr x h0 h1).1 h,λe'=>?_⟩,hP⟩
 show e'∈O7 S0 [] (pE (plc t.2.1.toNat o) t.2.2)↔_
 rw[hnt,hpE,H7 O5]
 simp only[List.not_mem_nil,false_or,List.mem_map]
 exact⟨λ⟨e,h1,h2⟩=>⟨e,h1,h2.symm⟩,λ⟨e,h1,h2⟩=>⟨e,h1,h2.symm⟩⟩
theorem Iso.next{t c:j0}{P:Int->Int}{n:Nat}(s:Iso t c P n)(v x:Int)(h0:0<=v)(h1:v<(n:Int)):
  (j1 t v x = -1/\j1 c (P v) x = -1)∨((0<=j1 t v x/\j1 t v x<(n:Int))/\j1 c (P v) x=P (j1 t v x)):=by
 rcases d9 t v x with⟨e1,e2⟩|e1
 ·left
  refine⟨e1,?_⟩
  rcases d9 c (P v) x with⟨c1,c2⟩|c1
  ·exact c1
  ·exfalso
   obtain⟨e',he',hh⟩:=C3.1 c1
   obtain⟨e,he,rfl⟩:=(s.mem e').1 he'
   have hq:=s.inE he
   have:∃ y,y∈R7 v x t.2.2:=by
    rcases hh with⟨a,b,c,_⟩|⟨a,b,c,_⟩
    ·exact⟨_,C3.2 ⟨e,he,.inl ⟨a,b,s.inj _ _ hq.1.1 hq.1.2 h0 h1 c,rfl⟩⟩⟩
    ·exact⟨_,C3.2 ⟨e,he,.inr ⟨a,b,s.inj _ _ hq.2.1 hq.2.2 h0 h1 c,rfl⟩⟩⟩
   obtain⟨y,hy⟩:=this
   rw[e2]at hy;cases hy
 ·right
  generalize j1 t v x=y at e1
  obtain⟨e,he,hh⟩:=C3.1 e1
  have hq:=s.inE he
  rcases hh with⟨a,b,c,rfl⟩|⟨a,b,c,rfl⟩
  ·exact⟨hq.2,d02 s.fc (C3.2 ⟨_,(s.mem _).2 ⟨e,he,rfl⟩,.inl ⟨a,b,by show P e.1=P v;rw[c],rfl⟩⟩)⟩
  ·exact⟨hq.1,d02 s.fc (C3.2 ⟨_,(s.mem _).2 ⟨e,he,rfl⟩,.inr ⟨a,b,by show P e.2.2=P v;rw[c],rfl⟩⟩)⟩
theorem Iso.order{t c:j0}{P:Int->Int}{n:Nat}(s:Iso t c P n)(hP0:P 0=0):Q2 c=(Q2 t).map P:=by
 have inR':∀ u:List Int,gud n u->∀ x∈u,0<=x/\x<(n:Int):=λu hu x hx=>by have:=hu.2 x hx;omega
 have hgt:inG (t.1,(n:Int),t.2.2):=by
  intro e he
  have:=(V1 s.ft).1 e he
  rw[s.nt]at this;exact this
 have het:(t.1,(n:Int),t.2.2)=t:=by rw[←s.nt]
 have hS:∀(u:List Int) (y z:Int),gud n u->(y = -1/\z = -1)∨((0<=y/\y<(n:Int))/\z=P y)->o03 (u.map P) z=(o03 u y).map P:=λu y z hu h=>by
  unfold o03
  rcases h with⟨rfl,rfl⟩|⟨⟨h0,h1⟩,rfl⟩
  ·rw[if_neg (by omega),if_neg (by omega)]
  ·have hm:P y∈u.map P↔y∈u:=by
    constructor
    ·intro h
     obtain⟨x,hx,e⟩:=List.mem_map.1 h
     have:=inR' u hu x hx
     rw[←s.inj x y this.1 this.2 h0 h1 e];exact hx
    ·exact λh=>List.mem_map.2 ⟨y,h,rfl⟩
   by_cases c:y∈u
   ·rw[if_neg λq=>q.2 (hm.2 c),if_neg λq=>q.2 c]
   ·rw[if_pos ⟨(s.rng y h0 h1).1,λq=>c (hm.1 q)⟩,if_pos ⟨h0,c⟩];simp
 have hIn:∀(v:Int),0<=v->v<(n:Int)->∀(ls u:List Int),gud n u->Z8 c (P v) ls (u.map P)=(Z8 t v ls u).map P:=λv h0 h1 ls=>by
  induction ls with
  |nil=>intro u hu;rfl
  |cons x l ih =>
   intro u hu
   have hx:j1 t v x = -1∨(0<=j1 t v x/\j1 t v x<(n:Int)):=by
    rcases s.next v x h0 h1 with⟨a,_⟩|⟨a,_⟩
    ·exact .inl a
    ·exact .inr (by omega)
   rw[Z8,Z8,hS u _ _ hu (s.next v x h0 h1),ih _ (m0f hu hx)]
 have hOut:∀(f i:Nat) (u:List Int) (ls:List Int),gud n u->S5 c ls f i (u.map P)=(S5 t ls f i u).map P:=λf=>by
  induction f with
  |zero=>intro i u ls hu;rfl
  |succ f ih =>
   intro i u ls hu
   unfold S5
   rw[List.getElem?_map]
   cases e:u[i]? with
   |none=>rfl
   |some v =>
    have hv:=inR' u hu v (List.mem_of_getElem? e)
    have hgi:gud n (Z8 t v ls u):=by
     have:=v01 hgt v ls u hu
     rw[het]at this;exact this
    simp only[Option.map_some]
    rw[hIn v hv.1 hv.2 ls u hu]
    exact ih (i+1) _ ls hgi
 obtain⟨_,_,q3,_⟩:=V1 s.ft
 have h2:=hOut (n+1) 0 [0] (I5 t.1.toNat 1) ⟨by simp,λx hx=>by simp at hx;subst hx;have:=s.nt;omega⟩
 rw[List.map_cons,List.map_nil,hP0]at h2
 show S5 c (I5 c.1.toNat 1) (c.2.1.toNat+1) 0 [0]=(S5 t (I5 t.1.toNat 1) (t.2.1.toNat+1) 0 [0]).map P
 rw[s.rank,s.nc,s.nt,Int.toNat_natCast]
 exact h2
theorem Iso.canon{t c:j0}{P:Int->Int}{n:Nat}(s:Iso t c P n)(hP0:P 0=0)(hall:∀ x:Int,0<=x->x<(n:Int)->x∈Q2 t):M2 c=M2 t:=by
 have ho:=s.order hP0
 obtain⟨⟨hd,hi⟩,h1⟩:=G00 s.ft
 obtain⟨⟨hd2,hi2⟩,_⟩:=G00 s.fc
 rw[s.nt,Int.toNat_natCast]at hi
 rw[s.nc,Int.toNat_natCast]at hi2
 have hpl:∀ x:Int,0<=x->x<(n:Int)->getI (plc n (Q2 c)) (P x)=getI (plc n (Q2 t)) x/\0<=getI (plc n (Q2 t)) x:=λx h0 h1=>by
  obtain⟨i,hx⟩:=List.getElem?_of_mem (hall x h0 h1)
  have hx2:(Q2 c)[i]?=some (P x):=by rw[ho,List.getElem?_map,hx];rfl
  rw[t0b hi2 hd2 hx2,t0b hi hd hx];omega
 unfold M2 T4
 rw[s.nt,s.nc,Int.toNat_natCast,s.rank,show(Q2 c).length=(Q2 t).length by rw[ho,List.length_map]]
 refine congrArg (λz=>(t.1,_,z)) (A06 O5 (t01 O5 _ _ .nil) (t01 O5 _ _ .nil) λe'=>?_)
 have k1:pE (plc n (Q2 t)) t.2.2=t.2.2.map λe=>(getI (plc n (Q2 t)) e.1,e.2.1,getI (plc n (Q2 t)) e.2.2):=G08 _ _ λe he=>by
  have:=s.inE he
  exact⟨(hpl e.1 this.1.1 this.1.2).2,(hpl e.2.2 this.2.1 this.2.2).2⟩
 have k2:pE (plc n (Q2 c)) c.2.2=c.2.2.map λe=>(getI (plc n (Q2 c)) e.1,e.2.1,getI (plc n (Q2 c)) e.2.2):=G08 _ _ λe he=>by
  obtain⟨f,hf,rfl⟩:=(s.mem e).1 he
  have:=s.inE hf
  rw[(hpl f.1 this.1.1 this.1.2).1,(hpl f.2.2 this.2.1 this.2.2).1]
  exact⟨(hpl f.1 this.1.1 this.1.2).2,(hpl f.2.2 this.2.1 this.2.2).2⟩
 rw[H7 O5,H7 O5,k1,k2]
 simp only[List.not_mem_nil,false_or,List.mem_map]
 constructor
 ·rintro⟨e,he,rfl⟩
  obtain⟨f,hf,rfl⟩:=(s.mem e).1 he
  have:=s.inE hf
  exact⟨f,hf,by rw[(hpl f.1 this.1.1 this.1.2).1,(hpl f.2.2 this.2.1 this.2.2).1]⟩
 ·rintro⟨f,hf,rfl⟩
  have:=s.inE hf
  exact⟨_,(s.mem _).2 ⟨f,hf,rfl⟩,by rw[(hpl f.1 this.1.1 this.1.2).1,(hpl f.2.2 this.2.1 this.2.2).1]⟩
theorem Iso.perm{t c:j0}{P:Int->Int}{n:Nat}(s:Iso t c P n):c.2.2.Perm (t.2.2.map λe=>(P e.1,e.2.1,P e.2.2)):=by
 have hA:=H08 (M05 (R3 s.ft))
 have hC:=H08 (M05 (R3 s.fc))
 have hm:(t.2.2.map λe=>((P e.1,e.2.1,P e.2.2):I0)).Nodup:=by
  rw[List.Nodup,List.pairwise_map]
  refine List.Pairwise.imp_of_mem (λ{a b} ha hb h e=>h ?_) hA
  have a1:=s.inE ha
  have b1:=s.inE hb
  simp only[Prod.mk.injEq]at e
  have h1:=s.inj _ _ a1.1.1 a1.1.2 b1.1.1 b1.1.2 e.1
  have h2:=s.inj _ _ a1.2.1 a1.2.2 b1.2.1 b1.2.2 e.2.2
  obtain⟨e0,e1,e2⟩:=a
  obtain⟨f0,f1,f2⟩:=b
  simp only at h1 h2 e
  rw[h1,h2,e.2.1]
 refine(List.perm_ext_iff_of_nodup hC hm).2 λe'=>?_
 rw[s.mem,List.mem_map]
 exact⟨λ⟨e,h1,h2⟩=>⟨e,h1,h2.symm⟩,λ⟨e,h1,h2⟩=>⟨e,h1,h2.symm⟩⟩
theorem Iso.len{t c:j0}{P:Int->Int}{n:Nat}(s:Iso t c P n):c.2.2.length=t.2.2.length:=by
 rw[s.perm.length_eq,List.length_map]
theorem Iso.deg{t c:j0}{P:Int->Int}{n:Nat}(s:Iso t c P n){v:Int}(h0:0<=v)(h1:v<(n:Int)):S7 (P v) c.2.2=S7 v t.2.2:=by
 rw[S0c _ s.perm]
 refine u0b _ λe he=>?_
 have:=s.inE he
 exact⟨⟨λh=>s.inj _ _ this.1.1 this.1.2 h0 h1 h,λh=>by rw[h]⟩,⟨λh=>s.inj _ _ this.2.1 this.2.2 h0 h1 h,λh=>by rw[h]⟩⟩
theorem Iso.rch{t c:j0}{P:Int->Int}{n:Nat}(s:Iso t c P n){a x:Int}(h:Rch t.2.2 a x):Rch c.2.2 (P a) (P x) :=
 Rch.sub (P:=λx=>Rch c.2.2 (P a) (P x)) .base (λe he=>Rch.closed (P e.1,e.2.1,P e.2.2) ((s.mem _).2 ⟨e,he,rfl⟩)) h
theorem Iso.onto{t c:j0}{P:Int->Int}{n:Nat}(s:Iso t c P n){y:Int}(h0:0<=y)(h1:y<(n:Int)):∃ x:Int,(0<=x/\x<(n:Int))/\P x=y:=by
 let L:List Int:=(List.range n).map λi:Nat=>P (i:Int)
 have hd:L.Nodup:=by
  rw[List.Nodup,List.pairwise_map]
  refine List.Pairwise.imp_of_mem (λ{a b} ha hb h e=>h ?_) List.nodup_range
  have:=s.inj _ _ (by omega) (by have:=List.mem_range.1 ha;omega) (by omega) (by have:=List.mem_range.1 hb;omega) e
  omega
 have hin:inV n L:=λz hz=>by
  obtain⟨i,hi,rfl⟩:=List.mem_map.1 hz
  have:=List.mem_range.1 hi
  exact s.rng _ (by omega) (by omega)
 have hm:y∈L:=by
  refine Classical.byContradiction λhc=>?_
  have h2:=O8 n (y::L) (List.nodup_cons.2 ⟨hc,hd⟩) λz hz=>by
   rcases List.mem_cons.1 hz with rfl|hz
   ·exact⟨h0,h1⟩
   ·exact hin z hz
  simp[L]at h2
  omega
 obtain⟨i,hi,e⟩:=List.mem_map.1 hm
 have:=List.mem_range.1 hi
 exact⟨_,⟨by omega,by omega⟩,e⟩
theorem Rch.tr{es:List I0}{a b c:Int}(h:Rch es a b)(k:Rch es b c):Rch es a c:=Rch.sub (P:=λx=>Rch es a x) h Rch.closed k
theorem Rch.sym{es:List I0}{a b:Int}(h:Rch es a b):Rch es b a :=
 Rch.sub (P:=λx=>Rch es x a) .base (λe he=>⟨λk=>Rch.tr (.bwd he .base) k,λk=>Rch.tr (.fwd he .base) k⟩) h
theorem I0f{v:Int}:∀ {es:List I0},S7 v es=0->∀ e∈es,e.1≠v/\e.2.2≠v
 | [],_,e,he=>by cases he
 |x::r,h,e,he=>by
  simp only[S7,P0b]at h
  rcases List.mem_cons.1 he with rfl|he
  ·refine⟨λc=>?_,λc=>?_⟩
   ·rw[if_pos c]at h;omega
   ·rw[if_pos c]at h;omega
  ·exact I0f (by omega) e he
theorem I06{g:j0}(h:P1 g=true):M2 g=g/\P5 g=none:=by
 unfold P1 l05 at h
 simp only[Bool.and_eq_true,decide_eq_true_eq,Option.isNone_iff_eq_none]at h
 exact⟨h.2.2,h.2.1⟩
theorem J0f{g:j0}(h:P1 g=true){v:Int}(h0:1<=v)(h1:v<g.2.1):2<=S7 v g.2.2/\Rch g.2.2 0 v:=by
 have hb:=H07 (I06 h).2 v.toNat (by omega) (by omega)
 unfold R05 at hb
 rw[show((v.toNat:Nat):Int)=v by omega]at hb
 simp only[Bool.or_eq_false_iff,Bool.not_eq_false',decide_eq_true_eq,decide_eq_false_iff_not]at hb
 exact⟨by omega,(p04 _ _ _).1 hb.2⟩
theorem x0b{g:j0}(h:P1 g=true){v:Int}(h0:0<=v)(h1:v<g.2.1):Rch g.2.2 0 v:=by
 by_cases c:v=0
 ·rw[c];exact .base
 ·exact(J0f h (by omega) h1).2
def L01(g:j0):Bool:=decide (1<g.2.1)&&decide (S7 0 g.2.2=1)
theorem K0l{g:j0}(h:P1 g=true)(hc:L01 g=false)(hn:1<g.2.1){v:Int}(h0:0<=v)(h1:v<g.2.1):2<=S7 v g.2.2:=by
 by_cases c:v=0
 ·subst c
  have hd:S7 0 g.2.2≠1:=λe=>by
   rw[L01,decide_eq_true hn,decide_eq_true e]at hc;cases hc
  have hz:S7 0 g.2.2≠0:=λe=>by
   have hn0:=I0f e
   have:=Rch.sub (P:=λx=>x=0) rfl (λe he=>⟨λk=>absurd k (hn0 e he).1,λk=>absurd k (hn0 e he).2⟩) (x0b h (v:=1) (by omega) hn)
   omega
  omega
 ·exact(J0f h (by omega) h1).1
theorem Z0i{g:j0}{v:Int}(h0:0<=v):∀ x:Int,0<=x->x<g.2.1->x∈J00 g v:=λx h1 h2=>by
 unfold J00
 by_cases c:x=v
 ·rw[c];exact mS
 ·refine mC _ ?_
  have:=R0g v.toNat g.2.1.toNat 0 x.toNat (Nat.zero_le _) (by omega) (by omega)
  rw[show((x.toNat:Nat):Int)=x by omega]at this;exact this
theorem Y0d{g:j0}(hf:K0 g=true){v:Int}(hv:0<=v/\v<g.2.1):∃ P,Iso g (T4 g (J00 g v)) P g.2.1.toNat/\P v=0:=by
 obtain⟨h1,h2,h3⟩:=I07 hf hv
 obtain⟨s,hi⟩:=H0f hf h2 h1 (Z0i hv.1)
 exact⟨_,s,hi 0 v rfl⟩
theorem a0j{g:j0}(h:P5 g=none):r04 g=g:=by
 unfold r04 W00
 rw[h]
theorem T0c{g:j0}(h:P1 g=true)(hc:L01 g=false){v:Int}(hv:0<=v/\v<g.2.1):P5 (T4 g (J00 g v))=none:=by
 have hf:=d8 h
 obtain⟨P,s,hP⟩:=Y0d hf hv
 have hnn:=s.nt
 generalize g.2.1.toNat=n at s hnn
 generalize T4 g (J00 g v)=t at s
 unfold P5
 refine H06 λk k1 k2=>?_
 rw[s.nc,Int.toNat_natCast]at k2
 obtain⟨x,hx,hPx⟩:=s.onto (y:=(k:Int)) (by omega) (by omega)
 unfold R05
 simp only[Bool.or_eq_false_iff,Bool.not_eq_false',decide_eq_true_eq,decide_eq_false_iff_not]
 refine⟨?_,?_⟩
 ·rw[←hPx,s.deg hx.1 hx.2]
  have:=K0l h hc (by omega) hx.1 (by omega)
  omega
 ·refine(p04 _ _ _).2 ?_
  have:=s.rch (Rch.tr (Rch.sym (x0b h hv.1 hv.2)) (x0b h hx.1 (by omega)))
  rw[hP,hPx]at this;exact this
theorem K0f{g:j0}(h:P1 g=true)(hc:L01 g=false){v:Int}(hv:0<=v/\v<g.2.1):D6 g v=M2 (T4 g (J00 g v)):=by
 unfold D6 u05
 rw[a0j (T0c h hc hv)]
theorem b0j{x y:j0}(hx:P1 x=true)(cx:L01 x=false)(cy:L01 y=false){v:Int}(hv:0<=v/\v<x.2.1)(h:D6 x v=y):
  (y.2.1=x.2.1/\y.2.2.length=x.2.2.length)/\∃ u:Int,(0<=u/\u<y.2.1)/\D6 y u=x:=by
 have hf:=d8 hx
 have hy:P1 y=true:=by rw[←h];exact i02 hf hv
 have hl:=T0c hx cx hv
 rw[K0f hx cx hv]at h
 obtain⟨P,s,hP⟩:=Y0d hf hv
 have hn0:(0:Int)<x.2.1:=by omega
 generalize ht:T4 x (J00 x v)=t at s hl h
 obtain⟨⟨od,oi⟩,_⟩:=G00 s.fc
 obtain⟨s2,hi2⟩:=H0f s.fc od oi λz z0 z1=>F08 s.fc hl z0 z1
 obtain⟨tl,hz⟩:=G06 t
 have hB:=hi2 0 0 (by rw[hz];rfl)
 rw[s.nc,Int.toNat_natCast]at s2 hB
 generalize getI (plc x.2.1.toNat (Q2 t))=B at s2 hB
 have hs2:Iso t y B x.2.1.toNat:=by rw[←h];exact s2
 have w:=s.comp hs2
 refine⟨⟨by rw[w.nc];exact w.nt.symm,w.len⟩,B (P 0),?_⟩
 have r0:=w.rng 0 (by omega) (by omega)
 have hu:0<=B (P 0)/\B (P 0)<y.2.1:=by rw[w.nc];exact r0
 refine⟨hu,?_⟩
 rw[K0f hy cy hu]
 obtain⟨C,s3,hC⟩:=Y0d (d8 hy) hu
 rw[w.nc,Int.toNat_natCast]at s3
 have z:=w.comp s3
 rw[z.canon hC λa a0 a1=>F08 hf (I06 hx).2 a0 (by omega)]
 exact(I06 hx).1
theorem L0f:∀(d:Nat) {g:j0},Z0 g=true->(W00 d g).2.1<=g.2.1
 |0,g,hg=>iR _
 |d+1,g,hg=>by
  unfold W00
  cases e:P5 g with
  |none=>exact iR _
  |some k =>
   obtain⟨h1,h2,h3,h4⟩:=N03 hg e
   have:=L0f d (F02 hg h1 h3 h4)
   have q:=(T3 hg).2.2.1
   refine Int.le_trans this ?_
   show(((wo k g.2.1.toNat 0).length:Nat):Int)<=_
   omega
theorem L0l{g:j0}(hg:Z0 g=true)(h:P5 g≠none):(r04 g).2.1<g.2.1:=by
 unfold r04 W00
 cases e:P5 g with
 |none=>exact absurd e h
 |some k =>
  obtain⟨h1,h2,h3,h4⟩:=N03 hg e
  have:=L0f 39 (F02 hg h1 h3 h4)
  have q:=(T3 hg).2.2.1
  refine Int.lt_of_le_of_lt this ?_
  show(((wo k g.2.1.toNat 0).length:Nat):Int)<_
  omega
theorem D0k{g:j0}(hf:K0 g=true):(M2 g).2.1<=g.2.1:=by
 obtain⟨⟨hd,ho⟩,_⟩:=G00 hf
 have:=O8 _ _ hd ho
 have q:=(V1 hf).2.2.1
 show(((Q2 g).length:Nat):Int)<=_
 omega
theorem M0l{bad:Nat->Bool}{d v k:Nat}(h1:v<=k)(h2:k<v+d)(hb:bad k=true):lf bad d v≠none:=λh=>by
 rw[H07 h k h1 h2]at hb;cases hb
theorem J06{g:j0}(h:P1 g=true)(hc:L01 g=true){v:Int}(hv:0<=v/\v<g.2.1)(h0:v≠0):(D6 g v).2.1<g.2.1:=by
 have hf:=d8 h
 unfold L01 at hc
 simp only[Bool.and_eq_true,decide_eq_true_eq]at hc
 obtain⟨P,s,hP⟩:=Y0d hf hv
 have hn:=s.nt
 have r0:=s.rng 0 (by omega) (by omega)
 have hne:P 0≠0:=λe=>h0 (s.inj v 0 hv.1 (by omega) (by omega) (by omega) (by rw[hP,e]))
 have hlf:P5 (T4 g (J00 g v))≠none:=by
  unfold P5
  refine M0l (k:=(P 0).toNat) (by omega) (by rw[s.nc];omega) ?_
  unfold R05
  rw[show(((P 0).toNat:Nat):Int)=P 0 by omega,s.deg (by omega) (by omega),hc.2]
  rfl
 have h1:=L0l (R3 s.fc) hlf
 have h2:=D0k (X00 40 s.fc)
 have h3:=s.nc
 unfold D6 u05
 refine Int.lt_of_le_of_lt h2 (Int.lt_of_lt_of_le h1 ?_)
 rw[h3,hn];exact iR _
def F04(g:j0):List Int->Option Int
 | []=>none
 |x::r=>if 0<=j1 g 0 x then some (j1 g 0 x)else F04 g r
theorem b0i{g:j0}:∀ {ls:List Int} {v:Int},F04 g ls=some v->∃ x∈ls,j1 g 0 x=v/\0<=v
 | [],v,h=>by cases h
 |x::r,v,h=>by
  unfold F04 at h
  by_cases c:0<=j1 g 0 x
  ·rw[if_pos c]at h;cases h;exact⟨x,mS,rfl,c⟩
  ·rw[if_neg c]at h
   obtain⟨y,h1,h2⟩:=b0i h
   exact⟨y,mC _ h1,h2⟩
theorem J08{g:j0}:∀ {ls:List Int} {x:Int},x∈ls->0<=j1 g 0 x->∃ v,F04 g ls=some v
 |y::r,x,h,h0=>by
  unfold F04
  by_cases c:0<=j1 g 0 y
  ·rw[if_pos c];exact⟨_,rfl⟩
  ·rw[if_neg c]
   rcases List.mem_cons.1 h with rfl|h
   ·exact absurd h0 c
   ·exact J08 h h0
theorem Z0d{v:Int}{e:I0}(h1:e.1=v)(h2:e.2.2=v):∀ {es:List I0},e∈es->2<=S7 v es
 |x::r,h=>by
  simp only[S7,P0b]
  rcases List.mem_cons.1 h with rfl|h
  ·rw[if_pos h1,if_pos h2];omega
  ·have:=Z0d h1 h2 h;omega
theorem y0b{g:j0}(h:P1 g=true)(hc:L01 g=true):∃ v,F04 g (I5 g.1.toNat 1)=some v/\(0<=v/\v<g.2.1)/\v≠0:=by
 have hf:=d8 h
 obtain⟨q1,q2,q3,q4⟩:=V1 hf
 have hc':=hc
 unfold L01 at hc'
 simp only[Bool.and_eq_true,decide_eq_true_eq]at hc'
 have hex:∃ e∈g.2.2,e.1=0∨e.2.2=0:=by
  refine Classical.byContradiction λhno=>?_
  have hz:∀ es:List I0,(∀ e∈es,¬ (e.1=0∨e.2.2=0))->S7 0 es=0:=λes=>by
   induction es with
   |nil=>intro _;rfl
   |cons x r ih =>
    intro hh
    have a:=hh x mS
    simp only[S7,P0b,ih λe he=>hh e (mC _ he)]
    rw[if_neg λk=>a (.inl k),if_neg λk=>a (.inr k)]
  have:=hz g.2.2 λe he k=>hno ⟨e,he,k⟩
  omega
 obtain⟨e,he,hh⟩:=hex
 have hq:=q1 e he
 have hl:=q0b g.1.toNat 1 e.2.1.toNat (by omega) (by omega)
 rw[show((e.2.1.toNat:Nat):Int)=e.2.1 by omega]at hl
 obtain⟨v,hv⟩:∃ v,F04 g (I5 g.1.toNat 1)=some v:=by
  rcases hh with k|k
  ·refine J08 hl.1 ?_
   rw[d02 hf (v:=0) (x:=e.2.1) (y:=e.2.2) (C3.2 ⟨e,he,.inl ⟨by omega,rfl,k,rfl⟩⟩)]
   exact hq.2.1.1
  ·refine J08 hl.2 ?_
   rw[d02 hf (v:=0) (x := -e.2.1) (y:=e.1) (C3.2 ⟨e,he,.inr ⟨by omega,by omega,k,rfl⟩⟩)]
   exact hq.1.1
 obtain⟨x,hx,hn,h0⟩:=b0i hv
 refine⟨v,hv,?_⟩
 rcases d9 g 0 x with⟨a,_⟩|a
 ·omega
 ·rw[hn]at a
  obtain⟨f,hf2,hh2⟩:=C3.1 a
  have hq2:=q1 f hf2
  rcases hh2 with⟨_,_,c1,rfl⟩|⟨_,_,c1,rfl⟩
  ·refine⟨⟨h0,hq2.2.1.2⟩,λc=>?_⟩
   have:=Z0d c1 c hf2;omega
  ·refine⟨⟨h0,hq2.1.2⟩,λc=>?_⟩
   have:=Z0d c c1 hf2;omega
def p03:Nat->j0->j0
 |0,g=>g
 |d+1,g=>bif L01 g then(match F04 g (I5 g.1.toNat 1)with
  |some v=>p03 d (D6 g v)
  |none=>g)else g
theorem c0i:∀(d:Nat) (g:j0),P1 g=true->g.2.1<=(d:Int)+1->P1 (p03 d g)=true/\L01 (p03 d g)=false
 |0,g,h,hn=>by
  refine⟨h,?_⟩
  show L01 g=false
  unfold L01
  rw[decide_eq_false (show ¬ 1<g.2.1 by omega)];rfl
 |d+1,g,h,hn=>by
  unfold p03
  cases hc:L01 g
  ·exact⟨h,hc⟩
  ·obtain⟨v,h1,h2,h3⟩:=y0b h hc
   have:=J06 h hc h2 h3
   rw[cond_true,h1]
   exact c0i d _ (i02 (d8 h) h2) (by omega)
def j01(g:j0):j0:=bif P1 g then p03 40 g else g
def G02(x y:j0):Nat->Nat->Bool
 |0,_=>false
 |d+1,v=>bif l05 (D6 x v) y then true else G02 x y d (v+1)
theorem K08(x y:j0):∀ d v,G02 x y d v=true↔∃ u:Nat,(v<=u/\u<v+d)/\D6 x (u:Int)=y
 |0,v=>by simp[G02];omega
 |d+1,v=>by
  unfold G02 l05
  by_cases c:D6 x (v:Int)=y
  ·rw[decide_eq_true c,cond_true]
   exact⟨λ_=>⟨v,by omega,c⟩,λ_=>rfl⟩
  ·rw[decide_eq_false c,cond_false,K08 x y d (v+1)]
   constructor
   ·rintro⟨u,h1,h2⟩;exact⟨u,by omega,h2⟩
   ·rintro⟨u,h1,h2⟩
    by_cases k:u=v
    ·rw[k]at h2;exact absurd h2 c
    ·exact⟨u,by omega,h2⟩
def g9(a b:j0):Bool:=bif P1 a&&(P1 b&&decide (a.1=b.1))then G02 (j01 a) (j01 b) (j01 a).2.1.toNat 0 else false
theorem L08{a:j0}(h:P1 a=true):P1 (j01 a)=true/\L01 (j01 a)=false:=by
 unfold j01
 rw[h,cond_true]
 have:=(o8 h).2.1
 exact c0i 40 a h (by omega)
theorem U0c{x y:j0}(hx:P1 x=true)(cx:L01 x=false)(cy:L01 y=false)(h:G02 x y x.2.1.toNat 0=true):
  (y.2.1=x.2.1/\y.2.2.length=x.2.2.length)/\G02 y x y.2.1.toNat 0=true:=by
 obtain⟨u,hu,e⟩:=(K08 x y _ _).1 h
 obtain⟨h1,w,hw,e2⟩:=b0j hx cx cy (v:=(u:Int)) ⟨by omega,by omega⟩ e
 refine⟨h1,(K08 y x _ _).2 ⟨w.toNat,by omega,?_⟩⟩
 rw[show((w.toNat:Nat):Int)=w by omega];exact e2
theorem E0k(a b:j0):g9 a b=g9 b a:=by
 have half:∀ a b,g9 a b=true->g9 b a=true:=λa b h=>by
  unfold g9 at h ⊢
  cases ha:P1 a
  ·rw[ha]at h;cases h
  cases hb:P1 b
  ·rw[ha,hb]at h;cases h
  by_cases hr:a.1=b.1
  ·rw[ha,hb,decide_eq_true hr]at h
   rw[decide_eq_true hr.symm]
   exact(U0c (L08 ha).1 (L08 ha).2 (L08 hb).2 h).2
  ·rw[ha,hb,decide_eq_false hr]at h;cases h
 cases h1:g9 a b
 ·cases h2:g9 b a
  ·rfl
  ·rw[half b a h2]at h1;cases h1
 ·rw[half a b h1]
def l09(g:j0)(w:List Int):Bool:=decide ((n09 g 0 w).2=w.length)&&decide ((n09 g 0 w).1=0)
def rdw(g:j0):Int->List Int->Option Int
 |v,[]=>some v
 |v,x::w=>if j1 g v x<0 then none else rdw g (j1 g v x) w
theorem W0c(g:j0):∀(w:List Int) (v u:Int),rdw g v w=some u↔((n09 g v w).2=w.length/\(n09 g v w).1=u)
 | [],v,u=>by simp[rdw,n09]
 |x::w,v,u=>by
  have ih:=W0c g w (j1 g v x) u
  unfold rdw n09
  by_cases c:j1 g v x<0
  ·rw[if_pos c,if_pos c];simp
  ·rw[if_neg c,if_neg c,ih];simp
theorem d0j(g:j0)(w:List Int):l09 g w=true↔rdw g 0 w=some 0:=by
 unfold l09
 rw[W0c];simp
theorem e0j{g:j0}(hf:K0 g=true){v x u:Int}(h:j1 g v x=u)(h0:0<=u):j1 g u (-x)=v:=by
 rcases d9 g v x with⟨e,_⟩|e
 ·omega
 ·rw[h]at e
  obtain⟨d,hd,h1⟩:=C3.1 e
  refine d02 hf (C3.2 ⟨d,hd,?_⟩)
  rcases h1 with⟨a,b,c,rfl⟩|⟨a,b,c,rfl⟩
  ·exact .inr ⟨by omega,by omega,rfl,c.symm⟩
  ·exact .inl ⟨by omega,b,rfl,c.symm⟩
structure Mor (a b:j0) (f:Int->Int):Prop where
 base:f 0=0
 rng:∀ v,0<=v->v<a.2.1->0<=f v/\f v<b.2.1
 step:∀ v x,0<=v->v<a.2.1->0<=j1 a v x->j1 b (f v) x=f (j1 a v x)
theorem Mor.rdw{a b:j0}{f:Int->Int}(m:Mor a b f)(ha:inG a):∀(w:List Int) (v u:Int),0<=v->v<a.2.1->rdw a v w=some u->rdw b (f v) w=some (f u)
 | [],v,u,h0,h1,h=>by
  simp only[Go.Proofs.YtkjhghloldgioaaGreat.rdw,Option.some.injEq]at h ⊢
  rw[h]
 |x::w,v,u,h0,h1,h=>by
  unfold Go.Proofs.YtkjhghloldgioaaGreat.rdw at h ⊢
  by_cases c:j1 a v x<0
  ·rw[if_pos c]at h;cases h
  ·rw[if_neg c]at h
   have hs:=m.step v x h0 h1 (by omega)
   have hr:0<=j1 a v x/\j1 a v x<a.2.1:=by
    rcases e03 ha v x with e|e
    ·omega
    ·exact e
   have hb:=m.rng _ hr.1 hr.2
   rw[hs,if_neg (by omega)]
   exact Mor.rdw m ha w _ u hr.1 hr.2 h
theorem Mor.loop{a b:j0}{f:Int->Int}(m:Mor a b f)(ha:K0 a=true){w:List Int}(h:l09 a w=true):l09 b w=true:=by
 obtain⟨q1,q2,q3,q4⟩:=V1 ha
 rw[d0j]at h ⊢
 have:=m.rdw q1 w 0 0 (iR _) (by omega) h
 rwa [m.base]at this
abbrev Im:=List Int×List Int
def S0g(s s':Im):Prop:=(∃ t,s'.2=s.2++t)/\∀ v∈s.2,getI s'.1 v=getI s.1 v
theorem S0g.refl(s:Im):S0g s s:=⟨⟨[],by simp⟩,λ_ _=>rfl⟩
theorem S0g.trans{s s' s'':Im}(h:S0g s s')(h':S0g s' s''):S0g s s'':=by
 obtain⟨⟨t,e⟩,f⟩:=h
 obtain⟨⟨t',e'⟩,f'⟩:=h'
 exact⟨⟨t++t',by rw[e',e,List.append_assoc]⟩,λv hv=>(f' v (by rw[e];exact List.mem_append_left _ hv)).trans (f v hv)⟩
def K0m(a b:j0)(v x:Int)(s:Im):Prop:=0<=j1 a v x->j1 a v x∈s.2/\j1 b (getI s.1 v) x=getI s.1 (j1 a v x)
theorem K0m.le{a b:j0}{v x:Int}{s s':Im}(hv:v∈s.2)(h:K0m a b v x s)(l:S0g s s'):K0m a b v x s':=λh0=>by
 obtain⟨h1,h2⟩:=h h0
 obtain⟨⟨t,e⟩,f⟩:=l
 exact⟨by rw[e];exact List.mem_append_left _ h1,by rw[f v hv,f _ h1];exact h2⟩
abbrev Tr8:=List (Option (List Int))×List Int
def trS(g:j0)(v x:Int)(s:Tr8):Tr8:=if 0<=j1 g v x/\j1 g v x ∉ s.2 then(s.1.set (j1 g v x).toNat (some ((l6 s.1 v).getD [] ++ [x])),s.2 ++ [j1 g v x])else s
def y09(g:j0)(v:Int):List Int->Tr8->Tr8
 | [],s=>s
 |x::r,s=>y09 g v r (trS g v x s)
def g03(g:j0)(ls:List Int):Nat->Nat->Tr8->Tr8
 |0,i,s=>s
 |f+1,i,s=>match s.2[i]? with
  |some v=>g03 g ls f (i+1) (y09 g v ls s)
  |none=>s
def X0c(g:j0)(p:Int):List Int:=S5 g (I5 g.1.toNat 1) (g.2.1.toNat+1) 0 [p]
def n00(g:j0)(p:Int):Tr8:=g03 g (I5 g.1.toNat 1) (g.2.1.toNat+1) 0 ((List.replicate g.2.1.toNat none).set p.toNat (some []),[p])
theorem e0i(g:j0)(v x:Int)(s:Tr8):(trS g v x s).2=o03 s.2 (j1 g v x):=by
 unfold trS o03
 split<;>rfl
theorem B0b(g:j0)(v:Int):∀(ls:List Int) (s:Tr8),(y09 g v ls s).2=Z8 g v ls s.2
 | [],s=>rfl
 |x::r,s=>by rw[y09,B0b g v r,e0i];rfl
theorem Y0c(g:j0)(ls:List Int):∀(f i:Nat) (s:Tr8),(g03 g ls f i s).2=S5 g ls f i s.2
 |0,i,s=>rfl
 |f+1,i,s=>by
  unfold g03 S5
  cases s.2[i]? with
  |none=>rfl
  |some v=>simp only[Y0c g ls f,B0b]
theorem H0k(g:j0)(p:Int):(n00 g p).2=X0c g p:=Y0c _ _ _ _ _
structure TOk (g:j0) (p:Int) (n:Nat) (s:Tr8):Prop where
 ok:WOk n s.1 s.2
 gd:gud n s.2
 base:p∈s.2
 word:l6 s.1 p=some []
 par:∀ y∈s.2,y≠p->∃ v∈s.2,∃ x,x∈I5 g.1.toNat 1/\j1 g v x=y/\∃ a,l6 s.1 v=some a/\l6 s.1 y=some (a ++ [x])
 red:∀ y∈s.2,∀ a,l6 s.1 y=some a->Red a.reverse=true
theorem WOk.add{n:Nat}{W:List (Option (List Int))}{u:List Int}(hw:WOk n W u){y:Int}(c1:0<=y)(hy:y<(n:Int))(v x:Int):WOk n (W.set y.toNat (some ((l6 W v).getD [] ++ [x]))) (u ++ [y]):=by
 have hs:=hw.short v
 refine⟨by simp[hw.len],λz h0 h1=>?_,λz=>?_⟩
 ·rw[n9 c1 (by have:=hw.len;omega) h0]
  by_cases c:z=y
  ·rw[if_pos c];simp[c]
  ·rw[if_neg c,hw.iff z h0 h1];simp[c]
 ·by_cases hz:0<=z
  ·rw[n9 c1 (by have:=hw.len;omega) hz]
   by_cases c:z=y
   ·rw[if_pos c];simp;exact hs
   ·rw[if_neg c];have:=hw.short z;simp only[List.length_append];omega
  ·have hz0:l6 (W.set y.toNat (some ((l6 W v).getD [] ++ [x]))) z=l6 (W.set y.toNat (some ((l6 W v).getD [] ++ [x]))) 0:=by
    unfold l6;rw[show z.toNat=(0:Int).toNat by omega]
   rw[hz0,n9 c1 (by have:=hw.len;omega) (iR 0)]
   by_cases c:(0:Int)=y
   ·rw[if_pos c];simp;exact hs
   ·rw[if_neg c];have:=hw.short 0;simp only[List.length_append];omega
theorem WOk.get{n:Nat}{W:List (Option (List Int))}{u:List Int}(hw:WOk n W u){v:Int}(h0:0<=v)(h1:v<(n:Int))(hv:v∈u):∃ a,l6 W v=some a:=by
 cases e:l6 W v with
 |none=>exact absurd hv ((hw.iff v h0 h1).1 (by rw[e];rfl))
 |some a=>exact⟨a,rfl⟩
theorem O08{R:Nat}(hR:R<=900){x:Int}(hx:x∈I5 R 1):Q01 x/\x≠0 /\ -(R:Int)<=x/\x<=(R:Int):=by
 obtain⟨j,k1,k2,k3⟩:=m0b _ _ _ hx
 exact⟨⟨⟨by omega,by omega⟩,by omega⟩,by omega,by omega,by omega⟩
theorem I0k{l x:Int}(hl:Q01 l)(h:z0b l x=true):x = -l:=by
 unfold z0b at h
 simp only[Bool.and_eq_true,beq_iff_eq]at h
 rw[h.2];exact j0k hl.1 hl.2
theorem TOk.add{g:j0}(hf:K0 g=true){p:Int}{n:Nat}(hn:g.2.1=(n:Int)){s:Tr8}(h:TOk g p n s){v x:Int}(hv:v∈s.2)(hx:x∈I5 g.1.toNat 1):TOk g p n (trS g v x s):=by
 obtain⟨q1,q2,q3,q4⟩:=V1 hf
 unfold trS
 split
 ·rename_i c
  obtain⟨c1,c2⟩:=c
  have hyr:j1 g v x<(n:Int):=by
   rcases e03 q1 v x with e|e<;>omega
  obtain⟨W,u⟩:=s
  obtain⟨ok,gd,base,word,par,red⟩:=h
  simp only at hv c1 c2 ok gd base word par red ⊢
  have hvr:=gd.2 v hv
  obtain⟨a,ha⟩:=ok.get hvr.1 hvr.2 hv
  have hlen:=ok.len
  have keep:∀ z∈u,l6 (W.set (j1 g v x).toNat (some ((l6 W v).getD [] ++ [x]))) z=l6 W z:=λz hz=>by
   have:=gd.2 z hz
   rw[n9 c1 (by omega) this.1,if_neg λ(e:z=j1 g v x)=>c2 (by rw[←e];exact hz)]
  have new:l6 (W.set (j1 g v x).toNat (some ((l6 W v).getD [] ++ [x]))) (j1 g v x)=some (a ++ [x]):=by
   rw[n9 c1 (by omega) c1,if_pos rfl,ha];rfl
  refine⟨ok.add c1 hyr v x,⟨List.nodup_append.2 ⟨gd.1,by simp,λa ha b hb=>?_⟩,λy hy=>?_⟩,List.mem_append_left _ base,?_,λy hy hyp=>?_,λy hy b hb=>?_⟩
  ·simp at hb;subst hb;exact λe=>c2 (e▸ha)
  ·rcases List.mem_append.1 hy with hy|hy
   ·exact gd.2 y hy
   ·simp at hy;subst hy;omega
  ·rw[keep p base];exact word
  ·rcases List.mem_append.1 hy with hy|hy
   ·obtain⟨v',hv',x',hx',e1,b,e2,e3⟩:=par y hy hyp
    exact⟨v',List.mem_append_left _ hv',x',hx',e1,b,by rw[keep v' hv'];exact e2,by rw[keep y hy];exact e3⟩
   ·simp at hy;subst hy
    exact⟨v,List.mem_append_left _ hv,x,hx,rfl,a,by rw[keep v hv];exact ha,new⟩
  ·rcases List.mem_append.1 hy with hy|hy
   ·rw[keep y hy]at hb;exact red y hy b hb
   ·simp at hy;subst hy
    rw[new]at hb;cases hb
    have hra:=red v hv a ha
    rw[List.reverse_append]
    show Red (x::a.reverse)=true
    cases e:a.reverse with
    |nil=>rfl
    |cons l t =>
     rw[e]at hra
     unfold Red
     rw[hra,Bool.and_true]
     cases hc:z0b l x with
     |false=>rfl
     |true =>
      exfalso
      have hvp:v≠p:=λe2=>by
       subst e2
       rw[word]at ha;cases ha;simp at e
      obtain⟨v',hv',x',hx',e1,b,e2,e3⟩:=par v hv hvp
      rw[ha]at e3
      injection e3 with e3
      rw[e3,List.reverse_append]at e
      simp only[List.reverse_cons,List.reverse_nil,List.nil_append,List.cons_append,List.cons.injEq]at e
      rw[←e.1]at hc
      have:=I0k (O08 (by omega) hx').1 hc
      have hb:=e0j hf e1 hvr.1
      rw[←this]at hb
      exact c2 (hb▸hv')
 ·exact h
theorem a0e(g:j0)(v x:Int)(s:Tr8):∃ t,(trS g v x s).2=s.2++t:=by rw[e0i];exact d0b _ _
theorem N0f(g:j0)(v:Int)(ls:List Int)(s:Tr8):∃ t,(y09 g v ls s).2=s.2++t:=by rw[B0b];exact F00 _ _ _ _
theorem TOk.inn{g:j0}(hf:K0 g=true){p:Int}{n:Nat}(hn:g.2.1=(n:Int)){v:Int}:∀(ls:List Int) {s:Tr8},TOk g p n s->v∈s.2->(∀ x∈ls,x∈I5 g.1.toNat 1)->TOk g p n (y09 g v ls s)
 | [],s,h,hv,hl=>h
 |x::r,s,h,hv,hl=>by
  obtain⟨t,e⟩:=a0e g v x s
  exact TOk.inn hf hn r (h.add hf hn hv (hl x mS)) (by rw[e];exact List.mem_append_left _ hv) λy hy=>hl y (mC _ hy)
theorem TOk.out{g:j0}(hf:K0 g=true){p:Int}{n:Nat}(hn:g.2.1=(n:Int)):∀(f i:Nat) {s:Tr8},TOk g p n s->TOk g p n (g03 g (I5 g.1.toNat 1) f i s)
 |0,i,s,h=>h
 |f+1,i,s,h=>by
  unfold g03
  cases e:s.2[i]? with
  |none=>exact h
  |some v=>exact TOk.out hf hn f (i+1) (h.inn hf hn _ (List.mem_of_getElem? e) λx hx=>hx)
theorem J0k(N:Nat)(x:Int):l6 (List.replicate N (none:Option (List Int))) x=none:=by
 unfold l6
 rw[List.getD_eq_getElem?_getD,List.getElem?_replicate];split<;>rfl
theorem P08(g:j0){p:Int}{N:Nat}(hp:0<=p/\p<(N:Int)):TOk g p N ((List.replicate N none).set p.toNat (some []),[p]):=by
 have hset:∀ x,0<=x->l6 ((List.replicate N (none:Option (List Int))).set p.toNat (some [])) x=if x=p then some []else none:=λx h0=>by
  rw[n9 hp.1 (by simp;omega) h0,J0k]
 refine⟨⟨by simp,λx h0 h1=>?_,λx=>?_⟩,⟨by simp,λx hx=>by simp at hx;subst hx;exact hp⟩,by simp,?_,λy hy h=>?_,λy hy a ha=>?_⟩
 ·simp only
  rw[hset x h0]
  by_cases c:x=p
  ·rw[if_pos c];simp[c]
  ·rw[if_neg c];simp[c]
 ·have:∀ x,0<=x->((l6 ((List.replicate N (none:Option (List Int))).set p.toNat (some [])) x).getD []).length<=1:=λx h0=>by
   rw[hset x h0];split<;>simp
  by_cases hz:0<=x
  ·exact this x hz
  ·have e:l6 ((List.replicate N (none:Option (List Int))).set p.toNat (some [])) x=l6 ((List.replicate N (none:Option (List Int))).set p.toNat (some [])) 0:=by
    unfold l6;rw[show x.toNat=(0:Int).toNat by omega]
   simp only
   rw[e];exact this 0 (iR 0)
 ·simp only
  rw[hset p hp.1,if_pos rfl]
 ·simp at hy;exact absurd hy h
 ·simp at hy;subst hy
  simp only at ha
  rw[hset y hp.1,if_pos rfl]at ha
  cases ha;rfl
theorem K07{g:j0}(hf:K0 g=true){p:Int}(hp:0<=p/\p<g.2.1):TOk g p g.2.1.toNat (n00 g p):=by
 obtain⟨q1,q2,q3,q4⟩:=V1 hf
 exact TOk.out hf (by omega) _ _ (P08 g ⟨hp.1,by omega⟩)
theorem j0m{g:j0}(hf:K0 g=true)(p:Int){n:Nat}(hn:g.2.1=(n:Int))(ls:List Int)(hls:∀ x∈ls,x∈I5 g.1.toNat 1)(hl:ls.length<=1000000)(v:Int):∀(d k fuel:Nat) (s:Tr8),TOk g p n s->v∈s.2->k+d=ls.length->d<fuel ->
  A2 ls g.1 g.2.1 g.2.2 v fuel (k:Int) s.1 s.2=some (y09 g v (ls.drop k) s)
 |d,k,0,s,hs,hv,hd,hf=>by omega
 |0,k,fuel+1,s,hs,hv,hd,hf=>by
  rw[A2.eq_2,if_neg (by simp;omega),D2 (by omega)];rfl
 |d+1,k,fuel+1,s,hs,hv,hd,hfu=>by
  obtain⟨q1,q2,q3,q4⟩:=V1 hf
  have hk:k<ls.length:=by omega
  have hx:=Q7 hk
  have hxl:=hls _ (List.mem_of_getElem? hx)
  have hdr:=Z2 hx
  generalize ls[k]=x at hx hxl hdr
  have hxm:=(O08 (by omega) hxl).1
  have hlen:=O8 n s.2 hs.gd.1 hs.gd.2
  have hnx:=e03 q1 v x
  have hsn:=hs.add hf hn hv hxl
  obtain⟨t,et⟩:=a0e g v x s
  have ih:=j0m hf p hn ls hls hl v d (k+1) fuel (trS g v x s) hsn (by rw[et];exact List.mem_append_left _ hv) (by omega) (by omega)
  have hw:=hs.ok
  have hvr:=hs.gd.2 v hv
  rw[A2.eq_2,if_pos (by simp;omega),hdr,y09,←ih]
  simp only[d4 hx,oB,show(g.1,g.2.1,g.2.2)=g from rfl,D06 g v x hxm (by omega),H0 (S09 q1 q3.2 v x),J2 hk (show ls.length<=9223372036854775807 by omega)]
  unfold trS
  generalize j1 g v x=y at *
  by_cases c1:0<=y
  ·have hy:y<(n:Int):=by omega
   simp only[show decide (y ≥ 0)=true by simpa using c1,O1,giO hw.len c1 hy,oB,cond_true]
   by_cases c2:y∈s.2
   ·have : ¬ ((l6 s.1 y).isNone=true):=λh=>(hw.iff y c1 hy).1 h c2
    rw[if_neg this,if_neg λh=>h.2 c2]
   ·have:(l6 s.1 y).isNone=true:=(hw.iff y c1 hy).2 c2
    have hsh:=hw.short v
    rw[if_pos this,if_pos ⟨c1,c2⟩,giO hw.len hvr.1 hvr.2,oB,W0h (by omega),oB,H0 (by simp;omega),oB,H0 (by simp;omega),oB]
  ·simp only[show decide (y ≥ 0)=false by simpa using c1,n4,oB,cond_false]
   rw[if_neg (by simp),if_neg λh=>c1 h.1]
theorem k0m{g:j0}(hf:K0 g=true)(p:Int){n:Nat}(hn:g.2.1=(n:Int)):∀(f i fuel:Nat) (s:Tr8),TOk g p n s->i<=s.2.length->n+1<=i+f->f<fuel ->
  I3 g.1 g.2.1 g.2.2 fuel (i:Int) s.1 s.2=some (g03 g (I5 g.1.toNat 1) f i s)
 |f,i,0,s,hs,hi,hd,hf=>by omega
 |0,i,fuel+1,s,hs,hi,hd,hf=>by have:=O8 n s.2 hs.gd.1 hs.gd.2;omega
 |f+1,i,fuel+1,s,hs,hi,hd,hfu=>by
  obtain⟨q1,q2,q3,q4⟩:=V1 hf
  have hlen:=O8 n s.2 hs.gd.1 hs.gd.2
  rw[I3.eq_2,oB,H0 (by omega),oB]
  by_cases hk:i<s.2.length
  ·have hx:=Q7 hk
   generalize s.2[i]=v at hx
   have hv:=List.mem_of_getElem? hx
   have h0:=j0m hf p hn (I5 g.1.toNat 1) (λx hx=>hx) (by rw[t00];omega) v (I5 g.1.toNat 1).length 0 T0 s hs hv (by omega) (D1 (by rw[t00];omega))
   rw[show((0:Nat):Int)=0 from rfl,List.drop_zero]at h0
   obtain⟨t,e⟩:=N0f g v (I5 g.1.toNat 1) s
   have ih:=k0m hf p hn f (i+1) fuel _ (hs.inn hf hn _ hv λx hx=>hx) (by rw[e,List.length_append];omega) (by omega) (by omega)
   have hm:r7 g.1=some (I5 g.1.toNat 1):=by
    have:=H0g g.1.toNat (by omega)
    rwa [show((g.1.toNat:Nat):Int)=g.1 by omega]at this
   rw[if_pos (by simpa using hk),d4 hx,oB,hm,oB,h0,oB]
   simp only[J2 hk (show s.2.length<=9223372036854775807 by omega),g03,hx]
   exact ih
  ·have hx:s.2[i]?=none:=List.getElem?_eq_none (by omega)
   rw[if_neg (by simpa using hk)]
   simp only[g03,hx]
theorem O0f(ls:List Int)(r n:Int)(es:List I0)(v:Int):∀(fuel:Nat) (k:Int) (W:List (Option (List Int))) (u:List Int),A7 ls r n es v fuel k W u=A2 ls r n es v fuel k W u
 |0,k,W,u=>rfl
 |fuel+1,k,W,u=>by
  rw[A7.eq_2,A2.eq_2]
  simp only[O0f ls r n es v fuel]
theorem P0f(r n:Int)(es:List I0):∀(fuel:Nat) (k:Int) (W:List (Option (List Int))) (u:List Int),r8 r n es fuel k W u=I3 r n es fuel k W u
 |0,k,W,u=>rfl
 |fuel+1,k,W,u=>by
  rw[r8.eq_2,I3.eq_2]
  simp only[P0f r n es fuel,O0f]
theorem O0l{g:j0}(hf:K0 g=true){p:Int}(hp:0<=p/\p<g.2.1):Z00 g p=some (X0c g p,(n00 g p).1):=by
 obtain⟨q1,q2,q3,q4⟩:=V1 hf
 have hN:g.2.1=((g.2.1.toNat:Nat):Int):=by omega
 have h0:=k0m hf p hN (g.2.1.toNat+1) 0 T0 _ (P08 g (N:=g.2.1.toNat) ⟨hp.1,by omega⟩) (by simp) (by omega) (D1 (by omega))
 have hg0:gi (List.replicate g.2.1.toNat (none:Option (List Int))) p=some none:=by
  have:=d4 (xs:=List.replicate g.2.1.toNat (none:Option (List Int))) (k:=p.toNat) (x:=none) (by rw[List.getElem?_replicate,if_pos (by omega)])
  rwa [show((p.toNat:Nat):Int)=p by omega]at this
 rw[←H0k]
 unfold n00
 obtain⟨a,b,c⟩:=g
 simp only at *
 unfold Z00
 simp only
 rw[H0 (by omega),oB,hg0,oB,P0f]
 rw[show((0:Nat):Int)=0 from rfl]at h0
 rw[h0]
 rfl
def isS(o:Option (List Int)):Bool:=o.isSome
def gtD(o:Option (List Int)):List Int:=o.getD []
theorem giM{α β:Type}{f:α->β}{W:List α}{n:Nat}(hl:W.length=n){x:Int}(h0:0<=x)(h1:x<(n:Int)){y:α}(hy:gi W x=some y):gi (W.map f) x=some (f y):=by
 obtain⟨_,h2⟩:=M09 hy
 have:=d4 (xs:=W.map f) (k:=x.toNat) (x:=f y) (by rw[List.getElem?_map,h2];rfl)
 rwa [show((x.toNat:Nat):Int)=x by omega]at this
theorem K0k{g:j0}(hf:K0 g=true)(p:Int){n:Nat}(hn:g.2.1=(n:Int))(ls:List Int)(hls:∀ x∈ls,x∈I5 g.1.toNat 1)(hl:ls.length<=1000000)(i:Nat)(v:Int):∀(d k fuel:Nat) (s:Tr8),TOk g p n s->s.2[i]?=some v->k+d=ls.length->d<fuel ->
  S4 ls (i:Int) g.1 g.2.1 g.2.2 fuel (k:Int) (s.1.map isS) (s.1.map gtD) s.2=some ((y09 g v (ls.drop k) s).1.map isS,(y09 g v (ls.drop k) s).1.map gtD,(y09 g v (ls.drop k) s).2)
 |d,k,0,s,hs,hv,hd,hf=>by omega
 |0,k,fuel+1,s,hs,hv,hd,hf=>by
  rw[S4.eq_2,if_neg (by simp only[decide_eq_true_eq];omega),D2 (by omega)];rfl
 |d+1,k,fuel+1,s,hs,hi,hd,hfu=>by
  obtain⟨q1,q2,q3,q4⟩:=V1 hf
  have hk:k<ls.length:=by omega
  have hx:=Q7 hk
  have hxl:=hls _ (List.mem_of_getElem? hx)
  have hdr:=Z2 hx
  generalize ls[k]=x at hx hxl hdr
  have hxm:=(O08 (by omega) hxl).1
  have hlen:=O8 n s.2 hs.gd.1 hs.gd.2
  have hnx:=e03 q1 v x
  have hv:=List.mem_of_getElem? hi
  have hsn:=hs.add hf hn hv hxl
  obtain⟨t,et⟩:=a0e g v x s
  have ih:=K0k hf p hn ls hls hl i v d (k+1) fuel (trS g v x s) hsn (by rw[et,List.getElem?_append_left (List.getElem?_eq_some_iff.1 hi).1];exact hi) (by omega) (by omega)
  have hw:=hs.ok
  have hvr:=hs.gd.2 v hv
  have hsh:=hw.short v
  obtain⟨a,ha⟩:=hw.get hvr.1 hvr.2 hv
  have hva:gi s.1 v=some (some a):=by rw[giO hw.len hvr.1 hvr.2,ha]
  rw[ha]at hsh
  rw[S4.eq_2,if_pos (by simp only[decide_eq_true_eq];omega),hdr,y09,←ih]
  simp only[d4 hi,d4 hx,oB,show(g.1,g.2.1,g.2.2)=g from rfl,C06 g v x hxm (by omega),H0 (S09 q1 q3.2 v x),J2 hk (show ls.length<=9223372036854775807 by omega),giM (f:=gtD) hw.len hvr.1 hvr.2 hva]
  unfold trS
  generalize j1 g v x=y at *
  by_cases c1:0<=y
  ·have hy:y<(n:Int):=by omega
   have hgy:=giM (f:=isS) hw.len c1 hy (giO hw.len c1 hy)
   have hgw:=giM (f:=gtD) hw.len c1 hy (giO hw.len c1 hy)
   simp only[show decide (y ≥ 0)=true by simpa using c1,O1,hgy,hgw,oB,cond_true]
   by_cases c2:y∈s.2
   ·have:isS (l6 s.1 y)=true:=by
     have h2 : ¬ ((l6 s.1 y).isNone=true):=λh=>(hw.iff y c1 hy).1 h c2
     unfold isS
     cases e:l6 s.1 y with
     |none=>rw[e]at h2;exact absurd rfl h2
     |some b=>rfl
    rw[this,if_neg (by simp),if_neg λh=>h.2 c2]
   ·have:isS (l6 s.1 y)=false:=by
     have h2:(l6 s.1 y).isNone=true:=(hw.iff y c1 hy).2 c2
     unfold isS
     cases e:l6 s.1 y with
     |none=>rfl
     |some b=>rw[e]at h2;cases h2
    have hgd:gtD (some a)=a:=rfl
    simp only[Option.getD_some]at hsh
    rw[this,if_pos (by simp),if_pos ⟨c1,c2⟩,hgd,H0 (by omega),oB,H0 (by simp;omega),oB,H0 (by simp;omega),oB,ha]
    simp only[List.map_set,Option.getD_some]
    rfl
  ·simp only[show decide (y ≥ 0)=false by simpa using c1,n4,oB,cond_false]
   rw[if_neg (by simp),if_neg λh=>c1 h.1]
theorem L0k{g:j0}(hf:K0 g=true)(p:Int){n:Nat}(hn:g.2.1=(n:Int)):∀(f i fuel:Nat) (s:Tr8),TOk g p n s->i<=s.2.length->n+1<=i+f->f<fuel ->
  E6 (I5 g.1.toNat 1) g.1 g.2.1 g.2.2 fuel (i:Int) (s.1.map isS) (s.1.map gtD) s.2=some ((g03 g (I5 g.1.toNat 1) f i s).1.map isS,(g03 g (I5 g.1.toNat 1) f i s).1.map gtD,(g03 g (I5 g.1.toNat 1) f i s).2)
 |f,i,0,s,hs,hi,hd,hf=>by omega
 |0,i,fuel+1,s,hs,hi,hd,hf=>by have:=O8 n s.2 hs.gd.1 hs.gd.2;omega
 |f+1,i,fuel+1,s,hs,hi,hd,hfu=>by
  obtain⟨q1,q2,q3,q4⟩:=V1 hf
  have hlen:=O8 n s.2 hs.gd.1 hs.gd.2
  rw[E6.eq_2,oB,H0 (by omega),oB]
  by_cases hk:i<s.2.length
  ·have hx:=Q7 hk
   generalize s.2[i]=v at hx
   have hv:=List.mem_of_getElem? hx
   have h0:=K0k hf p hn (I5 g.1.toNat 1) (λx hx=>hx) (by rw[t00];omega) i v (I5 g.1.toNat 1).length 0 T0 s hs hx (by omega) (D1 (by rw[t00];omega))
   rw[show((0:Nat):Int)=0 from rfl,List.drop_zero]at h0
   obtain⟨t,e⟩:=N0f g v (I5 g.1.toNat 1) s
   have ih:=L0k hf p hn f (i+1) fuel _ (hs.inn hf hn _ hv λx hx=>hx) (by rw[e,List.length_append];omega) (by omega) (by omega)
   rw[if_pos (by simpa using hk),h0,oB]
   simp only[J2 hk (show s.2.length<=9223372036854775807 by omega),g03,hx]
   exact ih
  ·have hx:s.2[i]?=none:=List.getElem?_eq_none (by omega)
   rw[if_neg (by simpa using hk)]
   simp only[g03,hx]
theorem b0e{g:j0}(hf:K0 g=true){p:Int}(hp:0<=p/\p<g.2.1):r9 g p=some ((n00 g p).1.map isS,(n00 g p).1.map gtD):=by
 obtain⟨q1,q2,q3,q4⟩:=V1 hf
 have hN:g.2.1=((g.2.1.toNat:Nat):Int):=by omega
 have h0:=L0k hf p hN (g.2.1.toNat+1) 0 T0 _ (P08 g (N:=g.2.1.toNat) ⟨hp.1,by omega⟩) (by simp) (by omega) (D1 (by omega))
 have hlt:=I0g g.1.toNat (by omega)
 rw[show((g.1.toNat:Nat):Int)=g.1 by omega]at hlt
 have rep:∀ {α:Type} (z:α),gi (List.replicate g.2.1.toNat z) p=some z:=λz=>by
  have:=d4 (xs:=List.replicate g.2.1.toNat z) (k:=p.toNat) (x:=z) (by rw[List.getElem?_replicate,if_pos (by omega)])
  rwa [show((p.toNat:Nat):Int)=p by omega]at this
 have e1:((List.replicate g.2.1.toNat (none:Option (List Int))).set p.toNat (some [])).map isS=(List.replicate g.2.1.toNat false).set p.toNat true:=by
  rw[List.map_set,List.map_replicate];rfl
 have e2:((List.replicate g.2.1.toNat (none:Option (List Int))).set p.toNat (some [])).map gtD=(List.replicate g.2.1.toNat ([]:List Int)).set p.toNat []:=by
  rw[List.map_set,List.map_replicate];rfl
 rw[e1,e2]at h0
 unfold n00
 obtain⟨a,b,c⟩:=g
 simp only at *
 unfold r9
 simp only
 rw[H0 (by omega),oB,H0 (by omega),oB,rep false,oB,rep [],oB,hlt,oB]
 rw[show((0:Nat):Int)=0 from rfl]at h0
 rw[h0]
 rfl
def v05(g:j0)(u v:Int):List Int×Bool:=bif K0 g&&(inR 0 (g.2.1-1) u&&inR 0 (g.2.1-1) v)then(match l6 (n00 g u).1 v with
 |some w=>(w,true)
 |none=>([],false))else([],false)
theorem C0b{n u:Int}(h:inR 0 (n-1) u=true):0<=u/\u<n:=by
 simp only[inR,Bool.and_eq_true,decide_eq_true_eq]at h
 omega
theorem M0k(g:j0)(hg:Z0 g=true)(u:Int):U3 g u=some (inR 0 (g.2.1-1) u):=by
 obtain⟨q1,q2,q3,q4⟩:=T3 hg
 obtain⟨r,n,es⟩:=g
 simp only at q3
 unfold U3
 simp only[k05]
 rw[w64 (by omega) (by omega)]
 rfl
theorem Z0c{g:j0}(hf:K0 g=true){u v:Int}(hu:0<=u/\u<g.2.1):(gtD (l6 (n00 g u).1 v)).length<=40:=by
 obtain⟨q1,q2,q3,q4⟩:=V1 hf
 have h:=K07 hf hu
 have:=h.ok.short v
 have:=O8 _ _ h.gd.1 h.gd.2
 unfold gtD
 omega
theorem T0g(g:j0)(hl:g.2.2.length<=140737488355328)(u v:Int):L6 g u v=some (v05 g u v):=by
 have h1:=U00 g hl
 unfold v05
 cases hf:K0 g with
 |false =>
  obtain⟨a,b,c⟩:=g
  unfold L6
  simp only[h1,hf,oB,Bool.not_false,Bool.not_true,n4,cond_true]
  rfl
 |true =>
  obtain⟨q1,q2,q3,q4⟩:=V1 hf
  cases hu:inR 0 (g.2.1-1) u with
  |false =>
   obtain⟨a,b,c⟩:=g
   unfold L6
   simp only at hu q3
   simp only[h1,hf,oB,Bool.not_false,Bool.not_true,O1,cond_false,m03]
   rw[w64 (by omega) (by omega),hu]
   rfl
  |true =>
   cases hv:inR 0 (g.2.1-1) v with
   |false =>
    obtain⟨a,b,c⟩:=g
    unfold L6
    simp only at hu hv q3
    simp only[h1,hf,oB,Bool.not_false,Bool.not_true,O1,cond_false,m03]
    rw[w64 (by omega) (by omega),hu]
    simp only[Bool.not_true,Bool.not_false,oB,cond_false,O1,hv]
    rfl
   |true =>
    have hur:=C0b hu
    have hvr:=C0b hv
    have hs:=b0e hf hur
    have hok:=(K07 hf hur).ok
    have hg1:=giM (f:=isS) hok.len hvr.1 (by omega) (giO hok.len hvr.1 (by omega))
    have hg2:=giM (f:=gtD) hok.len hvr.1 (by omega) (giO hok.len hvr.1 (by omega))
    have hpl:=Z0c hf (v:=v) hur
    obtain⟨a,b,c⟩:=g
    unfold L6
    simp only at hu hv q3 hg1 hg2
    simp only[h1,hf,oB,Bool.not_false,Bool.not_true,O1,cond_false,m03]
    rw[w64 (by omega) (by omega),hu]
    simp only[Bool.not_true,Bool.not_false,oB,cond_false,O1,hv,Bool.false_eq_true,if_false,hs,hg1,hg2,Bool.and_self,cond_true]
    cases e:l6 (n00 (a,b,c) u).1 v with
    |none=>rfl
    |some w =>
     rw[e]at hpl
     have hw:gtD (some w)=w:=rfl
     rw[hw]at hpl ⊢
     rw[show isS (some w)=true from rfl,if_neg (by simp),H0 (by simp only[List.length_nil];omega),oB,List.nil_append]
theorem U0g(g:j0)(hl:g.2.2.length<=140737488355328)(u v:Int):M6 g u v=some (v05 g u v):=by
 have h1:=R9 g hl
 unfold v05
 cases hf:K0 g with
 |false =>
  obtain⟨a,b,c⟩:=g
  unfold M6
  simp only[h1,hf,oB,Bool.not_false,Bool.not_true,n4,cond_true]
  rfl
 |true =>
  obtain⟨q1,q2,q3,q4⟩:=V1 hf
  have hhu:=M0k g (R3 hf) u
  have hhv:=M0k g (R3 hf) v
  cases hu:inR 0 (g.2.1-1) u with
  |false =>
   obtain⟨a,b,c⟩:=g
   unfold M6
   simp only at hu hhu q3
   simp only[h1,hf,oB,Bool.not_false,Bool.not_true,O1,cond_false,hhu,hu]
   rfl
  |true =>
   cases hv:inR 0 (g.2.1-1) v with
   |false =>
    obtain⟨a,b,c⟩:=g
    unfold M6
    simp only at hu hv hhu hhv q3
    simp only[h1,hf,oB,Bool.not_false,Bool.not_true,O1,cond_false,hhu,hu,hhv,hv]
    rfl
   |true =>
    have hur:=C0b hu
    have hvr:=C0b hv
    have hs:=O0l hf hur
    have hok:=(K07 hf hur).ok
    have hg1:=giO hok.len hvr.1 (show v<((g.2.1.toNat:Nat):Int) by omega)
    obtain⟨a,b,c⟩:=g
    unfold M6
    simp only at hu hv hhu hhv q3 hg1
    simp only[h1,hf,oB,Bool.not_false,Bool.not_true,O1,cond_false,hhu,hu,hhv,hv,Bool.false_eq_true,if_false,hs,hg1,Bool.and_self,cond_true]
    cases e:l6 (n00 (a,b,c) u).1 v with
    |none=>rfl
    |some w=>rfl
def J7(g:j0)(v:Int):List Int:=(v05 g 0 v).1
theorem D0b(g:j0)(hl:g.2.2.length<=140737488355328)(v:Int):t9 g v=some (J7 g v):=by
 have h:=T0g g hl 0 v
 unfold J7
 obtain⟨a,b,c⟩:=g
 unfold t9
 simp only[h,oB]
theorem E0b(g:j0)(hl:g.2.2.length<=140737488355328)(v:Int):w9 g v=some (J7 g v):=by
 have h:=U0g g hl 0 v
 unfold J7
 obtain⟨a,b,c⟩:=g
 unfold w9
 simp only[h,oB]
theorem Q0f(g:j0)(u v:Int):(v05 g u v).1.length<=40:=by
 unfold v05
 cases hf:K0 g with
 |false=>simp
 |true =>
  cases hu:inR 0 (g.2.1-1) u with
  |false=>simp
  |true =>
   cases hv:inR 0 (g.2.1-1) v with
   |false=>simp
   |true =>
    have hpl:=Z0c hf (v:=v) (C0b hu)
    simp only[Bool.and_self,cond_true]
    cases e:l6 (n00 g u).1 v with
    |none=>simp
    |some w=>rw[e]at hpl;exact hpl
def V0g(l:List j0):Prop:=l.length<=1048576/\∀ g∈l,g.2.2.length<=140737488355328
theorem N0k{g:j0}(hf:K0 g=true){x:Int}(h:x∈I5 g.1.toNat 1):P0 x:=by
 obtain⟨j,h1,h2,h3⟩:=m0b _ _ _ h
 have:=(V1 hf).2.1
 unfold P0
 omega
theorem O0k{g:j0}(hf:K0 g=true){p:Int}(hp:0<=p/\p<g.2.1):∀(m:Nat) (y:Int),y∈(n00 g p).2->∀ a,l6 (n00 g p).1 y=some a->a.length<=m->p8 a
 |m,y,hy,a,ha,hm=>by
  have h:=K07 hf hp
  by_cases c:y=p
  ·rw[c,h.word]at ha;cases ha
   intro x hx;cases hx
  ·obtain⟨v,hv,x,hx,_,b,hb,hb2⟩:=h.par y hy c
   rw[hb2]at ha;cases ha
   cases m with
   |zero=>simp at hm
   |succ m =>
    have ih:=O0k hf hp m v hv b hb (by simp at hm;omega)
    exact P03 ih λz hz=>by rw[List.mem_singleton.1 hz];exact N0k hf hx
theorem t0n{g:j0}(hf:K0 g=true){v:Int}(hv:0<=v/\v<g.2.1):p8 (J7 g v):=by
 have q:=(V1 hf).2.2.1
 have h:=K07 hf (p:=0) (by omega)
 unfold J7 v05
 cases K0 g&&(inR 0 (g.2.1-1) 0&&inR 0 (g.2.1-1) v)
 ·intro x hx;cases hx
 ·rw[cond_true]
  cases e:l6 (n00 g 0).1 v with
  |none=>intro x hx;cases hx
  |some a =>
   have hm:v∈(n00 g 0).2:=Classical.byContradiction λhm=>by have:=(h.ok.iff v hv.1 (by omega)).2 hm;rw[e]at this;cases this
   exact O0k hf (by omega) a.length v hm a e (Nat.le_refl _)
theorem P0k{g:j0}(h:P1 g=true)(ls:List Int)(hls:∀ x∈ls,x∈I5 g.1.toNat 1)(hl:ls.length<=1000)(p:List Int)(hp:p.length<=1000){v:Int}(hr:∀ u,F04 g ls=some u->0<=u/\u<g.2.1):∀(d k fuel:Nat),k+d=ls.length->d<fuel->F04 g (ls.drop k)=some v->F04 g ls=some v ->
  ∃ x,P0 x/\d5 ls fuel (k:Int) g.1 g.2.1 g.2.2 p=some ((D6 g v).1,(D6 g v).2.1,(D6 g v).2.2,p ++ [x])
 |d,k,0,hd,hf,hv,hv0=>by omega
 |0,k,fuel+1,hd,hf,hv,hv0=>by rw[D2 (by omega)]at hv;cases hv
 |d+1,k,fuel+1,hd,hf,hv,hv0=>by
  have hk:k<ls.length:=by omega
  have hx:=Q7 hk
  have hm:=hls _ (List.mem_of_getElem? hx)
  rw[Z2 hx]at hv
  generalize ls[k]=x at hx hm hv
  have hff:=d8 h
  obtain⟨c1,c2,c3⟩:=o8 h
  have hn:=C06 g 0 x (D07 _ _ (by omega) x hm) (by omega)
  have h64:P0 (j1 g 0 x):=by
   rcases d9 g 0 x with⟨e,_⟩|e
   ·rw[e];decide
   ·obtain⟨f,hf2,hh⟩:=C3.1 e
    have:=(V1 hff).1 f hf2
    unfold P0
    rcases hh with⟨_,_,_,q⟩|⟨_,_,_,q⟩<;>rw[q]<;>omega
  have ih:=P0k h ls hls hl p hp (v:=v) hr d (k+1) fuel (by omega) (by omega)
  have hmv:=v0b hff (hr v hv0)
  rw[d5.eq_2,if_pos (by simp only[decide_eq_true_eq];omega)]
  obtain⟨g0,g1,g2⟩:=g
  simp only[d4 hx,oB,hn,H0 h64]
  unfold F04 at hv
  by_cases c:0<=j1 (g0,g1,g2) 0 x
  ·rw[if_pos c]at hv
   cases hv
   rw[if_pos (by simp only[decide_eq_true_eq];exact c),H0 (by simp only[List.length_singleton];omega),oB,hmv,oB]
   exact⟨x,N0k hff hm,rfl⟩
  ·rw[if_neg c]at hv
   rw[if_neg (by simp only[decide_eq_true_eq];exact c),J2 hk (by omega)]
   exact ih hv hv0
theorem Q0k{g:j0}(h:P1 g=true)(ls:List Int)(hls:∀ x∈ls,x∈I5 g.1.toNat 1)(hl:ls.length<=1000)(p:List Int)(hp:p.length<=1000){v:Int}(hr:∀ u,F04 g ls=some u->0<=u/\u<g.2.1):∀(d k fuel:Nat),k+d=ls.length->d<fuel->F04 g (ls.drop k)=some v->F04 g ls=some v ->
  ∃ x,P0 x/\j5 ls fuel (k:Int) g.1 g.2.1 g.2.2 p=some ((D6 g v).1,(D6 g v).2.1,(D6 g v).2.2,p ++ [x])
 |d,k,0,hd,hf,hv,hv0=>by omega
 |0,k,fuel+1,hd,hf,hv,hv0=>by rw[D2 (by omega)]at hv;cases hv
 |d+1,k,fuel+1,hd,hf,hv,hv0=>by
  have hk:k<ls.length:=by omega
  have hx:=Q7 hk
  have hm:=hls _ (List.mem_of_getElem? hx)
  rw[Z2 hx]at hv
  generalize ls[k]=x at hx hm hv
  have hff:=d8 h
  obtain⟨c1,c2,c3⟩:=o8 h
  have hn:=D06 g 0 x (D07 _ _ (by omega) x hm) (by omega)
  have h64:P0 (j1 g 0 x):=by
   rcases d9 g 0 x with⟨e,_⟩|e
   ·rw[e];decide
   ·obtain⟨f,hf2,hh⟩:=C3.1 e
    have:=(V1 hff).1 f hf2
    unfold P0
    rcases hh with⟨_,_,_,q⟩|⟨_,_,_,q⟩<;>rw[q]<;>omega
  have ih:=Q0k h ls hls hl p hp (v:=v) hr d (k+1) fuel (by omega) (by omega)
  have hmv:=w0b hff (hr v hv0)
  rw[j5.eq_2,if_pos (by simp only[decide_eq_true_eq];omega)]
  obtain⟨g0,g1,g2⟩:=g
  simp only[d4 hx,oB,hn,H0 h64]
  unfold F04 at hv
  by_cases c:0<=j1 (g0,g1,g2) 0 x
  ·rw[if_pos c]at hv
   cases hv
   rw[if_pos (by simp only[decide_eq_true_eq];exact c),hmv,oB]
   simp only
   rw[H0 (by simp only[List.length_singleton];omega),oB]
   exact⟨x,N0k hff hm,rfl⟩
  ·rw[if_neg c]at hv
   rw[if_neg (by simp only[decide_eq_true_eq];exact c),J2 hk (by omega)]
   exact ih hv hv0
theorem f0i(g:j0):L01 g=(decide (g.2.1>1)&&decide (((S7 0 g.2.2:Nat):Int)=1)):=by
 unfold L01
 congr 1
 exact decide_eq_decide.2 (by omega)
theorem R0k:∀(d:Nat) (g:j0) (k fuel:Nat) (p:List Int),P1 g=true->g.2.1<=(d:Int)+1->k+d<=40->d<fuel->p.length<=k->p8 p ->
  ∃ w,i5 fuel (k:Int) g.1 g.2.1 g.2.2 p=some ((p03 d g).1,(p03 d g).2.1,(p03 d g).2.2,w)/\w.length<=40/\p8 w
 |d,g,k,0,p,h,hn,hk,hf,hp,h64=>by omega
 |d,g,k,fuel+1,p,h,hn,hk,hf,hp,h64=>by
  obtain⟨c1,c2,c3⟩:=o8 h
  have hd:=y08 g 0 (by omega)
  have hcs:=f0i g
  have hl:=I0g g.1.toNat (by omega)
  rw[show((g.1.toNat:Nat):Int)=g.1 by omega]at hl
  have hdl:S7 0 g.2.2<=1000:=by
   have:∀ es:List I0,S7 0 es<=2*es.length:=λes=>by
    induction es with
    |nil=>exact Nat.le_refl _
    |cons x r ih =>
     simp only[S7,P0b,List.length_cons]
     split<;>split<;>omega
   have:=this g.2.2;omega
  have hll:=t00 g.1.toNat 1
  have hfin:∀ u,F04 g (I5 g.1.toNat 1)=some u->L01 g=true->0<=u/\u<g.2.1:=λu hu hc=>by
   obtain⟨v,a1,a2,a3⟩:=y0b h hc
   rw[a1]at hu;cases hu;exact a2
  rw[i5.eq_2]
  cases hc:L01 g
  ·have hcy:p03 d g=g:=by
    cases d with
    |zero=>rfl
    |succ d=>unfold p03;rw[hc];rfl
   rw[hcy]
   obtain⟨g0,g1,g2⟩:=g
   simp only at hcs hd c1 c2 c3 hdl
   refine⟨p,?_,by omega,h64⟩
   have hk40:(bif decide ((k:Int)<40)then decide (g1>1)else false)=(decide ((k:Int)<40)&&decide (g1>1)):=by cases decide ((k:Int)<40)<;>rfl
   rw[hk40]
   rw[hc]at hcs
   cases hb:(decide ((k:Int)<40)&&decide (g1>1))
   ·simp only[chk,cond_false,Bool.false_eq_true,if_false,oB]
    rw[H0 (by decide),oB]
   ·have hb2:decide (g1>1)=true:=(Bool.and_eq_true_iff.1 hb).2
    simp only[chk,if_true,hd,oB]
    rw[H0 (c64 (by omega) (by omega)),oB]
    rw[hb2,Bool.true_and]at hcs
    rw[←hcs]
    simp only[cond_true,Bool.false_eq_true,if_false]
  ·obtain⟨v,a1,a2,a3⟩:=y0b h hc
   have hsm:=J06 h hc a2 a3
   have hmc:=i02 (d8 h) a2
   cases d with
   |zero =>
    exfalso
    unfold L01 at hc
    simp only[Bool.and_eq_true,decide_eq_true_eq]at hc
    omega
   |succ d =>
    obtain⟨x,hx,hL⟩:=P0k h (I5 g.1.toNat 1) (λx hx=>hx) (by omega) p (by omega) (v:=v) (λu hu=>hfin u hu hc) (I5 g.1.toNat 1).length 0 T0 (by omega) (D1 (by omega)) (by rw[List.drop_zero];exact a1) a1
    obtain⟨w,hw,hw2,hw3⟩:=R0k d (D6 g v) (k+1) fuel (p ++ [x]) hmc (by omega) (by omega) (by omega) (by simp;omega) (P03 h64 λz hz=>by rw[List.mem_singleton.1 hz];exact hx)
    refine⟨w,?_,hw2,hw3⟩
    have hcy:p03 (d+1) g=p03 d (D6 g v):=by
     rw[p03,hc,cond_true,a1]
    rw[hcy]
    have hk40:decide ((k:Int)<40)=true:=decide_eq_true (by omega)
    rw[hc]at hcs
    have hcs:=hcs.symm
    rw[Bool.and_eq_true]at hcs
    obtain⟨g0,g1,g2⟩:=g
    simp only at hcs hd hl hL ⊢
    rw[hk40,hcs.1]
    simp only[chk,cond_true,if_true,hd,oB]
    rw[H0 (c64 (by simp only at hdl;omega) (by simp only at hdl;omega)),oB,hcs.2,if_pos rfl,hl,oB]
    rw[show((0:Nat):Int)=0 from rfl]at hL
    rw[hL,oB]
    simp only
    rw[show IntKind.i64.wrap ((k:Int)+1)=((k+1:Nat):Int) from J2 (show k<41 by omega) (by omega)]
    exact hw
theorem S0k:∀(d:Nat) (g:j0) (fuel:Nat) (p:List Int),P1 g=true->g.2.1<=(d:Int)+1->d<=40->d<fuel->p.length+d<=40->p8 p ->
  ∃ w,l5 fuel g.1 g.2.1 g.2.2 p=some ((p03 d g).1,(p03 d g).2.1,(p03 d g).2.2,w)/\w.length<=40/\p8 w
 |d,g,0,p,h,hn,hk,hf,hp,h64=>by omega
 |d,g,fuel+1,p,h,hn,hk,hf,hp,h64=>by
  obtain⟨c1,c2,c3⟩:=o8 h
  have hd:=A0c g 0 (by omega)
  have hcs:=f0i g
  have hl:=H0g g.1.toNat (by omega)
  rw[show((g.1.toNat:Nat):Int)=g.1 by omega]at hl
  have hdl:S7 0 g.2.2<=1000:=by
   have:∀ es:List I0,S7 0 es<=2*es.length:=λes=>by
    induction es with
    |nil=>exact Nat.le_refl _
    |cons x r ih =>
     simp only[S7,P0b,List.length_cons]
     split<;>split<;>omega
   have:=this g.2.2;omega
  have hll:=t00 g.1.toNat 1
  have hfin:∀ u,F04 g (I5 g.1.toNat 1)=some u->L01 g=true->0<=u/\u<g.2.1:=λu hu hc=>by
   obtain⟨v,a1,a2,a3⟩:=y0b h hc
   rw[a1]at hu;cases hu;exact a2
  rw[l5.eq_2]
  cases hc:L01 g
  ·have hcy:p03 d g=g:=by
    cases d with
    |zero=>rfl
    |succ d=>unfold p03;rw[hc];rfl
   rw[hcy]
   obtain⟨g0,g1,g2⟩:=g
   simp only at hcs hd c1 c2 c3 hdl
   refine⟨p,?_,by omega,h64⟩
   rw[hc]at hcs
   cases hb2:decide (g1>1)
   ·simp only[chk,cond_false,Bool.false_eq_true,if_false,oB]
    rw[H0 (by decide),oB]
   ·simp only[chk,if_true,hd,oB]
    rw[H0 (c64 (by omega) (by omega)),oB]
    rw[hb2,Bool.true_and]at hcs
    rw[←hcs]
    simp only[cond_true,Bool.false_eq_true,if_false]
  ·obtain⟨v,a1,a2,a3⟩:=y0b h hc
   have hsm:=J06 h hc a2 a3
   have hmc:=i02 (d8 h) a2
   cases d with
   |zero =>
    exfalso
    unfold L01 at hc
    simp only[Bool.and_eq_true,decide_eq_true_eq]at hc
    omega
   |succ d =>
    obtain⟨x,hx,hL⟩:=Q0k h (I5 g.1.toNat 1) (λx hx=>hx) (by omega) p (by omega) (v:=v) (λu hu=>hfin u hu hc) (I5 g.1.toNat 1).length 0 T0 (by omega) (D1 (by omega)) (by rw[List.drop_zero];exact a1) a1
    obtain⟨w,hw,hw2,hw3⟩:=S0k d (D6 g v) fuel (p ++ [x]) hmc (by omega) (by omega) (by omega) (by simp;omega) (P03 h64 λz hz=>by rw[List.mem_singleton.1 hz];exact hx)
    refine⟨w,?_,hw2,hw3⟩
    have hcy:p03 (d+1) g=p03 d (D6 g v):=by
     rw[p03,hc,cond_true,a1]
    rw[hcy]
    rw[hc]at hcs
    have hcs:=hcs.symm
    rw[Bool.and_eq_true]at hcs
    obtain⟨g0,g1,g2⟩:=g
    simp only at hcs hd hl hL ⊢
    rw[hcs.1]
    simp only[chk,cond_true,if_true,hd,oB]
    rw[H0 (c64 (by simp only at hdl;omega) (by simp only at hdl;omega)),oB,hcs.2,if_pos rfl,hl,oB]
    rw[show((0:Nat):Int)=0 from rfl]at hL
    rw[hL,oB]
    exact hw
theorem Q08(g:j0)(hl:g.2.2.length<=140737488355328):C6 g=some (P1 g):=by
 unfold C6
 simp only[U0d g hl,oB]
theorem a0d{g:j0}(h:P1 g=true):∃ w,U6 g=some (j01 g,w)/\w.length<=40/\p8 w:=by
 obtain⟨c1,c2,c3⟩:=o8 h
 have hi:=Q08 g (by omega)
 have hc:=n04 g (by omega)
 obtain⟨w,h1,h2,h3⟩:=R0k 40 g 0 T0 [] h (by omega) (by omega) (D1 (by omega)) (Nat.le_refl _) (λx hx=>nomatch hx)
 refine⟨w,?_,h2,h3⟩
 unfold j01
 rw[h,cond_true]
 rw[show((0:Nat):Int)=0 from rfl]at h1
 obtain⟨g0,g1,g2⟩:=g
 unfold U6
 simp only at h1
 simp only[hi,h,hc,oB,Bool.not_true,Bool.false_eq_true,if_false,h1]
theorem b0d{g:j0}(h:P1 g=true):∃ w,V6 g=some (j01 g,w)/\w.length<=40/\p8 w:=by
 obtain⟨c1,c2,c3⟩:=o8 h
 have hi:=q04 g (by omega)
 have hc:=u01 g (by omega)
 obtain⟨w,h1,h2,h3⟩:=S0k 40 g T0 [] h (by omega) (by omega) (D1 (by omega)) (by simp) (λx hx=>nomatch hx)
 refine⟨w,?_,h2,h3⟩
 unfold j01
 rw[h,cond_true]
 obtain⟨g0,g1,g2⟩:=g
 unfold V6
 simp only at h1
 simp only[hi,h,hc,oB,Bool.not_true,Bool.false_eq_true,if_false,h1]
theorem T0k(w s:List Int)(hw:p8 w)(hs:p8 s):p8 (K06 s w)/\(K06 s w).length<=s.length+w.length:=⟨d0i w s hs hw,J07 w s⟩
theorem U0k{x y:j0}(hx:P1 x=true){p q:List Int}(hp:p.length<=40/\p8 p)(hq:q.length<=40/\p8 q):∀(d v fuel:Nat),v+d=x.2.1.toNat->d<fuel ->
  ∃ r,E2 x.2.1 x.1 x.2.2 y.1 y.2.1 y.2.2 p q fuel (v:Int)=some r/\((∃ w,r = .inl (w,true))/\G02 x y d v=true∨r = .inr ()/\G02 x y d v=false)
 |d,v,0,hd,hf=>by omega
 |0,v,fuel+1,hd,hf=>by
  have c:=(o8 hx).2.1
  rw[E2.eq_2,if_neg (by simp only[decide_eq_true_eq];omega)]
  exact⟨_,rfl,.inr ⟨rfl,rfl⟩⟩
 |d+1,v,fuel+1,hd,hf=>by
  obtain⟨c1,c2,c3⟩:=o8 hx
  have hff:=d8 hx
  have hv:0<=(v:Int)/\(v:Int)<x.2.1:=by omega
  have hm:=v0b hff hv
  have hcm:=o8 (i02 hff hv)
  have he:=D0c (D6 x (v:Int)) y (by omega)
  have ht:=D0b x (by omega) (v:Int)
  have h64:=t0n hff hv
  have hlen:=Q0f x 0 (v:Int)
  have hlen2:(J7 x (v:Int)).length<=40:=hlen
  have hm1:=X01 p (J7 x (v:Int)) hp.2 h64 (by omega)
  have hr1:=T0k (p++J7 x (v:Int)) [] (P03 hp.2 h64) (λz hz=>nomatch hz)
  simp only[List.length_append,List.length_nil]at hr1
  have hiv:=O03 q (by omega)
  have hil:(inv q).length=q.length:=by simp[inv]
  have hm2:=X01 (K06 [] (p++J7 x (v:Int))).reverse (inv q) (f0j hr1.1) (J0m q) (by rw[List.length_reverse];omega)
  obtain⟨r,hr,hrr⟩:=U0k (y:=y) hx hp hq d (v+1) fuel (by omega) (by omega)
  rw[E2.eq_2,if_pos (by simp only[decide_eq_true_eq];omega)]
  unfold G02
  obtain⟨x0,x1,x2⟩:=x
  obtain⟨y0,y1,y2⟩:=y
  simp only at hr he ht hm c2 hd
  simp only[hm,he,oB]
  cases l05 (D6 (x0,x1,x2) (v:Int)) (y0,y1,y2)
  ·rw[if_neg (by simp),show IntKind.i64.wrap ((v:Int)+1)=((v+1:Nat):Int) from J2 (show v<x1.toNat by omega) (by omega),cond_false]
   exact⟨r,hr,hrr⟩
  ·rw[if_pos rfl,ht,oB,hm1,oB,hiv,oB,hm2,oB,cond_true]
   exact⟨_,rfl,.inl ⟨⟨_,rfl⟩,rfl⟩⟩
theorem V0k{x y:j0}(hx:P1 x=true){p q:List Int}(hp:p.length<=40/\p8 p)(hq:q.length<=40/\p8 q):∀(d v fuel:Nat),v+d=x.2.1.toNat->d<fuel ->
  ∃ r,I2 x.2.1 x.1 x.2.2 y.1 y.2.1 y.2.2 q p fuel (v:Int)=some r/\((∃ w,r = .inl (w,true))/\G02 x y d v=true∨r = .inr ()/\G02 x y d v=false)
 |d,v,0,hd,hf=>by omega
 |0,v,fuel+1,hd,hf=>by
  have c:=(o8 hx).2.1
  rw[I2.eq_2,if_neg (by simp only[decide_eq_true_eq];omega)]
  exact⟨_,rfl,.inr ⟨rfl,rfl⟩⟩
 |d+1,v,fuel+1,hd,hf=>by
  obtain⟨c1,c2,c3⟩:=o8 hx
  have hff:=d8 hx
  have hv:0<=(v:Int)/\(v:Int)<x.2.1:=by omega
  have hm:=w0b hff hv
  have hcm:=o8 (i02 hff hv)
  have he:=B0c (D6 x (v:Int)) y (by omega)
  have ht:=E0b x (by omega) (v:Int)
  have hlen:=Q0f x 0 (v:Int)
  have hlen2:(J7 x (v:Int)).length<=40:=hlen
  have hiv:=M08 q (by omega)
  have hil:(inv q).length=q.length:=by simp[inv]
  have hm2:=S0b [p,J7 x (v:Int),inv q] (by simp) (by simp only[G0k];omega)
  obtain⟨r,hr,hrr⟩:=V0k (y:=y) hx hp hq d (v+1) fuel (by omega) (by omega)
  rw[I2.eq_2,if_pos (by simp only[decide_eq_true_eq];omega)]
  unfold G02
  obtain⟨x0,x1,x2⟩:=x
  obtain⟨y0,y1,y2⟩:=y
  simp only at hr he ht hm c2 hd
  simp only[hm,he,oB]
  cases l05 (D6 (x0,x1,x2) (v:Int)) (y0,y1,y2)
  ·rw[if_neg (by simp),show IntKind.i64.wrap ((v:Int)+1)=((v+1:Nat):Int) from J2 (show v<x1.toNat by omega) (by omega),cond_false]
   exact⟨r,hr,hrr⟩
  ·rw[if_pos rfl,ht,oB,hiv,oB,hm2,oB,cond_true]
   exact⟨_,rfl,.inl ⟨⟨_,rfl⟩,rfl⟩⟩
theorem g0j(a b:j0)(ha:a.2.2.length<=140737488355328)(hb:b.2.2.length<=140737488355328):∃ w,T1 a b=some (w,g9 a b):=by
 have h1:=q04 a ha
 have h2:=q04 b hb
 have h3:=λh => @b0d a h
 have h4:=λh => @b0d b h
 have h5:=λh => @L08 a h
 unfold g9
 cases ca:P1 a
 ·refine⟨[],?_⟩
  rw[ca]at h1
  obtain⟨a0,a1,a2⟩:=a
  obtain⟨b0,b1,b2⟩:=b
  unfold T1
  simp[h1,n4]
 cases cb:P1 b
 ·refine⟨[],?_⟩
  rw[ca]at h1;rw[cb]at h2
  obtain⟨a0,a1,a2⟩:=a
  obtain⟨b0,b1,b2⟩:=b
  unfold T1
  simp[h1,h2,O1]
 by_cases cr:a.1=b.1
 ·obtain⟨p,hp1,hp2⟩:=h3 ca
  obtain⟨q,hq1,hq2⟩:=h4 cb
  have hcx:=(h5 ca).1
  obtain⟨r,hr,hrr⟩:=V0k (y:=j01 b) hcx hp2 hq2 (j01 a).2.1.toNat 0 T0 (by omega) (D1 (by have:=o8 hcx;omega))
  rw[show((0:Nat):Int)=0 from rfl]at hr
  rw[ca]at h1;rw[cb]at h2
  rw[decide_eq_true cr]
  generalize j01 a=x at hp1 hr hrr hcx
  generalize j01 b=y at hq1 hr hrr
  obtain⟨a0,a1,a2⟩:=a
  obtain⟨b0,b1,b2⟩:=b
  obtain⟨x0,x1,x2⟩:=x
  obtain⟨y0,y1,y2⟩:=y
  simp only at cr hr hrr
  rcases hrr with⟨⟨w,rfl⟩,e⟩|⟨rfl,e⟩
  ·refine⟨w,?_⟩
   unfold T1
   simp only[h1,h2,O1,oB,Bool.not_true,Bool.not_false,cond_false,decide_eq_true cr,Bool.false_eq_true,if_false,hp1,hq1,hr,Bool.and_self,cond_true,e]
   rfl
  ·refine⟨[],?_⟩
   unfold T1
   simp only[h1,h2,O1,oB,Bool.not_true,Bool.not_false,cond_false,decide_eq_true cr,Bool.false_eq_true,if_false,hp1,hq1,hr,Bool.and_self,cond_true,e]
   rfl
 ·refine⟨[],?_⟩
  rw[ca]at h1;rw[cb]at h2
  rw[decide_eq_false cr]
  obtain⟨a0,a1,a2⟩:=a
  obtain⟨b0,b1,b2⟩:=b
  simp only at cr
  unfold T1
  simp[h1,h2,O1,cr]
theorem h0j(a b:j0)(ha:a.2.2.length<=140737488355328)(hb:b.2.2.length<=140737488355328):∃ w,M1 a b=some (w,g9 a b):=by
 have h1:=Q08 a ha
 have h2:=Q08 b hb
 have h3:=λh => @a0d a h
 have h4:=λh => @a0d b h
 have h5:=λh => @L08 a h
 have h6:=λh => @L08 b h
 unfold g9
 cases ca:P1 a
 ·refine⟨[],?_⟩
  rw[ca]at h1
  obtain⟨a0,a1,a2⟩:=a
  obtain⟨b0,b1,b2⟩:=b
  unfold M1
  simp[h1,n4]
 cases cb:P1 b
 ·refine⟨[],?_⟩
  rw[ca]at h1;rw[cb]at h2
  obtain⟨a0,a1,a2⟩:=a
  obtain⟨b0,b1,b2⟩:=b
  unfold M1
  simp[h1,h2,O1]
 by_cases cr:a.1=b.1
 ·obtain⟨p,hp1,hp2⟩:=h3 ca
  obtain⟨q,hq1,hq2⟩:=h4 cb
  have hcx:=(h5 ca).1
  have hhalf:=U0c hcx (h5 ca).2 (h6 cb).2
  obtain⟨r,hr,hrr⟩:=U0k (y:=j01 b) hcx hp2 hq2 (j01 a).2.1.toNat 0 T0 (by omega) (D1 (by have:=o8 hcx;omega))
  rw[show((0:Nat):Int)=0 from rfl]at hr
  rw[ca]at h1;rw[cb]at h2
  rw[decide_eq_true cr]
  generalize j01 a=x at hp1 hr hrr hcx hhalf
  generalize j01 b=y at hq1 hr hrr hhalf
  obtain⟨a0,a1,a2⟩:=a
  obtain⟨b0,b1,b2⟩:=b
  obtain⟨x0,x1,x2⟩:=x
  obtain⟨y0,y1,y2⟩:=y
  simp only at cr hr hrr hhalf
  by_cases hs:x1=y1/\x2.length=y2.length
  ·have e1:decide (x1=y1)=true:=decide_eq_true hs.1
   have e2:decide (((x2.length:Nat):Int)=((y2.length:Nat):Int))=true:=decide_eq_true (by omega)
   rcases hrr with⟨⟨w,rfl⟩,e⟩|⟨rfl,e⟩
   ·refine⟨w,?_⟩
    unfold M1
    simp only[h1,h2,O1,oB,Bool.not_true,Bool.not_false,cond_false,decide_eq_true cr,Bool.false_eq_true,if_false,hp1,hq1,hr,Bool.and_self,cond_true,e,e1,e2]
    rfl
   ·refine⟨[],?_⟩
    unfold M1
    simp only[h1,h2,O1,oB,Bool.not_true,Bool.not_false,cond_false,decide_eq_true cr,Bool.false_eq_true,if_false,hp1,hq1,hr,Bool.and_self,cond_true,e,e1,e2]
    rfl
  ·refine⟨[],?_⟩
   have hno:G02 (x0,x1,x2) (y0,y1,y2) x1.toNat 0=false:=by
    cases hh:G02 (x0,x1,x2) (y0,y1,y2) x1.toNat 0
    ·rfl
    ·exact absurd (by have:=(hhalf hh).1;exact⟨this.1.symm,this.2.symm⟩) hs
   have e12:(bif !decide (x1=y1)then true else !decide (((x2.length:Nat):Int)=((y2.length:Nat):Int)))=true:=by
    by_cases q1:x1=y1
    ·rw[decide_eq_true q1,decide_eq_false (show ¬ ((x2.length:Nat):Int)=((y2.length:Nat):Int) from λk=>hs ⟨q1,by omega⟩)];rfl
    ·rw[decide_eq_false q1];rfl
   unfold M1
   simp only[h1,h2,O1,oB,Bool.not_true,Bool.not_false,cond_false,decide_eq_true cr,Bool.false_eq_true,if_false,hp1,hq1,Bool.and_self,cond_true,hno]
   rw[e12];rfl
 ·refine⟨[],?_⟩
  rw[ca]at h1;rw[cb]at h2
  rw[decide_eq_false cr]
  obtain⟨a0,a1,a2⟩:=a
  obtain⟨b0,b1,b2⟩:=b
  simp only at cr
  unfold M1
  simp[h1,h2,O1,cr]
def s09(l:List j0)(c:List Int):j0:=(l[(c.headD 0).toNat]?).getD (0,0,[])
def s04(l:List j0)(g:j0):List (List Int)->Bool
 | []=>false
 |c::r=>bif g9 g (s09 l c)then true else s04 l g r
def H02(l:List j0)(g:j0)(i:Int):List (List Int)->List (List Int)
 | []=>[]
 |c::r=>bif g9 g (s09 l c)then(c ++ [i])::r else c::H02 l g i r
def R0f(l:List j0):Nat->Nat->List (List Int)->List (List Int)
 |0,_,out=>out
 |d+1,k,out=>match l[k]? with
  |some g=>R0f l d (k+1) (bif s04 l g out then H02 l g (k:Int) out else out ++ [[(k:Int)]])
  |none=>out
def N05(l:List j0):List (List Int):=R0f l l.length 0 []
def okC(k:Nat)(c:List Int):Prop:=c.length<=k/\∃ j:Nat,j<k/\∃ r,c=(j:Int)::r
theorem okC.up{k:Nat}{c:List Int}(h:okC k c):okC (k+1) c:=by
 obtain⟨h1,j,h2,r,h3⟩:=h
 exact⟨by omega,j,by omega,r,h3⟩
theorem okC.app{k:Nat}{c:List Int}(h:okC k c)(i:Int):okC (k+1) (c ++ [i]):=by
 obtain⟨h1,j,h2,r,h3⟩:=h
 exact⟨by simp;omega,j,by omega,r ++ [i],by rw[h3];rfl⟩
theorem g0i{l:List j0}{g:j0}{i:Int}{k:Nat}:∀ {out:List (List Int)},(∀ c∈out,okC k c)->(∀ c∈H02 l g i out,okC (k+1) c)/\(H02 l g i out).length=out.length
 | [],h=>⟨λc hc=>(nomatch hc),rfl⟩
 |c::r,h=>by
  have hc:=h c mS
  have ih:=g0i (l:=l) (g:=g) (i:=i) (out:=r) λd hd=>h d (mC _ hd)
  unfold H02
  cases g9 g (s09 l c)
  ·rw[cond_false]
   refine⟨λd hd=>?_,by simp[ih.2]⟩
   rcases List.mem_cons.1 hd with rfl|hd
   ·exact hc.up
   ·exact ih.1 d hd
  ·rw[cond_true]
   refine⟨λd hd=>?_,by simp⟩
   rcases List.mem_cons.1 hd with rfl|hd
   ·exact hc.app i
   ·exact(h d (mC _ hd)).up
theorem h0i{A B:List (List Int)}{c d:List Int}:(A++c::B).set A.length d=A++d::B:=by simp
theorem i0i{A B:List (List Int)}{c:List Int}:gi (A++c::B) (A.length:Int)=some c:=d4 (by simp)
theorem S0f{l:List j0}{j:Nat}{r:List Int}{h:j0}(hj:l[j]?=some h):s09 l ((j:Int)::r)=h:=by
 unfold s09
 rw[List.headD_cons,Int.toNat_natCast,hj];rfl
theorem W0k(l:List j0)(hl:V0g l){i:Nat}{g:j0}(hg:l[i]?=some g):∀(B A:List (List Int)) (fuel:Nat),(∀ c∈B,okC i c)->A.length+B.length<=i->B.length+1<fuel ->
  C2 l (i:Int) fuel false (A.length:Int) (A++B)=some (s04 l g B,A++H02 l g (i:Int) B)
 |B,A,0,hB,hA,hf=>by omega
 | [],A,fuel+1,hB,hA,hf=>by
  have h1:=hl.1
  have hi:=(List.getElem?_eq_some_iff.1 hg).1
  rw[C2.eq_2]
  simp only[oB,List.append_nil]
  simp only[List.length_nil,Nat.add_zero]at hA
  rw[H0 (by omega),oB,decide_eq_false (show ¬ ((A.length:Nat):Int)<((A.length:Nat):Int) by omega)]
  simp only[cond_false,Bool.false_eq_true,if_false]
  unfold s04 H02
  rw[List.append_nil]
 |c::B,A,fuel+1,hB,hA,hf=>by
  have h1:=hl.1
  have hi:=(List.getElem?_eq_some_iff.1 hg).1
  simp only[List.length_cons]at hA hf
  obtain⟨q1,j,q2,r,rfl⟩:=hB c mS
  obtain⟨h,hj⟩:∃ h,l[j]?=some h:=⟨_,List.getElem?_eq_getElem (by omega)⟩
  have hgl:=hl.2 g (List.mem_of_getElem? hg)
  have hhl:=hl.2 h (List.mem_of_getElem? hj)
  obtain⟨w,hw⟩:=h0j h g hhl hgl
  have hlen:(A++((j:Int)::r)::B).length=A.length+B.length+1:=by simp;omega
  have hc:decide ((A.length:Int)<(((A++((j:Int)::r)::B).length:Nat):Int))=true:=decide_eq_true (by rw[hlen];omega)
  have ih:=W0k l hl hg B (A ++ [(j:Int)::r]) fuel (λd hd=>hB d (mC _ hd)) (by simp;omega) (by omega)
  rw[List.length_append,List.length_singleton,List.append_assoc,List.singleton_append]at ih
  rw[C2.eq_2]
  simp only[oB]
  rw[H0 (by rw[hlen];omega),oB,hc]
  simp only[cond_true,Bool.not_false,if_true]
  rw[i0i,oB,show gi ((j:Int)::r) 0=some (j:Int) from v08 rfl,oB,d4 hj,oB]
  unfold s04 H02
  rw[S0f hj,E0k g h]
  obtain⟨h0,h1',h2'⟩:=h
  obtain⟨g0,g1,g2⟩:=g
  simp only[d4 hg,oB,hw]
  have hw1:IntKind.i64.wrap ((A.length:Int)+1)=((A.length+1:Nat):Int):=J2 (show A.length<A.length+1 by omega) (by omega)
  cases g9 (h0,h1',h2') (g0,g1,g2)
  ·rw[if_neg (by simp),hw1,cond_false,cond_false,ih,List.append_assoc,List.singleton_append]
  ·simp only[List.length_cons]at q1
   rw[if_pos rfl,H0 (by simp),oB,H0 (by simp only[List.length_cons,List.length_nil];omega),oB,hw1,cond_true,cond_true,Int.toNat_natCast,h0i]
   obtain _|fuel:=fuel
   ·omega
   ·rw[C2.eq_2]
    simp only[oB]
    have hlen2:(A++((j:Int)::r ++ [(i:Int)])::B).length=A.length+B.length+1:=by simp;omega
    rw[H0 (by rw[hlen2];omega),oB,if_neg (by cases decide (((A.length+1:Nat):Int)<(((A++((j:Int)::r ++ [(i:Int)])::B).length:Nat):Int))<;>simp)]
theorem X0k(l:List j0)(hl:V0g l){i:Nat}{g:j0}(hg:l[i]?=some g):∀(B A:List (List Int)) (fuel:Nat),(∀ c∈B,okC i c)->A.length+B.length<=i->B.length+1<fuel ->
  D3 (A.length+B.length) l g.1 g.2.1 g.2.2 (i:Int) fuel false (A.length:Int) (A++B)=some (s04 l g B,A++H02 l g (i:Int) B)
 |B,A,0,hB,hA,hf=>by omega
 | [],A,fuel+1,hB,hA,hf=>by
  rw[D3.eq_2,if_neg (by simp)]
  unfold s04 H02
  rfl
 |c::B,A,fuel+1,hB,hA,hf=>by
  have h1:=hl.1
  have hi:=(List.getElem?_eq_some_iff.1 hg).1
  simp only[List.length_cons]at hA hf
  obtain⟨q1,j,q2,r,rfl⟩:=hB c mS
  obtain⟨h,hj⟩:∃ h,l[j]?=some h:=⟨_,List.getElem?_eq_getElem (by omega)⟩
  have hgl:=hl.2 g (List.mem_of_getElem? hg)
  have hhl:=hl.2 h (List.mem_of_getElem? hj)
  obtain⟨w,hw⟩:=g0j g h hgl hhl
  have ih:=X0k l hl hg B (A ++ [(j:Int)::r]) fuel (λd hd=>hB d (mC _ hd)) (by simp;omega) (by omega)
  rw[List.length_append,List.length_singleton,List.append_assoc,List.singleton_append]at ih
  rw[D3.eq_2,if_pos (by simp only[List.length_cons,decide_eq_true_eq];omega),i0i,oB,show gi ((j:Int)::r) 0=some (j:Int) from v08 rfl,oB,d4 hj,oB]
  unfold s04 H02
  rw[S0f hj]
  obtain⟨h0,h1',h2'⟩:=h
  obtain⟨g0,g1,g2⟩:=g
  simp only at ih ⊢
  simp only[oB,hw]
  have hw1:IntKind.i64.wrap ((A.length:Int)+1)=((A.length+1:Nat):Int):=J2 (show A.length<A.length+1 by omega) (by omega)
  cases g9 (g0,g1,g2) (h0,h1',h2')
  ·rw[if_neg (by simp),hw1,cond_false,cond_false,List.length_cons,show A.length+(B.length+1)=A.length+1+B.length by omega,ih,List.append_assoc,List.singleton_append]
  ·simp only[List.length_cons]at q1
   rw[if_pos rfl,H0 (by simp),oB,H0 (by simp only[List.length_cons,List.length_nil];omega),oB,cond_true,cond_true,Int.toNat_natCast,h0i]
theorem l0m{l:List j0}{g:j0}{k:Nat}{out:List (List Int)}(h:∀ c∈out,okC k c)(hk:out.length<=k):
  (∀ c∈(bif s04 l g out then H02 l g (k:Int) out else out ++ [[(k:Int)]]),okC (k+1) c)/\(bif s04 l g out then H02 l g (k:Int) out else out ++ [[(k:Int)]]).length<=k+1:=by
 cases s04 l g out
 ·rw[cond_false]
  refine⟨λc hc=>?_,by simp;omega⟩
  rcases List.mem_append.1 hc with hc|hc
  ·exact(h c hc).up
  ·rw[List.mem_singleton.1 hc]
   exact⟨by simp,k,by omega,[],rfl⟩
 ·rw[cond_true]
  have:=g0i (l:=l) (g:=g) (i:=(k:Int)) h
  exact⟨this.1,by omega⟩
theorem Y0k(l:List j0)(hl:V0g l):∀(d k fuel:Nat) (out:List (List Int)),k+d=l.length->d<fuel->(∀ c∈out,okC k c)->out.length<=k ->
  U2 l fuel (k:Int) out=some (R0f l d k out)
 |d,k,0,out,hd,hf,ho,hk=>by omega
 |0,k,fuel+1,out,hd,hf,ho,hk=>by
  rw[U2.eq_2,if_neg (by simp only[decide_eq_true_eq];omega)];rfl
 |d+1,k,fuel+1,out,hd,hf,ho,hk=>by
  have h1:=hl.1
  have hkl:k<l.length:=by omega
  have hg:=Q7 hkl
  generalize l[k]=g at hg
  have hn:=l0m (l:=l) (g:=g) ho hk
  have h0:=W0k l hl hg out [] T0 ho (by simp;omega) (D1 (by omega))
  rw[List.length_nil,List.nil_append,List.nil_append,show((0:Nat):Int)=0 from rfl]at h0
  have ih:=Y0k l hl d (k+1) fuel _ (by omega) (by omega) hn.1 hn.2
  rw[U2.eq_2,if_pos (by simp only[decide_eq_true_eq];omega),h0,oB]
  unfold R0f
  rw[hg,J2 hkl (by omega)]
  simp only
  cases ha:s04 l g out
  ·rw[ha,cond_false]at ih
   rw[cond_false]
   have hpt:H02 l g (k:Int) out=out:=by
    have:∀ o:List (List Int),s04 l g o=false->H02 l g (k:Int) o=o:=λo=>by
     induction o with
     |nil=>intro _;rfl
     |cons c r ih =>
      intro hh
      unfold s04 at hh
      unfold H02
      cases hc:g9 g (s09 l c)
      ·rw[hc,cond_false]at hh
       rw[cond_false,ih hh]
      ·rw[hc]at hh;cases hh
    exact this out ha
   rw[hpt]
   simp only[Bool.not_false,if_true]
   rw[H0 (by simp only[List.length_singleton];omega),oB,ih]
  ·rw[ha,cond_true]at ih
   rw[cond_true]
   simp only[Bool.not_true,Bool.false_eq_true,if_false]
   exact ih
theorem Z0k(l:List j0)(hl:V0g l):∀(d k fuel:Nat) (out:List (List Int)),k+d=l.length->d<fuel->(∀ c∈out,okC k c)->out.length<=k ->
  V2 l fuel (k:Int) out=some (R0f l d k out)
 |d,k,0,out,hd,hf,ho,hk=>by omega
 |0,k,fuel+1,out,hd,hf,ho,hk=>by
  rw[V2.eq_2,if_neg (by simp only[decide_eq_true_eq];omega)];rfl
 |d+1,k,fuel+1,out,hd,hf,ho,hk=>by
  have h1:=hl.1
  have hkl:k<l.length:=by omega
  have hg:=Q7 hkl
  generalize l[k]=g at hg
  have hn:=l0m (l:=l) (g:=g) ho hk
  have h0:=X0k l hl hg out [] T0 ho (by simp;omega) (D1 (by omega))
  rw[List.length_nil,List.nil_append,List.nil_append,show((0:Nat):Int)=0 from rfl,Nat.zero_add]at h0
  have ih:=Z0k l hl d (k+1) fuel _ (by omega) (by omega) hn.1 hn.2
  rw[V2.eq_2,if_pos (by simp only[decide_eq_true_eq];omega),d4 hg,oB]
  unfold R0f
  rw[hg,J2 hkl (by omega)]
  obtain⟨g0,g1,g2⟩:=g
  simp only at h0 ⊢
  rw[oB,H0 (by omega),oB,h0,oB]
  simp only
  cases ha:s04 l (g0,g1,g2) out
  ·rw[ha,cond_false]at ih
   rw[cond_false]
   have hpt:H02 l (g0,g1,g2) (k:Int) out=out:=by
    have:∀ o:List (List Int),s04 l (g0,g1,g2) o=false->H02 l (g0,g1,g2) (k:Int) o=o:=λo=>by
     induction o with
     |nil=>intro _;rfl
     |cons c r ih =>
      intro hh
      unfold s04 at hh
      unfold H02
      cases hc:g9 (g0,g1,g2) (s09 l c)
      ·rw[hc,cond_false]at hh
       rw[cond_false,ih hh]
      ·rw[hc]at hh;cases hh
    exact this out ha
   rw[hpt]
   simp only[Bool.not_false,if_true]
   rw[H0 (by simp only[List.length_singleton];omega),oB,ih]
  ·rw[ha,cond_true]at ih
   rw[cond_true]
   simp only[Bool.not_true,Bool.false_eq_true,if_false]
   exact ih
theorem T0b(l:List j0)(hl:V0g l):E7 l=some (N05 l):=by
 have h:=Y0k l hl l.length 0 T0 [] (by omega) (D1 (by have:=hl.1;omega)) (λc hc=>nomatch hc) (Nat.le_refl _)
 rw[show((0:Nat):Int)=0 from rfl]at h
 unfold E7
 rw[h];rfl
theorem U0b(l:List j0)(hl:V0g l):F7 l=some (N05 l):=by
 have h:=Z0k l hl l.length 0 T0 [] (by omega) (D1 (by have:=hl.1;omega)) (λc hc=>nomatch hc) (Nat.le_refl _)
 rw[show((0:Nat):Int)=0 from rfl]at h
 unfold F7
 rw[h];rfl
theorem T0f{l:List j0}{g:j0}{i:Int}:∀ out:List (List Int),N3 List.length (H02 l g i out)<=N3 List.length out+1
 | []=>by simp[H02,N3]
 |c::r=>by
  have:=T0f (l:=l) (g:=g) (i:=i) r
  unfold H02
  cases g9 g (s09 l c)
  ·simp only[cond_false,N3];omega
  ·simp only[cond_true,N3,List.length_append,List.length_singleton];omega
theorem j0i:∀ a b:List (List Int),N3 List.length (a++b)=N3 List.length a+N3 List.length b
 | [],b=>by simp[N3]
 |c::a,b=>by simp only[List.cons_append,N3,j0i a b];omega
theorem k0i(l:List j0):∀(d k:Nat) (out:List (List Int)),N3 List.length (R0f l d k out)<=N3 List.length out+d
 |0,k,out=>Nat.le_refl _
 |d+1,k,out=>by
  unfold R0f
  cases l[k]? with
  |none=>simp only;omega
  |some g =>
   simp only
   have ih:=k0i l d (k+1) (bif s04 l g out then H02 l g (k:Int) out else out ++ [[(k:Int)]])
   refine Nat.le_trans ih ?_
   cases s04 l g out
   ·rw[cond_false,j0i];simp[N3];omega
   ·rw[cond_true];have:=T0f (l:=l) (g:=g) (i:=(k:Int)) out;omega
end Go.Proofs.YtkjhghloldgioaaGreat
