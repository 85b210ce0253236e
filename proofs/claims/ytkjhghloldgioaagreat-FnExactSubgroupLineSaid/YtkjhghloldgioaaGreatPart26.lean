/- Texts of the claim, joined: Plain laws: the core of a folded graph is a core and others. -/
import Derived.Test.YtkjhghloldgioaaGreatPart25
import Derived.Test.YtkjhghloldgioaaGreatPart19
import Derived.Test.YtkjhghloldgioaaGreatH36
import Derived.Test.YtkjhghloldgioaaGreatPart20
import Derived.Test.YtkjhghloldgioaaGreatH43
namespace Go.Proofs.YtkjhghloldgioaaGreat
open Go.H
set_option linter.unusedVariables false
set_option linter.unusedSimpArgs false
theorem v0e:∀(d:Nat) {g:j0},G1 g=true->g.2.1.toNat<=d+1->C9 (J04 d g)=none
 |0,g,hg,hn=>by
  cases e:C9 g with
  |none=>exact e
  |some k=>have:=C0h e;omega
 |d+1,g,hg,hn=>by
  unfold J04
  cases e:C9 g with
  |none=>exact e
  |some k =>
   obtain⟨h1,h2,h3,h4⟩:=s0b hg e
   exact v0e d (g09 hg h1 h3 h4) (by show(((wo k g.2.1.toNat 0).length:Nat):Int).toNat<=d+1;omega)
theorem o0n{g:j0}(hf:D0 g=true){v x y z:Int}(hy:y∈U9 v x g.2.2)(hz:z∈U9 v x g.2.2):y=z:=by
 obtain⟨e,he,h1⟩:=M7.1 hy
 obtain⟨e',he',h2⟩:=M7.1 hz
 by_cases hne:e=e'
 ·subst hne
  rcases h1 with⟨a,b,c,rfl⟩|⟨a,b,c,rfl⟩<;>rcases h2 with⟨a',b',c',rfl⟩|⟨a',b',c',rfl⟩<;>first|rfl|omega
 ·have hc:=(r0b (V0 hf)).1 hf e he e' he' hne
  unfold G04 at hc
  simp only[Bool.and_eq_false_iff,Bool.or_eq_false_iff,decide_eq_false_iff_not]at hc
  rcases h1 with⟨a,b,c,d⟩|⟨a,b,c,d⟩<;>rcases h2 with⟨a',b',c',d'⟩|⟨a',b',c',d'⟩<;>first|omega|(exfalso;rcases hc with hc|⟨hc1,hc2⟩<;>omega)
theorem v06(g:j0)(v x:Int):(N0 g v x = -1/\U9 v x g.2.2 = [])∨N0 g v x∈U9 v x g.2.2:=by
 unfold N0
 cases e:u02 g v x with
 |nil =>
  left
  refine⟨rfl,List.eq_nil_iff_forall_not_mem.2 λy hy=>?_⟩
  have:y∈u02 g v x:=(Y00 m02 y _ _).2 (.inr hy)
  rw[e]at this;cases this
 |cons a l=>exact .inr (T0f (by rw[e];exact mS))
theorem m0a{g:j0}(hf:D0 g=true){v x y:Int}(hy:y∈U9 v x g.2.2):N0 g v x=y:=by
 rcases v06 g v x with⟨_,h⟩|h
 ·rw[h]at hy;cases hy
 ·exact o0n hf h hy
theorem w0e:∀(d i j:Nat),i<=j->j<i+d->(j:Int)∈T2 d i /\ -(j:Int)∈T2 d i
 |0,i,j,h1,h2=>by omega
 |d+1,i,j,h1,h2=>by
  simp only[T2,List.mem_cons]
  by_cases c:j=i
  ·subst c;simp
  ·obtain⟨a,b⟩:=w0e d (i+1) j (by omega) (by omega)
   exact⟨.inr (.inr a),.inr (.inr b)⟩
theorem m0g(g:j0)(v:Int):∀(ls u:List Int) (x:Int),x∈ls->0<=N0 g v x->N0 g v x∈p02 g v ls u
 |y::r,u,x,hx,h0=>by
  rw[p02]
  rcases List.mem_cons.1 hx with rfl|hx
  ·obtain⟨t,e⟩:=E02 g v r (O06 u (N0 g v x))
   rw[e]
   refine List.mem_append_left _ ?_
   unfold O06
   split
   ·exact List.mem_append_right _ (List.mem_singleton.2 rfl)
   ·rename_i h
    by_cases hm:N0 g v x∈u
    ·exact hm
    ·exact absurd ⟨h0,hm⟩ h
  ·exact m0g g v r _ x hx h0
theorem h09(g:j0)(ls:List Int):∀(f i:Nat) (u:List Int),∃ t,S8 g ls f i u=u++t
 |0,i,u=>⟨[],by simp[S8]⟩
 |f+1,i,u=>by
  unfold S8
  split
  ·rename_i v _
   obtain⟨t1,e1⟩:=E02 g v ls u
   obtain⟨t2,e2⟩:=h09 g ls f (i+1) (p02 g v ls u)
   exact⟨t1++t2,by rw[e2,e1,List.append_assoc]⟩
  ·exact⟨[],by simp⟩
theorem x0e{r:Int}{n:Nat}{es:List M0}(hg:inG (r,(n:Int),es))(ls:List Int):∀(f i:Nat) (u:List Int),gud n u->n+1<=f+i->i<=u.length ->
  (∀ j,j<i->∀ v,u[j]?=some v->∀ x∈ls,0<=N0 (r,(n:Int),es) v x->N0 (r,(n:Int),es) v x∈u) ->
  ∀ v∈S8 (r,(n:Int),es) ls f i u,∀ x∈ls,0<=N0 (r,(n:Int),es) v x->N0 (r,(n:Int),es) v x∈S8 (r,(n:Int),es) ls f i u
 |0,i,u,hu,hn,hi,hc=>by have:=Q8 n u hu.1 hu.2;omega
 |f+1,i,u,hu,hn,hi,hc=>by
  unfold S8
  cases e:u[i]? with
  |none =>
   have:i=u.length:=by have:=List.getElem?_eq_none_iff.1 e;omega
   show ∀ v∈u,∀ x∈ls,0<=N0 (r,(n:Int),es) v x->N0 (r,(n:Int),es) v x∈u
   intro v hv x hx h0
   obtain⟨j,hj⟩:=List.getElem?_of_mem hv
   exact hc j (by have:=(List.getElem?_eq_some_iff.1 hj).1;omega) v hj x hx h0
  |some w =>
   have hil:=(List.getElem?_eq_some_iff.1 e).1
   obtain⟨t,et⟩:=E02 (r,(n:Int),es) w ls u
   refine x0e hg ls f (i+1) _ (a04 hg w ls u hu) (by omega) (by rw[et,List.length_append];omega) λj hj v hv x hx h0=>?_
   by_cases c:j=i
   ·subst c
    rw[et,List.getElem?_append_left hil,e]at hv
    cases hv
    exact m0g _ _ ls u x hx h0
   ·rw[et,List.getElem?_append_left (by omega)]at hv
    rw[et]
    exact List.mem_append_left _ (hc j (by omega) v hv x hx h0)
theorem y0e(g:j0):∃ t,V5 g=0::t:=by
 obtain⟨t,e⟩:=h09 g (T2 g.1.toNat 1) (g.2.1.toNat+1) 0 [0]
 exact⟨t,e⟩
theorem w0j{g:j0}(hf:D0 g=true){x:Int}(h:Rch g.2.2 0 x):x∈V5 g:=by
 obtain⟨q1,q2,q3,q4⟩:=D1 hf
 have hz:=y0e g
 have hclo:∀ v∈V5 g,∀ x∈T2 g.1.toNat 1,0<=N0 g v x->N0 g v x∈V5 g:=by
  obtain⟨r,n,es⟩:=g
  simp only at q2 q3
  obtain⟨N,rfl⟩:∃ N:Nat,n=(N:Int):=⟨n.toNat,by omega⟩
  exact x0e q1 _ (((N:Int)).toNat+1) 0 [0] ⟨by simp,λx hx=>by simp at hx;subst hx;omega⟩ (by simp only[Int.toNat_natCast];omega) (Nat.zero_le _) (λj hj=>by omega)
 refine Rch.sub (P:=λx=>x∈V5 g) ?_ (λe he=>?_) h
 ·obtain⟨t,e⟩:=hz
  rw[e];exact mS
 ·have hq:=q1 e he
  obtain⟨j,hj⟩:∃ j:Nat,e.2.1=(j:Int):=⟨e.2.1.toNat,by omega⟩
  obtain⟨l1,l2⟩:=w0e g.1.toNat 1 j (by omega) (by omega)
  have n1:N0 g e.1 (j:Int)=e.2.2:=m0a hf (M7.2 ⟨e,he,.inl ⟨by omega,hj,rfl,rfl⟩⟩)
  have n2:N0 g e.2.2 (-(j:Int))=e.1:=m0a hf (M7.2 ⟨e,he,.inr ⟨by omega,by omega,rfl,rfl⟩⟩)
  constructor
  ·intro h1
   have:=hclo e.1 h1 (j:Int) l1 (by rw[n1];omega)
   rwa [n1]at this
  ·intro h1
   have:=hclo e.2.2 h1 (-(j:Int)) l2 (by rw[n2];omega)
   rwa [n2]at this
theorem T0c{bad:Nat->Bool}:∀ {d v:Nat},lf bad d v=none->∀ k,v<=k->k<v+d->bad k=false
 |0,v,h,k,h1,h2=>by omega
 |d+1,v,h,k,h1,h2=>by
  unfold lf at h
  cases hb:bad v with
  |true=>rw[hb]at h;cases h
  |false =>
   rw[hb]at h
   by_cases c:k=v
   ·rw[c];exact hb
   ·exact T0c (d:=d) (v:=v+1) h k (by omega) (by omega)
theorem z0e{bad:Nat->Bool}:∀ {d v:Nat},(∀ k,v<=k->k<v+d->bad k=false)->lf bad d v=none
 |0,v,h=>rfl
 |d+1,v,h=>by
  unfold lf
  rw[h v (Nat.le_refl _) (by omega)]
  exact z0e λk h1 h2=>h k (by omega) (by omega)
theorem p0n{g:j0}(hf:D0 g=true)(hl:C9 g=none){x:Int}(h0:0<=x)(h1:x<g.2.1):x∈V5 g:=by
 refine w0j hf ?_
 by_cases c:x=0
 ·subst c;exact .base
 ·have:=T0c hl x.toNat (by omega) (by omega)
  unfold i0a at this
  simp only[Bool.or_eq_false_iff,Bool.not_eq_false',decide_eq_true_eq]at this
  have h3:=this.2
  rw[show((x.toNat:Nat):Int)=x by omega]at h3
  exact(Z07 _ _ _).1 h3
theorem n0g{n:Nat}:∀(o:List Int) (k:Nat) (A:List Int),A.length=n->inV n o->o.Nodup->∀(i:Nat) (v:Int),o[i]?=some v->getI (Z00 A k o) v=((k+i:Nat):Int)
 | [],k,A,hA,ho,hd,i,v,hi=>by simp at hi
 |w::r,k,A,hA,ho,hd,i,v,hi=>by
  have hw:=ho w mS
  obtain⟨hd1,hd2⟩:=List.nodup_cons.1 hd
  cases i with
  |zero =>
   simp at hi;subst hi
   rw[Z00,i0e r _ _ w (by simp[hA]) (λu hu=>ho u (mC _ hu)) hw.1 hd1,z03 hw.1 (by omega) hw.1,if_pos rfl];rfl
  |succ i =>
   rw[Z00,n0g r (k+1) _ (by simp[hA]) (λu hu=>ho u (mC _ hu)) hd2 i v (by simpa using hi)]
   omega
theorem X0o{n:Nat}{o:List Int}(ho:inV n o)(hd:o.Nodup){i:Nat}{v:Int}(hi:o[i]?=some v):getI (plc n o) v=(i:Int):=by
 have:=n0g o 0 (List.replicate n (-1)) (by simp) ho hd i v hi
 rw[Nat.zero_add]at this;exact this
theorem L0k(P:List Int):∀(es:List M0),(∀ e∈es,0<=getI P e.1/\0<=getI P e.2.2)->pE P es=es.map λe=>(getI P e.1,e.2.1,getI P e.2.2)
 | [],h=>rfl
 |e::r,h=>by
  have h1:=h e mS
  unfold pE
  rw[show(decide (0<=getI P e.1)&&decide (0<=getI P e.2.2))=true by simp[h1.1,h1.2],L0k P r λe' he'=>h e' (mC _ he')]
  rfl
theorem o0g(e:M0):∀ {l:List M0},e ∉ l->(X00 C1 e l).Perm (e::l)
 | [],_=>List.Perm.refl _
 |y::l,h=>by
  have ih:=o0g e (l:=l) λhm=>h (mC _ hm)
  unfold X00
  split
  ·exact List.Perm.refl _
  ·split
   ·rename_i c
    exact absurd (S9.eq _ _ c) λhh=>h (by rw[hh];exact mS)
   ·exact(List.Perm.cons y ih).trans (List.Perm.swap e y l)
theorem k0c:∀(r acc:List M0),(acc++r).Nodup->(J7 C1 acc r).Perm (acc++r)
 | [],acc,h=>by simp[J7]
 |x::r,acc,h=>by
  have hm:(acc++x::r).Perm (x::(acc++r)):=List.perm_middle
  have hn:=hm.nodup_iff.1 h
  have hx:x ∉ acc:=λh1=>(List.nodup_cons.1 hn).1 (List.mem_append_left _ h1)
  have hp:=o0g x hx
  have hp2:(X00 C1 x acc++r).Perm (x::(acc++r)):=hp.append_right r
  rw[J7]
  exact((k0c r _ (hp2.nodup_iff.2 hn)).trans hp2).trans hm.symm
theorem q0n(v:Int){l l':List M0}(h:l.Perm l'):O02 v l=O02 v l':=by
 induction h with
 |nil=>rfl
 |cons x _ ih=>simp only[O02,ih]
 |swap x y l=>simp only[O02];omega
 |trans _ _ h1 h2=>rw[h1,h2]
theorem x0j{φ:Int->Int}{v:Int}:∀(es:List M0),(∀ e∈es,(φ e.1=φ v↔e.1=v)/\(φ e.2.2=φ v↔e.2.2=v))->O02 (φ v) (es.map λe=>(φ e.1,e.2.1,φ e.2.2))=O02 v es
 | [],h=>rfl
 |e::r,h=>by
  obtain⟨h1,h2⟩:=h e mS
  have ih:=x0j r λe' he'=>h e' (mC _ he')
  simp only[List.map_cons,O02,ih,H0o]
  congr 2
  ·by_cases c:e.1=v
   ·rw[if_pos (h1.2 c),if_pos c]
   ·rw[if_neg λq=>c (h1.1 q),if_neg c]
  ·by_cases c:e.2.2=v
   ·rw[if_pos (h2.2 c),if_pos c]
   ·rw[if_neg λq=>c (h2.1 q),if_neg c]
theorem Y0o:∀(m:Nat) (o:List Int),(∀ i:Nat,i<m->(i:Int)∈o)->m<=o.length
 |0,o,h=>Nat.zero_le _
 |m+1,o,h=>by
  have hm:=h m (by omega)
  have h1:=Y0o m (o.erase (m:Int)) λi hi=>(List.mem_erase_of_ne (by omega)).2 (h i (by omega))
  rw[List.length_erase_of_mem hm]at h1
  have:=List.length_pos_of_mem hm
  omega
theorem r0n{es:List M0}(hA:Asc C1 es):es.Nodup:=by
 refine List.Pairwise.imp (λ{a b} h e=>?_) hA
 rw[e,S9.refl]at h;omega
theorem y0j{es:List M0}(hA:Asc C1 es):J7 C1 [] es=es :=
 N0d S9 (q06 S9 _ _ .nil) hA λx=>by rw[Y00 S9];simp
theorem M0k{t:j0}(hf:D0 t=true)(hl:C9 t=none):V1 (K3 t)=true:=by
 have hg:=V0 hf
 obtain⟨q1,q2,q3,q4⟩:=D1 hf
 have hA:=l0g hg
 obtain⟨⟨hd,ho⟩,ho1⟩:=a08 hf
 have hlen:=Q8 _ _ hd ho
 have hall:∀ x:Int,0<=x->x<t.2.1->x∈V5 t:=λx h0 h1=>p0n hf hl h0 h1
 obtain⟨tl,hz⟩:=y0e t
 obtain⟨n,hn⟩:∃ n:Nat,t.2.1=(n:Int):=⟨t.2.1.toNat,by omega⟩
 have hnt:t.2.1.toNat=n:=by omega
 rw[hnt]at ho hlen
 have hol:(V5 t).length=n:=by
  have:=Y0o n (V5 t) λi hi=>hall _ (by omega) (by omega)
  omega
 let P:Int->Int:=getI (plc n (V5 t))
 have hP:∀(i:Nat) (v:Int),(V5 t)[i]?=some v->P v=(i:Int):=λi v hi=>X0o ho hd hi
 have hPr:∀ x:Int,0<=x->x<t.2.1->0<=P x/\P x<(n:Int):=λx h0 h1=>by
  obtain⟨i,hi⟩:=List.getElem?_of_mem (hall x h0 h1)
  have:=(List.getElem?_eq_some_iff.1 hi).1
  rw[hP i x hi];omega
 have hPi:∀ x y:Int,0<=x->x<t.2.1->0<=y->y<t.2.1->P x=P y->x=y:=λx y h0 h1 h2 h3 h=>B0h ho hd h0 h2 (hPr x h0 h1).1 h
 have hP0:P 0=0:=hP 0 0 (by rw[hz];rfl)
 have hpE:pE (plc n (V5 t)) t.2.2=t.2.2.map λe=>(P e.1,e.2.1,P e.2.2):=L0k _ _ λe he=>by
  have:=q1 e he
  exact⟨(hPr e.1 this.1.1 this.1.2).1,(hPr e.2.2 this.2.1.1 this.2.1.2).1⟩
 have hC:K3 t=(t.1,(n:Int),J7 C1 [] (t.2.2.map λe=>(P e.1,e.2.1,P e.2.2))):=by
  unfold K3 i8
  rw[hnt,hpE,hol]
 have hinjE:∀ e∈t.2.2,∀ e'∈t.2.2,((P e.1,e.2.1,P e.2.2):M0)=(P e'.1,e'.2.1,P e'.2.2)->e=e':=λe he e' he' h=>by
  have a:=q1 e he
  have b:=q1 e' he'
  simp only[Prod.mk.injEq]at h
  have h1:=hPi _ _ a.1.1 a.1.2 b.1.1 b.1.2 h.1
  have h2:=hPi _ _ a.2.1.1 a.2.1.2 b.2.1.1 b.2.1.2 h.2.2
  obtain⟨e0,e1,e2⟩:=e
  obtain⟨f0,f1,f2⟩:=e'
  simp only at h1 h2 h
  rw[h1,h2,h.2.1]
 have hmap:(t.2.2.map λe=>((P e.1,e.2.1,P e.2.2):M0)).Nodup:=by
  have:=r0n hA
  rw[List.Nodup,List.pairwise_map]
  exact List.Pairwise.imp_of_mem (λ{a b} ha hb h e=>h (hinjE a ha b hb e)) this
 have hmem:∀ e',e'∈(K3 t).2.2↔∃ e∈t.2.2,e'=(P e.1,e.2.1,P e.2.2):=λe'=>by
  rw[hC]
  simp only
  rw[Y00 S9]
  simp only[List.not_mem_nil,false_or,List.mem_map]
  exact⟨λ⟨e,h1,h2⟩=>⟨e,h1,h2.symm⟩,λ⟨e,h1,h2⟩=>⟨e,h1,h2.symm⟩⟩
 have hcf:D0 (K3 t)=true:=y07 hf (by rw[hnt];exact ho) hd ho1 (by omega)
 have hcg:=V0 hcf
 have hn1:(K3 t).2.1=(n:Int):=by rw[hC]
 have hdeg:∀ v:Int,0<=v->v<t.2.1->O02 (P v) (K3 t).2.2=O02 v t.2.2:=λv h0 h1=>by
  rw[hC]
  simp only
  rw[q0n _ (k0c _ [] (by simpa using hmap)),List.nil_append]
  refine x0j _ λe he=>?_
  have:=q1 e he
  exact⟨⟨λh=>hPi _ _ this.1.1 this.1.2 h0 h1 h,λh=>by rw[h]⟩,⟨λh=>hPi _ _ this.2.1.1 this.2.1.2 h0 h1 h,λh=>by rw[h]⟩⟩
 have hrch:∀ x,Rch t.2.2 0 x->Rch (K3 t).2.2 0 (P x):=λx hx =>
  Rch.sub (P:=λx=>Rch (K3 t).2.2 0 (P x)) (by show Rch _ 0 (P 0);rw[hP0];exact .base) (λe he=>Rch.closed (P e.1,e.2.1,P e.2.2) ((hmem _).2 ⟨e,he,rfl⟩)) hx
 have hleaf:C9 (K3 t)=none:=by
  unfold C9
  refine z0e λk k1 k2=>?_
  rw[hn1,Int.toNat_natCast]at k2
  obtain⟨v,hv⟩:∃ v,(V5 t)[k]?=some v:=⟨_,List.getElem?_eq_getElem (by omega)⟩
  have hvr:=ho v (List.mem_of_getElem? hv)
  have hPv:=hP k v hv
  have hv0:v≠0:=λh=>by rw[h,hP0]at hPv;omega
  have hb:=T0c hl v.toNat (by omega) (by omega)
  unfold i0a at hb ⊢
  rw[show((v.toNat:Nat):Int)=v by omega]at hb
  simp only[Bool.or_eq_false_iff,Bool.not_eq_false',decide_eq_true_eq,decide_eq_false_iff_not]at hb ⊢
  refine⟨?_,?_⟩
  ·rw[←hPv,hdeg v hvr.1 (by omega)];exact hb.1
  ·rw[←hPv]
   exact(Z07 _ _ _).2 (hrch v ((Z07 _ _ _).1 hb.2))
 have hnext:∀ v x:Int,0<=v->v<t.2.1->(N0 t v x = -1/\N0 (K3 t) (P v) x = -1)∨((0<=N0 t v x/\N0 t v x<t.2.1)/\N0 (K3 t) (P v) x=P (N0 t v x)):=λv x h0 h1=>by
  rcases v06 t v x with⟨e1,e2⟩|e1
  ·left
   refine⟨e1,?_⟩
   rcases v06 (K3 t) (P v) x with⟨c1,c2⟩|c1
   ·exact c1
   ·exfalso
    obtain⟨e',he',hh⟩:=M7.1 c1
    obtain⟨e,he,rfl⟩:=(hmem e').1 he'
    have hq:=q1 e he
    have:∃ y,y∈U9 v x t.2.2:=by
     rcases hh with⟨a,b,c,_⟩|⟨a,b,c,_⟩
     ·exact⟨_,M7.2 ⟨e,he,.inl ⟨a,b,hPi _ _ hq.1.1 hq.1.2 h0 h1 c,rfl⟩⟩⟩
     ·exact⟨_,M7.2 ⟨e,he,.inr ⟨a,b,hPi _ _ hq.2.1.1 hq.2.1.2 h0 h1 c,rfl⟩⟩⟩
    obtain⟨y,hy⟩:=this
    rw[e2]at hy;cases hy
  ·right
   generalize N0 t v x=y at e1
   obtain⟨e,he,hh⟩:=M7.1 e1
   have hq:=q1 e he
   rcases hh with⟨a,b,c,rfl⟩|⟨a,b,c,rfl⟩
   ·exact⟨hq.2.1,m0a hcf (M7.2 ⟨_,(hmem _).2 ⟨e,he,rfl⟩,.inl ⟨a,b,by show P e.1=P v;rw[c],rfl⟩⟩)⟩
   ·exact⟨hq.1,m0a hcf (M7.2 ⟨_,(hmem _).2 ⟨e,he,rfl⟩,.inr ⟨a,b,by show P e.2.2=P v;rw[c],rfl⟩⟩)⟩
 have inR':∀ u:List Int,gud n u->∀ x∈u,0<=x/\x<t.2.1:=λu hu x hx=>by have:=hu.2 x hx;omega
 have hgt:inG (t.1,(n:Int),t.2.2):=by
  have:=q1
  intro e he
  have:=q1 e he
  rw[hn]at this;exact this
 have het:(t.1,(n:Int),t.2.2)=t:=by
  rw[←hn]
 have hS:∀(u:List Int) (y z:Int),gud n u->(y = -1/\z = -1)∨((0<=y/\y<t.2.1)/\z=P y)->O06 (u.map P) z=(O06 u y).map P:=λu y z hu h=>by
  unfold O06
  rcases h with⟨rfl,rfl⟩|⟨⟨h0,h1⟩,rfl⟩
  ·rw[if_neg (by omega),if_neg (by omega)]
  ·have hm:P y∈u.map P↔y∈u:=by
    constructor
    ·intro h
     obtain⟨x,hx,e⟩:=List.mem_map.1 h
     have:=inR' u hu x hx
     rw[←hPi x y this.1 this.2 h0 h1 e];exact hx
    ·exact λh=>List.mem_map.2 ⟨y,h,rfl⟩
   by_cases c:y∈u
   ·rw[if_neg λq=>q.2 (hm.2 c),if_neg λq=>q.2 c]
   ·rw[if_pos ⟨(hPr y h0 h1).1,λq=>c (hm.1 q)⟩,if_pos ⟨h0,c⟩];simp
 have hIn:∀(v:Int),0<=v->v<t.2.1->∀(ls u:List Int),gud n u->p02 (K3 t) (P v) ls (u.map P)=(p02 t v ls u).map P:=λv h0 h1 ls=>by
  induction ls with
  |nil=>intro u hu;rfl
  |cons x l ih =>
   intro u hu
   have hx:N0 t v x = -1∨(0<=N0 t v x/\N0 t v x<(n:Int)):=by
    rcases hnext v x h0 h1 with⟨a,_⟩|⟨a,_⟩
    ·exact .inl a
    ·exact .inr (by omega)
   rw[p02,p02,hS u _ _ hu (hnext v x h0 h1),ih _ (Q0l hu hx)]
 have hOut:∀(f i:Nat) (u:List Int) (ls:List Int),gud n u->S8 (K3 t) ls f i (u.map P)=(S8 t ls f i u).map P:=λf=>by
  induction f with
  |zero=>intro i u ls hu;rfl
  |succ f ih =>
   intro i u ls hu
   unfold S8
   rw[List.getElem?_map]
   cases e:u[i]? with
   |none=>rfl
   |some v =>
    have hv:=inR' u hu v (List.mem_of_getElem? e)
    have hgi:gud n (p02 t v ls u):=by
     have:=a04 hgt v ls u hu
     rw[het]at this;exact this
    simp only[Option.map_some]
    rw[hIn v hv.1 hv.2 ls u hu]
    exact ih (i+1) _ ls hgi
 have hord:V5 (K3 t)=(V5 t).map P:=by
  have h1:(K3 t).1=t.1:=by rw[hC]
  have h2:=hOut (n+1) 0 [0] (T2 t.1.toNat 1) ⟨by simp,λx hx=>by simp at hx;subst hx;omega⟩
  rw[List.map_cons,List.map_nil,hP0]at h2
  show S8 (K3 t) (T2 (K3 t).1.toNat 1) ((K3 t).2.1.toNat+1) 0 [0]=(S8 t (T2 t.1.toNat 1) (t.2.1.toNat+1) 0 [0]).map P
  rw[h1,hn1,hnt,Int.toNat_natCast]
  exact h2
 have hiota:∀ i:Nat,i<n->(V5 (K3 t))[i]?=some (i:Int):=λi hi=>by
  rw[hord,List.getElem?_map]
  obtain⟨v,hv⟩:∃ v,(V5 t)[i]?=some v:=⟨_,List.getElem?_eq_getElem (by omega)⟩
  rw[hv,Option.map_some,hP i v hv]
 obtain⟨⟨hd2,ho2⟩,_⟩:=a08 hcf
 rw[hn1,Int.toNat_natCast]at ho2
 have hid:∀ x:Int,0<=x->x<(n:Int)->getI (plc n (V5 (K3 t))) x=x:=λx h0 h1=>by
  have:=X0o ho2 hd2 (hiota x.toNat (by omega))
  rw[show((x.toNat:Nat):Int)=x by omega]at this;exact this
 have hlen2:(V5 (K3 t)).length=n:=by rw[hord,List.length_map,hol]
 have hcin:=(F1 hcg).1
 have hcan:K3 (K3 t)=K3 t:=by
  have hpe:pE (plc n (V5 (K3 t))) (K3 t).2.2=(K3 t).2.2:=by
   rw[L0k _ _ λe he=>by
    have:=hcin e he
    rw[hn1]at this
    exact⟨by rw[hid _ this.1.1 this.1.2];exact this.1.1,by rw[hid _ this.2.1.1 this.2.1.2];exact this.2.1.1⟩]
   refine(List.map_congr_left λe he=>?_).trans (List.map_id _)
   have:=hcin e he
   rw[hn1]at this
   rw[hid _ this.1.1 this.1.2,hid _ this.2.1.1 this.2.1.2];rfl
  show i8 (K3 t) (V5 (K3 t))=K3 t
  unfold i8
  rw[hn1,Int.toNat_natCast,hpe,y0j (l0g hcg),hlen2]
  rw[←hn1]
 unfold V1
 rw[hcf,hleaf,hcan]
 simp[g0c]
theorem s0n{g:j0}(hf:D0 g=true):V1 (t0b g)=true:=by
 have hg:=V0 hf
 have:=(F1 hg).2.2.1
 exact M0k (V03 40 hf) (v0e 40 hg (by omega))
def ng(x:Int):Int:=IntKind.i64.wrap (0-x)
def inv(w:List Int):List Int:=(w.map ng).reverse
theorem U0c(w:List Int):(inv w).length=w.length:=by simp[inv]
def I08(w:List Int):Prop:=∀ x∈w,P0 x
theorem Z0o{w:List Int}{k:Nat}{x:Int}(hx:w[k]?=some x):inv (w.drop k)=inv (w.drop (k+1)) ++ [ng x]:=by
 rw[O1 hx]
 simp[inv]
theorem B03(w:List Int)(hl:w.length<=1099511627776):∀(k fuel:Nat),k<=w.length->k<fuel ->
  w4 w fuel ((k:Int)-1) (inv (w.drop k))=some (inv w)
 |k,0,hk,hf=>by omega
 |0,fuel+1,hk,hf=>by
  rw[w4.eq_2,if_neg (by simp)]
  rfl
 |k+1,fuel+1,hk,hf=>by
  have hx:=Y5 (show k<w.length by omega)
  have next:=B03 w hl k fuel (by omega) (by omega)
  generalize w[k]=x at hx
  rw[Z0o hx]at next
  have hlen:=U0c (w.drop (k+1))
  rw[List.length_drop]at hlen
  rw[show(((k+1:Nat):Int)-1)=(k:Int) by omega,w4.eq_2,if_pos (by simp),I2 hx,oB,C0 (by simp only[List.length_singleton];omega),oB,
   w64 (by omega) (by omega)]
  exact next
theorem R05(w:List Int)(hl:w.length<=1099511627776):d9 w=some (inv w):=by
 unfold d9
 have h:=B03 w hl w.length Q0 (Nat.le_refl _) (Y0 (by omega))
 rw[List.drop_length]at h
 rw[w64 (by omega) (by omega),show([]:F0)=inv [] from rfl,h]
 rfl
theorem P02(w:List Int):∀(fuel:Nat) (k:Int) (u:List Int),N6 w fuel k u=w4 w fuel k u
 |0,k,u=>rfl
 |fuel+1,k,u=>by
  rw[N6.eq_2,w4.eq_2]
  simp only[P02 w fuel]
theorem u0b(w:List Int)(hl:w.length<=1099511627776):m00 w=some (inv w):=by
 rw[←R05 w hl]
 unfold m00 d9
 rw[C0 (by omega),oB,P02]
 rfl
def A0e(l x:Int):Bool := !(l == 0) && !(l == -9223372036854775808)&&(x == ng l)
def v04(s:List Int)(x:Int):List Int:=match s with
 | []=>[x]
 |l::t=>bif A0e l x then t else x::l::t
def S05(s w:List Int):List Int:=w.foldl v04 s
def Red:List Int->Bool
 | []=>true
 | [_]=>true
 |x::l::t => !A0e l x&&Red (l::t)
theorem a0p(s a b:List Int):S05 s (a++b)=S05 (S05 s a) b:=List.foldl_append
theorem v0b(s:List Int)(x:Int):(v04 s x).length<=s.length+1:=by
 cases s with
 |nil=>simp[v04]
 |cons l t =>
  simp only[v04]
  cases A0e l x<;>simp<;>omega
theorem n0a:∀(w s:List Int),(S05 s w).length<=s.length+w.length
 | [],s=>by simp[S05]
 |x::w,s=>by
  have:=n0a w (v04 s x)
  have:=v0b s x
  simp only[S05,List.foldl_cons,List.length_cons]at *
  omega
theorem b0p{s:List Int}{x:Int}(h:I08 s)(hx:P0 x):I08 (v04 s x):=by
 cases s with
 |nil=>intro y hy;simp[v04]at hy;subst hy;exact hx
 |cons l t =>
  simp only[v04]
  cases A0e l x with
  |true=>exact λy hy=>h y (mC _ hy)
  |false =>
   intro y hy
   rcases List.mem_cons.1 hy with rfl|hy
   ·exact hx
   ·exact h y hy
theorem t0n{l x:Int}(hl:P0 l)(hx:P0 x):(!(x == 0)&&(l == ng x) && !(l == x))=A0e l x:=by
 unfold A0e ng
 have e:∀ {z:Int},P0 z->IntKind.i64.wrap (0-z)=if z = -9223372036854775808 then -9223372036854775808 else -z:=λ{z} hz=>by
  split
  ·rename_i h;subst h;decide
  ·rw[w64 (by have:=hz.1;have:=hz.2;omega) (by have:=hz.1;have:=hz.2;omega)];omega
 rw[e hl,e hx]
 have hl1:=hl.1
 have hl2:=hl.2
 have hx1:=hx.1
 have hx2:=hx.2
 rw[Bool.eq_iff_iff]
 simp only[Bool.and_eq_true,Bool.not_eq_true',beq_iff_eq,beq_eq_false_iff_ne,ne_eq]
 split<;>split<;>omega
theorem B0e{l:Int}{t:List Int}:(l::t).reverse[t.length]?=some l:=by
 rw[List.reverse_cons,List.getElem?_append_right (by simp)]
 simp
theorem p0g(l:Int)(t:List Int):(l::t).reverse.take t.length=t.reverse:=by
 rw[List.reverse_cons,List.take_append_of_le_length (by simp),List.take_of_length_le (by simp)]
theorem H02(w:List Int)(hw:I08 w)(hl:w.length<=1099511627776):∀(d k fuel:Nat) (s:List Int),k+d=w.length->d<fuel->I08 s->s.length<=k ->
  V3 w fuel (k:Int) s.reverse=some (S05 s (w.drop k)).reverse
 |d,k,0,s,hk,hf,hs,hsl=>by omega
 |0,k,fuel+1,s,hk,hf,hs,hsl=>by
  rw[V3.eq_2,if_neg (by simp;omega),K1 (by omega)]
  rfl
 |d+1,k,fuel+1,s,hk,hf,hs,hsl=>by
  have hkl:k<w.length:=by omega
  have hx:=Y5 hkl
  have hx64:=hw _ (List.mem_of_getElem? hx)
  generalize w[k]=x at hx hx64
  have next:=H02 w hw hl d (k+1) fuel (v04 s x) (by omega) (by omega) (b0p hs hx64) (by have:=v0b s x;omega)
  rw[O1 hx]
  show _=some (S05 (v04 s x) (w.drop (k+1))).reverse
  rw[←next,V3.eq_2,if_pos (by simp;omega),oB,C0 (by rw[List.length_reverse];omega),oB]
  rw[Z1 hkl (by omega:w.length<=9223372036854775807)]
  have e0:decide (x=0)=(x == 0):=by rw[Bool.eq_iff_iff];simp
  cases s with
  |nil =>
   have hz:decide ((((([]:List Int).reverse).length:Nat):Int)>0)=false:=rfl
   simp only[hz,C3,oB,cond_false,Bool.false_eq_true,if_false,I2 hx]
   rw[C0 (by simp)]
   rfl
  |cons l t =>
   have hl64:=hs l mS
   have hp:decide ((((l::t).reverse.length:Nat):Int)>0)=true:=by simp
   have hpr:IntKind.i64.wrap ((((l::t).reverse.length:Nat):Int)-1)=((t.length:Nat):Int):=by
    rw[Q0f (by simp) (by simp only[List.length_reverse,List.length_cons]at *;omega)];simp
   have hc:=t0n hl64 hx64
   have e1:decide (l=IntKind.i64.wrap (0-x))=(l == ng x):=by rw[Bool.eq_iff_iff];simp[ng]
   have e2:decide (l=x)=(l == x):=by rw[Bool.eq_iff_iff];simp
   have hpush:(grd (((l::t).reverse.length + [x].length)*8<=140737488355328))=some ():=C0 (by simp only[List.length_cons]at hsl;simp only[List.length_reverse,List.length_cons,List.length_nil];omega)
   simp only[hp,hpr,T1,oB,cond_true,I2 hx,I2 B0e,e0,v04]
   cases h0:(x == 0)with
   |true =>
    rw[h0]at hc
    simp only[Bool.not_true,Bool.false_and]at hc
    simp only[←hc,Bool.not_true,C3,cond_false,oB,Bool.false_eq_true,if_false,hpush]
    exact congrArg _ (List.reverse_cons ..).symm
   |false =>
    rw[h0]at hc
    simp only[Bool.not_false,Bool.true_and]at hc
    simp only[Bool.not_false,T1,cond_true,oB,e1]
    cases h1:(l == ng x)with
    |false =>
     rw[h1]at hc
     simp only[Bool.false_and]at hc
     simp only[←hc,C3,cond_false,oB,Bool.false_eq_true,if_false,hpush]
     exact congrArg _ (List.reverse_cons ..).symm
    |true =>
     rw[h1]at hc
     simp only[Bool.true_and]at hc
     simp only[T1,cond_true,oB,e2]
     cases h2:(l == x)with
     |true =>
      rw[h2]at hc
      simp only[Bool.not_true]at hc
      simp only[←hc,Bool.not_true,Bool.false_eq_true,if_false,cond_false,oB,hpush]
      exact congrArg _ (List.reverse_cons ..).symm
     |false =>
      rw[h2]at hc
      simp only[Bool.not_false]at hc
      simp only[←hc,Bool.not_false,if_true,cond_true]
      rw[C0 (by simp only[List.length_reverse,List.length_cons]at *;omega),oB,Int.toNat_natCast,p0g]
theorem l08(w:List Int)(hw:I08 w)(hl:w.length<=1099511627776):U8 w=some (S05 [] w).reverse:=by
 unfold U8
 have h:=H02 w hw hl w.length 0 Q0 [] (by omega) (Y0 (by omega)) (λx hx=>by cases hx) (by simp)
 rw[show((0:Nat):Int)=0 from rfl,List.drop_zero,List.reverse_nil]at h
 rw[h,oB,C0 (by have:=n0a w [];simp only[List.length_reverse,List.length_nil]at *;omega),oB,List.nil_append]
def d0c(g:j0)(w:List Int):Bool:=decide ((f0c g 0 w).2=w.length)&&decide ((f0c g 0 w).1=0)
theorem o6{g:j0}(h:V1 g=true):D0 g=true:=by
 unfold V1 at h
 simp only[Bool.and_eq_true]at h
 exact h.1
def rdw(g:j0):Int->List Int->Option Int
 |v,[]=>some v
 |v,x::w=>if N0 g v x<0 then none else rdw g (N0 g v x) w
theorem q0g(g:j0):∀(w:List Int) (v u:Int),rdw g v w=some u↔((f0c g v w).2=w.length/\(f0c g v w).1=u)
 | [],v,u=>by simp[rdw,f0c]
 |x::w,v,u=>by
  have ih:=q0g g w (N0 g v x) u
  unfold rdw f0c
  by_cases c:N0 g v x<0
  ·rw[if_pos c,if_pos c];simp
  ·rw[if_neg c,if_neg c,ih];simp
theorem u0n(g:j0)(w:List Int):d0c g w=true↔rdw g 0 w=some 0:=by
 unfold d0c
 rw[q0g];simp
theorem Z0l(g:j0):∀(a b:List Int) (v:Int),rdw g v (a++b)=(rdw g v a).bind λu=>rdw g u b
 | [],b,v=>rfl
 |x::a,b,v=>by
  have ih:=Z0l g a b (N0 g v x)
  show(if N0 g v x<0 then none else rdw g (N0 g v x) (a++b))=(if N0 g v x<0 then none else rdw g (N0 g v x) a).bind λu=>rdw g u b
  by_cases c:N0 g v x<0
  ·rw[if_pos c,if_pos c];rfl
  ·rw[if_neg c,if_neg c];exact ih
theorem c08{g:j0}(hf:D0 g=true){v x u:Int}(h:N0 g v x=u)(h0:0<=u):N0 g u (-x)=v:=by
 rcases v06 g v x with⟨e,_⟩|e
 ·omega
 ·rw[h]at e
  obtain⟨d,hd,h1⟩:=M7.1 e
  refine m0a hf (M7.2 ⟨d,hd,?_⟩)
  rcases h1 with⟨a,b,c,rfl⟩|⟨a,b,c,rfl⟩
  ·exact .inr ⟨by omega,by omega,rfl,c.symm⟩
  ·exact .inl ⟨by omega,b,rfl,c.symm⟩
structure Mor (a b:j0) (f:Int->Int):Prop where
 base:f 0=0
 rng:∀ v,0<=v->v<a.2.1->0<=f v/\f v<b.2.1
 step:∀ v x,0<=v->v<a.2.1->0<=N0 a v x->N0 b (f v) x=f (N0 a v x)
theorem Mor.rdw{a b:j0}{f:Int->Int}(m:Mor a b f)(ha:inG a):∀(w:List Int) (v u:Int),0<=v->v<a.2.1->rdw a v w=some u->rdw b (f v) w=some (f u)
 | [],v,u,h0,h1,h=>by
  simp only[Go.Proofs.YtkjhghloldgioaaGreat.rdw,Option.some.injEq]at h ⊢
  rw[h]
 |x::w,v,u,h0,h1,h=>by
  unfold Go.Proofs.YtkjhghloldgioaaGreat.rdw at h ⊢
  by_cases c:N0 a v x<0
  ·rw[if_pos c]at h;cases h
  ·rw[if_neg c]at h
   have hs:=m.step v x h0 h1 (by omega)
   have hr:0<=N0 a v x/\N0 a v x<a.2.1:=by
    rcases y00 ha v x with e|e
    ·omega
    ·exact e
   have hb:=m.rng _ hr.1 hr.2
   rw[hs,if_neg (by omega)]
   exact Mor.rdw m ha w _ u hr.1 hr.2 h
theorem Mor.loop{a b:j0}{f:Int->Int}(m:Mor a b f)(ha:D0 a=true){w:List Int}(h:d0c a w=true):d0c b w=true:=by
 obtain⟨q1,q2,q3,q4⟩:=D1 ha
 rw[u0n]at h ⊢
 have:=m.rdw q1 w 0 0 (iR _) (by omega) h
 rwa [m.base]at this
abbrev Im:=List Int×List Int
def N0k(s s':Im):Prop:=(∃ t,s'.2=s.2++t)/\∀ v∈s.2,getI s'.1 v=getI s.1 v
theorem N0k.refl(s:Im):N0k s s:=⟨⟨[],by simp⟩,λ_ _=>rfl⟩
theorem N0k.trans{s s' s'':Im}(h:N0k s s')(h':N0k s' s''):N0k s s'':=by
 obtain⟨⟨t,e⟩,f⟩:=h
 obtain⟨⟨t',e'⟩,f'⟩:=h'
 exact⟨⟨t++t',by rw[e',e,List.append_assoc]⟩,λv hv=>(f' v (by rw[e];exact List.mem_append_left _ hv)).trans (f v hv)⟩
def N0r(a b:j0)(v x:Int)(s:Im):Prop:=0<=N0 a v x->N0 a v x∈s.2/\N0 b (getI s.1 v) x=getI s.1 (N0 a v x)
theorem N0r.le{a b:j0}{v x:Int}{s s':Im}(hv:v∈s.2)(h:N0r a b v x s)(l:N0k s s'):N0r a b v x s':=λh0=>by
 obtain⟨h1,h2⟩:=h h0
 obtain⟨⟨t,e⟩,f⟩:=l
 exact⟨by rw[e];exact List.mem_append_left _ h1,by rw[f v hv,f _ h1];exact h2⟩
theorem v0n{g:j0}(h:V1 g=true):C9 g=none:=by
 unfold V1 at h
 simp only[Bool.and_eq_true,Option.isNone_iff_eq_none]at h
 exact h.2.1
theorem O0k{g:j0}(h:V1 g=true){x:Int}(h0:0<=x)(h1:x<g.2.1):Rch g.2.2 0 x:=by
 by_cases c:x=0
 ·subst c;exact .base
 ·have:=T0c (v0n h) x.toNat (by omega) (by omega)
  unfold i0a at this
  simp only[Bool.or_eq_false_iff,Bool.not_eq_false',decide_eq_true_eq]at this
  have h3:=this.2
  rw[show((x.toNat:Nat):Int)=x by omega]at h3
  exact(Z07 _ _ _).1 h3
theorem w0n{a b:List Int}(ha:I08 a)(hb:I08 b):I08 (a++b):=λx hx=>by
 rcases List.mem_append.1 hx with h|h
 ·exact ha x h
 ·exact hb x h
theorem L03(w:List Int)(hl:w.length<=1099511627776)(n0:Nat)(hn:n0<=1099511627776):∀(d k fuel:Nat) (s:List Int),k+d=w.length->d<fuel->s.length<=n0+k ->
  F6 w fuel (k:Int) s.reverse=some (S05 s (w.drop k)).reverse
 |d,k,0,s,hk,hf,hsl=>by omega
 |0,k,fuel+1,s,hk,hf,hsl=>by
  rw[F6.eq_2,if_neg (by simp;omega),K1 (by omega)]
  rfl
 |d+1,k,fuel+1,s,hk,hf,hsl=>by
  have hkl:k<w.length:=by omega
  have hx:=Y5 hkl
  generalize w[k]=x at hx
  have next:=L03 w hl n0 hn d (k+1) fuel (v04 s x) (by omega) (by omega) (by have:=v0b s x;omega)
  rw[O1 hx]
  show _=some (S05 (v04 s x) (w.drop (k+1))).reverse
  rw[←next,F6.eq_2,if_pos (by simp;omega),I2 hx,oB,oB,C0 (by rw[List.length_reverse];omega),oB,oB,oB]
  rw[Z1 hkl (by omega:w.length<=9223372036854775807)]
  cases s with
  |nil =>
   have hz:decide ((((([]:List Int).reverse).length:Nat):Int)>0)=false:=rfl
   simp only[hz,C3,oB,cond_false,Bool.false_eq_true,if_false]
   rw[C0 (by simp)]
   rfl
  |cons l t =>
   have hp:decide ((((l::t).reverse.length:Nat):Int)>0)=true:=by simp
   have hpr:IntKind.i64.wrap ((((l::t).reverse.length:Nat):Int)-1)=((t.length:Nat):Int):=by
    rw[Q0f (by simp) (by simp only[List.length_cons]at hsl;simp only[List.length_reverse,List.length_cons];omega)];simp
   have hpush:(grd (((l::t).reverse.length + [x].length)*8<=140737488355328))=some ():=C0 (by simp only[List.length_cons]at hsl;simp only[List.length_reverse,List.length_cons,List.length_nil];omega)
   have hlen:(grd ((l::t).reverse.length<=9223372036854775807))=some ():=C0 (by rw[List.length_reverse];omega)
   simp only[hp,hpr,T1,oB,cond_true,I2 B0e,p0h,v04]
   have hcc:(!(l == 0) && !(l == -9223372036854775808)&&(x == IntKind.i64.wrap (0-l)))=A0e l x:=rfl
   rw[hcc]
   cases hc:A0e l x with
   |true =>
    simp only[if_true,cond_true,hlen,oB]
    rw[C0 (by simp only[List.length_reverse,List.length_cons];omega),oB,Int.toNat_natCast,p0g]
   |false =>
    simp only[Bool.false_eq_true,if_false,cond_false,hpush,hlen,oB]
    exact congrArg _ (List.reverse_cons ..).symm
def c0p:List (List Int)->Nat
 | []=>0
 |w::r=>w.length+c0p r
def d0p(s:List Int):List (List Int)->List Int
 | []=>s
 |w::r=>d0p (S05 s w) r
theorem M03(ws:List (List Int))(hn:ws.length<=1099511627776):∀(d k fuel:Nat) (s:List Int),k+d=ws.length->d<fuel->s.length+c0p (ws.drop k)<=1099511627776 ->
  B7 ws fuel (k:Int) s.reverse=some (d0p s (ws.drop k)).reverse
 |d,k,0,s,hk,hf,hsl=>by omega
 |0,k,fuel+1,s,hk,hf,hsl=>by
  rw[B7.eq_2,if_neg (by simp;omega),K1 (by omega)]
  rfl
 |d+1,k,fuel+1,s,hk,hf,hsl=>by
  have hkl:k<ws.length:=by omega
  have hx:=Y5 hkl
  generalize ws[k]=w at hx
  rw[O1 hx]at hsl ⊢
  simp only[c0p]at hsl
  have hr:=n0a w s
  have h0:=L03 w (by omega) s.length (by omega) w.length 0 Q0 s (by omega) (Y0 (by omega)) (by omega)
  rw[show((0:Nat):Int)=0 from rfl,List.drop_zero]at h0
  rw[B7.eq_2,if_pos (by simp;omega),I2 hx,oB,h0,oB,Z1 hkl (by omega:ws.length<=9223372036854775807)]
  exact M03 ws hn d (k+1) fuel (S05 s w) (by omega) (by omega) (by omega)
theorem j0f(ws:List (List Int))(hn:ws.length<=1099511627776)(hl:c0p ws<=1099511627776):J00 ws=some (d0p [] ws).reverse:=by
 unfold J00
 have h:=M03 ws hn ws.length 0 Q0 [] (by omega) (Y0 (by omega)) (by simpa using hl)
 rw[show((0:Nat):Int)=0 from rfl,List.drop_zero,List.reverse_nil]at h
 rw[h]
 rfl
abbrev Tr8:=List (Option (List Int))×List Int
def trS(g:j0)(v x:Int)(s:Tr8):Tr8:=if 0<=N0 g v x/\N0 g v x ∉ s.2 then(s.1.set (N0 g v x).toNat (some ((L6 s.1 v).getD [] ++ [x])),s.2 ++ [N0 g v x])else s
def i09(g:j0)(v:Int):List Int->Tr8->Tr8
 | [],s=>s
 |x::r,s=>i09 g v r (trS g v x s)
def Q02(g:j0)(ls:List Int):Nat->Nat->Tr8->Tr8
 |0,i,s=>s
 |f+1,i,s=>match s.2[i]? with
  |some v=>Q02 g ls f (i+1) (i09 g v ls s)
  |none=>s
def A3(g:j0)(p:Int):List Int:=S8 g (T2 g.1.toNat 1) (g.2.1.toNat+1) 0 [p]
def z01(g:j0)(p:Int):Tr8:=Q02 g (T2 g.1.toNat 1) (g.2.1.toNat+1) 0 ((List.replicate g.2.1.toNat none).set p.toNat (some []),[p])
theorem a0m(g:j0)(v x:Int)(s:Tr8):(trS g v x s).2=O06 s.2 (N0 g v x):=by
 unfold trS O06
 split<;>rfl
theorem C0e(g:j0)(v:Int):∀(ls:List Int) (s:Tr8),(i09 g v ls s).2=p02 g v ls s.2
 | [],s=>rfl
 |x::r,s=>by rw[i09,C0e g v r,a0m];rfl
theorem r0g(g:j0)(ls:List Int):∀(f i:Nat) (s:Tr8),(Q02 g ls f i s).2=S8 g ls f i s.2
 |0,i,s=>rfl
 |f+1,i,s=>by
  unfold Q02 S8
  cases s.2[i]? with
  |none=>rfl
  |some v=>simp only[r0g g ls f,C0e]
theorem T05(g:j0)(p:Int):(z01 g p).2=A3 g p:=r0g _ _ _ _ _
structure TOk (g:j0) (p:Int) (n:Nat) (s:Tr8):Prop where
 ok:WOk n s.1 s.2
 gd:gud n s.2
 base:p∈s.2
 word:L6 s.1 p=some []
 par:∀ y∈s.2,y≠p->∃ v∈s.2,∃ x,x∈T2 g.1.toNat 1/\N0 g v x=y/\∃ a,L6 s.1 v=some a/\L6 s.1 y=some (a ++ [x])
 red:∀ y∈s.2,∀ a,L6 s.1 y=some a->Red a.reverse=true
theorem WOk.add{n:Nat}{W:List (Option (List Int))}{u:List Int}(hw:WOk n W u){y:Int}(c1:0<=y)(hy:y<(n:Int))(v x:Int):WOk n (W.set y.toNat (some ((L6 W v).getD [] ++ [x]))) (u ++ [y]):=by
 have hs:=hw.short v
 refine⟨by simp[hw.len],λz h0 h1=>?_,λz=>?_⟩
 ·rw[E00 c1 (by have:=hw.len;omega) h0]
  by_cases c:z=y
  ·rw[if_pos c];simp[c]
  ·rw[if_neg c,hw.iff z h0 h1];simp[c]
 ·by_cases hz:0<=z
  ·rw[E00 c1 (by have:=hw.len;omega) hz]
   by_cases c:z=y
   ·rw[if_pos c];simp;exact hs
   ·rw[if_neg c];have:=hw.short z;simp only[List.length_append];omega
  ·have hz0:L6 (W.set y.toNat (some ((L6 W v).getD [] ++ [x]))) z=L6 (W.set y.toNat (some ((L6 W v).getD [] ++ [x]))) 0:=by
    unfold L6;rw[show z.toNat=(0:Int).toNat by omega]
   rw[hz0,E00 c1 (by have:=hw.len;omega) (iR 0)]
   by_cases c:(0:Int)=y
   ·rw[if_pos c];simp;exact hs
   ·rw[if_neg c];have:=hw.short 0;simp only[List.length_append];omega
theorem WOk.get{n:Nat}{W:List (Option (List Int))}{u:List Int}(hw:WOk n W u){v:Int}(h0:0<=v)(h1:v<(n:Int))(hv:v∈u):∃ a,L6 W v=some a:=by
 cases e:L6 W v with
 |none=>exact absurd hv ((hw.iff v h0 h1).1 (by rw[e];rfl))
 |some a=>exact⟨a,rfl⟩
theorem c04{R:Nat}(hR:R<=900){x:Int}(hx:x∈T2 R 1):L7 x/\x≠0 /\ -(R:Int)<=x/\x<=(R:Int):=by
 obtain⟨j,k1,k2,k3⟩:=w07 _ _ _ hx
 exact⟨⟨⟨by omega,by omega⟩,by omega⟩,by omega,by omega,by omega⟩
theorem e0p{l x:Int}(hl:L7 l)(h:A0e l x=true):x = -l:=by
 unfold A0e at h
 simp only[Bool.and_eq_true,beq_iff_eq]at h
 rw[h.2];exact R0d hl.1 hl.2
theorem TOk.add{g:j0}(hf:D0 g=true){p:Int}{n:Nat}(hn:g.2.1=(n:Int)){s:Tr8}(h:TOk g p n s){v x:Int}(hv:v∈s.2)(hx:x∈T2 g.1.toNat 1):TOk g p n (trS g v x s):=by
 obtain⟨q1,q2,q3,q4⟩:=D1 hf
 unfold trS
 split
 ·rename_i c
  obtain⟨c1,c2⟩:=c
  have hyr:N0 g v x<(n:Int):=by
   rcases y00 q1 v x with e|e<;>omega
  obtain⟨W,u⟩:=s
  obtain⟨ok,gd,base,word,par,red⟩:=h
  simp only at hv c1 c2 ok gd base word par red ⊢
  have hvr:=gd.2 v hv
  obtain⟨a,ha⟩:=ok.get hvr.1 hvr.2 hv
  have hlen:=ok.len
  have keep:∀ z∈u,L6 (W.set (N0 g v x).toNat (some ((L6 W v).getD [] ++ [x]))) z=L6 W z:=λz hz=>by
   have:=gd.2 z hz
   rw[E00 c1 (by omega) this.1,if_neg λ(e:z=N0 g v x)=>c2 (by rw[←e];exact hz)]
  have new:L6 (W.set (N0 g v x).toNat (some ((L6 W v).getD [] ++ [x]))) (N0 g v x)=some (a ++ [x]):=by
   rw[E00 c1 (by omega) c1,if_pos rfl,ha];rfl
  refine⟨ok.add c1 hyr v x,⟨List.nodup_append.2 ⟨gd.1,by simp,λa ha b hb=>?_⟩,λy hy=>?_⟩,List.mem_append_left _ base,?_,λy hy hyp=>?_,λy hy b hb=>?_⟩
  ·simp at hb;subst hb;exact λe=>c2 (e▸ha)
  ·rcases List.mem_append.1 hy with hy|hy
   ·exact gd.2 y hy
   ·simp at hy;subst hy;omega
  ·rw[keep p base];exact word
  ·rcases List.mem_append.1 hy with hy|hy
   ·obtain⟨v',hv',x',hx',e1,b,e2,e3⟩:=par y hy hyp
    exact⟨v',List.mem_append_left _ hv',x',hx',e1,b,by rw[keep v' hv'];exact e2,by rw[keep y hy];exact e3⟩
   ·simp at hy;subst hy
    exact⟨v,List.mem_append_left _ hv,x,hx,rfl,a,by rw[keep v hv];exact ha,new⟩
  ·rcases List.mem_append.1 hy with hy|hy
   ·rw[keep y hy]at hb;exact red y hy b hb
   ·simp at hy;subst hy
    rw[new]at hb;cases hb
    have hra:=red v hv a ha
    rw[List.reverse_append]
    show Red (x::a.reverse)=true
    cases e:a.reverse with
    |nil=>rfl
    |cons l t =>
     rw[e]at hra
     unfold Red
     rw[hra,Bool.and_true]
     cases hc:A0e l x with
     |false=>rfl
     |true =>
      exfalso
      have hvp:v≠p:=λe2=>by
       subst e2
       rw[word]at ha;cases ha;simp at e
      obtain⟨v',hv',x',hx',e1,b,e2,e3⟩:=par v hv hvp
      rw[ha]at e3
      injection e3 with e3
      rw[e3,List.reverse_append]at e
      simp only[List.reverse_cons,List.reverse_nil,List.nil_append,List.cons_append,List.cons.injEq]at e
      rw[←e.1]at hc
      have:=e0p (c04 (by omega) hx').1 hc
      have hb:=c08 hf e1 hvr.1
      rw[←this]at hb
      exact c2 (hb▸hv')
 ·exact h
theorem V0c(g:j0)(v x:Int)(s:Tr8):∃ t,(trS g v x s).2=s.2++t:=by rw[a0m];exact k0e _ _
theorem D0e(g:j0)(v:Int)(ls:List Int)(s:Tr8):∃ t,(i09 g v ls s).2=s.2++t:=by rw[C0e];exact E02 _ _ _ _
theorem TOk.inn{g:j0}(hf:D0 g=true){p:Int}{n:Nat}(hn:g.2.1=(n:Int)){v:Int}:∀(ls:List Int) {s:Tr8},TOk g p n s->v∈s.2->(∀ x∈ls,x∈T2 g.1.toNat 1)->TOk g p n (i09 g v ls s)
 | [],s,h,hv,hl=>h
 |x::r,s,h,hv,hl=>by
  obtain⟨t,e⟩:=V0c g v x s
  exact TOk.inn hf hn r (h.add hf hn hv (hl x mS)) (by rw[e];exact List.mem_append_left _ hv) λy hy=>hl y (mC _ hy)
theorem TOk.out{g:j0}(hf:D0 g=true){p:Int}{n:Nat}(hn:g.2.1=(n:Int)):∀(f i:Nat) {s:Tr8},TOk g p n s->TOk g p n (Q02 g (T2 g.1.toNat 1) f i s)
 |0,i,s,h=>h
 |f+1,i,s,h=>by
  unfold Q02
  cases e:s.2[i]? with
  |none=>exact h
  |some v=>exact TOk.out hf hn f (i+1) (h.inn hf hn _ (List.mem_of_getElem? e) λx hx=>hx)
theorem f0p(N:Nat)(x:Int):L6 (List.replicate N (none:Option (List Int))) x=none:=by
 unfold L6
 rw[List.getD_eq_getElem?_getD,List.getElem?_replicate];split<;>rfl
theorem U05(g:j0){p:Int}{N:Nat}(hp:0<=p/\p<(N:Int)):TOk g p N ((List.replicate N none).set p.toNat (some []),[p]):=by
 have hset:∀ x,0<=x->L6 ((List.replicate N (none:Option (List Int))).set p.toNat (some [])) x=if x=p then some []else none:=λx h0=>by
  rw[E00 hp.1 (by simp;omega) h0,f0p]
 refine⟨⟨by simp,λx h0 h1=>?_,λx=>?_⟩,⟨by simp,λx hx=>by simp at hx;subst hx;exact hp⟩,by simp,?_,λy hy h=>?_,λy hy a ha=>?_⟩
 ·simp only
  rw[hset x h0]
  by_cases c:x=p
  ·rw[if_pos c];simp[c]
  ·rw[if_neg c];simp[c]
 ·have:∀ x,0<=x->((L6 ((List.replicate N (none:Option (List Int))).set p.toNat (some [])) x).getD []).length<=1:=λx h0=>by
   rw[hset x h0];split<;>simp
  by_cases hz:0<=x
  ·exact this x hz
  ·have e:L6 ((List.replicate N (none:Option (List Int))).set p.toNat (some [])) x=L6 ((List.replicate N (none:Option (List Int))).set p.toNat (some [])) 0:=by
    unfold L6;rw[show x.toNat=(0:Int).toNat by omega]
   simp only
   rw[e];exact this 0 (iR 0)
 ·simp only
  rw[hset p hp.1,if_pos rfl]
 ·simp at hy;exact absurd hy h
 ·simp at hy;subst hy
  simp only at ha
  rw[hset y hp.1,if_pos rfl]at ha
  cases ha;rfl
theorem w06{g:j0}(hf:D0 g=true){p:Int}(hp:0<=p/\p<g.2.1):TOk g p g.2.1.toNat (z01 g p):=by
 obtain⟨q1,q2,q3,q4⟩:=D1 hf
 exact TOk.out hf (by omega) _ _ (U05 g ⟨hp.1,by omega⟩)
theorem b0r{g:j0}(hf:D0 g=true)(p:Int){n:Nat}(hn:g.2.1=(n:Int))(ls:List Int)(hls:∀ x∈ls,x∈T2 g.1.toNat 1)(hl:ls.length<=1000000)(v:Int):∀(d k fuel:Nat) (s:Tr8),TOk g p n s->v∈s.2->k+d=ls.length->d<fuel ->
  Q2 ls g.1 g.2.1 g.2.2 v fuel (k:Int) s.1 s.2=some (i09 g v (ls.drop k) s)
 |d,k,0,s,hs,hv,hd,hf=>by omega
 |0,k,fuel+1,s,hs,hv,hd,hf=>by
  rw[Q2.eq_2,if_neg (by simp;omega),K1 (by omega)];rfl
 |d+1,k,fuel+1,s,hs,hv,hd,hfu=>by
  obtain⟨q1,q2,q3,q4⟩:=D1 hf
  have hk:k<ls.length:=by omega
  have hx:=Y5 hk
  have hxl:=hls _ (List.mem_of_getElem? hx)
  have hdr:=O1 hx
  generalize ls[k]=x at hx hxl hdr
  have hxm:=(c04 (by omega) hxl).1
  have hlen:=Q8 n s.2 hs.gd.1 hs.gd.2
  have hnx:=y00 q1 v x
  have hsn:=hs.add hf hn hv hxl
  obtain⟨t,et⟩:=V0c g v x s
  have ih:=b0r hf p hn ls hls hl v d (k+1) fuel (trS g v x s) hsn (by rw[et];exact List.mem_append_left _ hv) (by omega) (by omega)
  have hw:=hs.ok
  have hvr:=hs.gd.2 v hv
  rw[Q2.eq_2,if_pos (by simp;omega),hdr,i09,←ih]
  simp only[I2 hx,oB,show(g.1,g.2.1,g.2.2)=g from rfl,i03 g v x hxm (by omega),C0 (C01 q1 q3.2 v x),Z1 hk (show ls.length<=9223372036854775807 by omega)]
  unfold trS
  generalize N0 g v x=y at *
  by_cases c1:0<=y
  ·have hy:y<(n:Int):=by omega
   simp only[show decide (y ≥ 0)=true by simpa using c1,T1,giO hw.len c1 hy,oB,cond_true]
   by_cases c2:y∈s.2
   ·have : ¬ ((L6 s.1 y).isNone=true):=λh=>(hw.iff y c1 hy).1 h c2
    rw[if_neg this,if_neg λh=>h.2 c2]
   ·have:(L6 s.1 y).isNone=true:=(hw.iff y c1 hy).2 c2
    have hsh:=hw.short v
    rw[if_pos this,if_pos ⟨c1,c2⟩,giO hw.len hvr.1 hvr.2,oB,T0l (by omega),oB,C0 (by simp;omega),oB,C0 (by simp;omega),oB]
  ·simp only[show decide (y ≥ 0)=false by simpa using c1,C3,oB,cond_false]
   rw[if_neg (by simp),if_neg λh=>c1 h.1]
theorem g0p{g:j0}(hf:D0 g=true)(p:Int){n:Nat}(hn:g.2.1=(n:Int)):∀(f i fuel:Nat) (s:Tr8),TOk g p n s->i<=s.2.length->n+1<=i+f->f<fuel ->
  S3 g.1 g.2.1 g.2.2 fuel (i:Int) s.1 s.2=some (Q02 g (T2 g.1.toNat 1) f i s)
 |f,i,0,s,hs,hi,hd,hf=>by omega
 |0,i,fuel+1,s,hs,hi,hd,hf=>by have:=Q8 n s.2 hs.gd.1 hs.gd.2;omega
 |f+1,i,fuel+1,s,hs,hi,hd,hfu=>by
  obtain⟨q1,q2,q3,q4⟩:=D1 hf
  have hlen:=Q8 n s.2 hs.gd.1 hs.gd.2
  rw[S3.eq_2,oB,C0 (by omega),oB]
  by_cases hk:i<s.2.length
  ·have hx:=Y5 hk
   generalize s.2[i]=v at hx
   have hv:=List.mem_of_getElem? hx
   have h0:=b0r hf p hn (T2 g.1.toNat 1) (λx hx=>hx) (by rw[R8];omega) v (T2 g.1.toNat 1).length 0 Q0 s hs hv (by omega) (Y0 (by rw[R8];omega))
   rw[show((0:Nat):Int)=0 from rfl,List.drop_zero]at h0
   obtain⟨t,e⟩:=D0e g v (T2 g.1.toNat 1) s
   have ih:=g0p hf p hn f (i+1) fuel _ (hs.inn hf hn _ hv λx hx=>hx) (by rw[e,List.length_append];omega) (by omega) (by omega)
   have hm:W4 g.1=some (T2 g.1.toNat 1):=by
    have:=v0h g.1.toNat (by omega)
    rwa [show((g.1.toNat:Nat):Int)=g.1 by omega]at this
   rw[if_pos (by simpa using hk),I2 hx,oB,hm,oB,h0,oB]
   simp only[Z1 hk (show s.2.length<=9223372036854775807 by omega),Q02,hx]
   exact ih
  ·have hx:s.2[i]?=none:=List.getElem?_eq_none (by omega)
   rw[if_neg (by simpa using hk)]
   simp only[Q02,hx]
def x06(g:j0)(p:Int):List (List Int):=(z01 g p).1.map λo=>o.getD []
theorem E0e{g:j0}(hf:D0 g=true){p:Int}(hp:0<=p/\p<g.2.1):S6 g p=some (A3 g p,x06 g p):=by
 obtain⟨q1,q2,q3,q4⟩:=D1 hf
 have hN:g.2.1=((g.2.1.toNat:Nat):Int):=by omega
 have h0:=g0p hf p hN (g.2.1.toNat+1) 0 Q0 _ (U05 g (N:=g.2.1.toNat) ⟨hp.1,by omega⟩) (by simp) (by omega) (Y0 (by omega))
 have hg0:gi (List.replicate g.2.1.toNat (none:Option (List Int))) p=some none:=by
  have:=I2 (xs:=List.replicate g.2.1.toNat (none:Option (List Int))) (k:=p.toNat) (x:=none) (by rw[List.getElem?_replicate,if_pos (by omega)])
  rwa [show((p.toNat:Nat):Int)=p by omega]at this
 rw[←T05]
 unfold x06 z01
 obtain⟨a,b,c⟩:=g
 simp only at *
 unfold S6
 simp only
 rw[C0 (by omega),oB,hg0,oB]
 rw[show((0:Nat):Int)=0 from rfl]at h0
 rw[h0]
 rfl
theorem s0g(g:j0):∀ d k,(H08 g d k).length<=d*(T2 g.1.toNat 1).length
 |0,k=>Nat.zero_le _
 |d+1,k=>by
  have h1:=b08 g (k:Int) (T2 g.1.toNat 1)
  have h2:=s0g g d (k+1)
  rw[H08,List.length_append,Nat.succ_mul]
  omega
theorem l0c{g:j0}(hf:D0 g=true):(F00 g).length<=1000:=by
 obtain⟨q1,q2,q3,q4⟩:=D1 hf
 have h:=s0g g g.2.1.toNat 0
 rw[R8]at h
 unfold F00
 have h2:g.2.1.toNat*(2*g.1.toNat)<=40*(2*3):=Nat.mul_le_mul (by omega) (by omega)
 omega
def D9(g:j0):Bool:=V1 g&&decide ((F00 g).length=0)
theorem A0q(n:Nat):decide (((n:Nat):Int)=0)=decide (n=0):=by
 by_cases c:n=0
 ·rw[decide_eq_true c,decide_eq_true (by omega)]
 ·rw[decide_eq_false c,decide_eq_false (by omega)]
theorem w01{g:j0}(h:V1 g=true):D0 g=true:=by
 unfold V1 at h
 simp only[Bool.and_eq_true]at h
 exact h.1
theorem i05(g:j0)(hl:g.2.2.length<=140737488355328):r6 g=some (D9 g):=by
 have h1:=t06 g hl
 have h2:V1 g=true->T7 g=some (F00 g):=λc=>h0f (w01 c)
 have h3:V1 g=true->(F00 g).length<=1000:=λc=>l0c (w01 c)
 unfold D9
 obtain⟨a,b,c⟩:=g
 unfold r6 N3
 simp only[h1,oB]
 cases e:V1 (a,b,c)with
 |false=>rfl
 |true =>
  have:=h3 e
  simp only[T1,h2 e,oB,cond_true,Bool.true_and]
  rw[C0 (by omega),oB,A0q]
theorem z07(g:j0)(hl:g.2.2.length<=140737488355328):t6 g=some (D9 g):=by
 have h1:=a01 g hl
 have h2:V1 g=true->S7 g=some (F00 g):=λc=>i0f (w01 c)
 have h3:V1 g=true->(F00 g).length<=1000:=λc=>l0c (w01 c)
 unfold D9
 obtain⟨a,b,c⟩:=g
 unfold t6
 simp only[h1,oB]
 cases e:V1 (a,b,c)with
 |false=>rfl
 |true =>
  have:=h3 e
  simp only[T1,h2 e,oB,cond_true,Bool.true_and]
  rw[C0 (by omega),oB,A0q]
theorem A07{g:j0}(h:D9 g=true):V1 g=true:=by
 unfold D9 at h
 simp only[Bool.and_eq_true]at h
 exact h.1
def I06(g:j0)(v:Int):List Int:=v::wo v.toNat g.2.1.toNat 0
def s05(g:j0)(v:Int):j0:=t0b (i8 g (I06 g v))
theorem h0p(g:Nat):∀(d k:Nat),(g:Int) ∉ wo g d k
 |0,k,h=>nomatch h
 |d+1,k,h=>by
  unfold wo at h
  split at h
  ·exact h0p g d (k+1) h
  ·rcases List.mem_cons.1 h with h|h
   ·omega
   ·exact h0p g d (k+1) h
theorem F0e{g:j0}(hf:D0 g=true){v:Int}(hv:0<=v/\v<g.2.1):inV g.2.1.toNat (I06 g v)/\(I06 g v).Nodup/\(I06 g v).length=g.2.1.toNat:=by
 obtain⟨q1,q2,q3,q4⟩:=D1 hf
 refine⟨λx hx=>?_,?_,?_⟩
 ·rcases List.mem_cons.1 hx with rfl|hx
  ·omega
  ·exact c0j _ _ _ _ (by omega) x hx
 ·refine List.nodup_cons.2 ⟨λh=>?_,x07 _ _ _⟩
  have:=h0p v.toNat g.2.1.toNat 0
  rw[show((v.toNat:Nat):Int)=v by omega]at this
  exact this h
 ·unfold I06
  rw[List.length_cons,o0e,if_pos (by omega)]
  omega
theorem w0b{g:j0}(hf:D0 g=true){v:Int}(hv:0<=v/\v<g.2.1):D0 (i8 g (I06 g v))=true:=by
 obtain⟨q1,q2,q3,q4⟩:=D1 hf
 obtain⟨h1,h2,h3⟩:=F0e hf hv
 exact y07 hf h1 h2 (by omega) (by omega)
theorem t0g{g:j0}(hf:D0 g=true){v:Int}(hv:0<=v/\v<g.2.1):V1 (s05 g v)=true:=s0n (w0b hf hv)
theorem i0p(n:Nat)(v:Int)(h0:0<=v)(hn:n<=1000):∀(d k fuel:Nat) (acc:List Int),k+d=n->d<fuel->acc.length<=k+1 ->
  I4 (n:Int) v fuel (k:Int) acc=some (acc++wo v.toNat d k)
 |d,k,0,acc,hd,hf,ha=>by omega
 |0,k,fuel+1,acc,hd,hf,ha=>by
  rw[I4.eq_2,if_neg (by simp only[decide_eq_true_eq];omega)];simp[wo]
 |d+1,k,fuel+1,acc,hd,hf,ha=>by
  have ih:=λacc' h=>i0p n v h0 hn d (k+1) fuel acc' (by omega) (by omega) h
  rw[I4.eq_2,if_pos (by simp only[decide_eq_true_eq];omega),Z1 (show k<10000 by omega) (by omega)]
  unfold wo
  by_cases c:k=v.toNat
  ·have e:decide ((k:Int)=v)=true:=decide_eq_true (by omega)
   rw[e,if_neg (by simp),if_pos c,ih _ (by omega)]
  ·have e:decide ((k:Int)=v)=false:=decide_eq_false (by omega)
   rw[e,if_pos (show(!false)=true from rfl),if_neg c,C0 (by simp;omega),oB,ih _ (by simp;omega)]
   simp
theorem c0r(n:Nat)(v:Int):∀(fuel:Nat) (k:Int) (acc:List Int),T6 (n:Int) v fuel k acc=I4 (n:Int) v fuel k acc
 |0,k,acc=>rfl
 |fuel+1,k,acc=>by
  rw[T6.eq_2,I4.eq_2]
  simp only[c0r n v fuel]
theorem P0k{g:j0}(hf:D0 g=true){v:Int}(hv:0<=v/\v<g.2.1):l01 g v=some (s05 g v,true):=by
 obtain⟨q1,q2,q3,q4⟩:=D1 hf
 obtain⟨h1,h2,h3⟩:=F0e hf hv
 have hfd:=P8 g (by omega)
 rw[hf]at hfd
 have hL:=i0p g.2.1.toNat v hv.1 (by omega) g.2.1.toNat 0 Q0 [v] (by omega) (Y0 (by omega)) (by simp)
 have hc:=J0k (w0b hf hv)
 have hr:=f09 g.1 g.2.1.toNat g.2.2 (I06 g v) (by rw[show((g.2.1.toNat:Nat):Int)=g.2.1 by omega];exact V0 hf) h1 h2 (by omega) (by omega)
 rw[show((0:Nat):Int)=0 from rfl]at hL
 rw[show((g.2.1.toNat:Nat):Int)=g.2.1 by omega]at hL hr
 rw[show [v]++wo v.toNat g.2.1.toNat 0=I06 g v from rfl]at hL
 rw[show(g.1,g.2.1,g.2.2)=g from rfl]at hr
 unfold s05
 generalize I06 g v=o at *
 generalize hpt:i8 g o=q at *
 obtain⟨a,b,c⟩:=g
 obtain⟨qa,qb,qc⟩:=q
 simp only at hL hv q3 ⊢
 unfold l01
 simp only[hfd,oB,Bool.not_true,Bool.not_false,T1,D04,cond_false]
 rw[w64 (by omega) (by omega),show inR 0 (b-1) v=true by simp[inR];omega]
 simp only[Bool.not_true,Bool.false_eq_true,if_false,hL,oB,hr,hc]
theorem Q0k{g:j0}(hf:D0 g=true){v:Int}(hv:0<=v/\v<g.2.1):m01 g v=some (s05 g v,true):=by
 obtain⟨q1,q2,q3,q4⟩:=D1 hf
 obtain⟨h1,h2,h3⟩:=F0e hf hv
 have hfd:=V9 g (by omega)
 rw[hf]at hfd
 have hh:=j0s (V0 hf) hv
 have hL:=i0p g.2.1.toNat v hv.1 (by omega) g.2.1.toNat 0 Q0 [v] (by omega) (Y0 (by omega)) (by simp)
 rw[←c0r]at hL
 have hc:=K0k (w0b hf hv)
 have hr:=u0h g.1 g.2.1.toNat g.2.2 (I06 g v) (λe he=>by have:=q1 e he;omega) h1 (by omega) (by omega) (by omega)
 rw[show((0:Nat):Int)=0 from rfl]at hL
 rw[show((g.2.1.toNat:Nat):Int)=g.2.1 by omega]at hL hr
 rw[show [v]++wo v.toNat g.2.1.toNat 0=I06 g v from rfl]at hL
 rw[show(g.1,g.2.1,g.2.2)=g from rfl]at hr
 unfold s05
 generalize I06 g v=o at *
 generalize hpt:i8 g o=q at *
 obtain⟨a,b,c⟩:=g
 obtain⟨qa,qb,qc⟩:=q
 simp only at hL hv q3 ⊢
 unfold m01
 simp only[hfd,oB,Bool.not_true,Bool.not_false,T1,hh,cond_false]
 simp only[Bool.false_eq_true,if_false,hL,oB,hr,hc]
theorem z0j{g:j0}(h:V1 g=true):g.2.2.length<=120/\(1<=g.2.1/\g.2.1<=40)/\(1<=g.1/\g.1<=3):=by
 obtain⟨q1,q2,q3,q4⟩:=D1 (w01 h)
 exact⟨q4,q3,q2⟩
theorem A0j(ls:List Int)(r n:Int)(es:List M0)(v:Int):∀(fuel:Nat) (k:Int) (W:List (Option (List Int))) (u:List Int),W8 ls r n es v fuel k W u=Q2 ls r n es v fuel k W u
 |0,k,W,u=>rfl
 |fuel+1,k,W,u=>by
  rw[W8.eq_2,Q2.eq_2]
  simp only[A0j ls r n es v fuel]
theorem B0j(r n:Int)(es:List M0):∀(fuel:Nat) (k:Int) (W:List (Option (List Int))) (u:List Int),W9 r n es fuel k W u=S3 r n es fuel k W u
 |0,k,W,u=>rfl
 |fuel+1,k,W,u=>by
  rw[W9.eq_2,S3.eq_2]
  simp only[B0j r n es fuel,A0j]
theorem B0q{g:j0}(hf:D0 g=true){p:Int}(hp:0<=p/\p<g.2.1):R02 g p=some (A3 g p,(z01 g p).1):=by
 obtain⟨q1,q2,q3,q4⟩:=D1 hf
 have hN:g.2.1=((g.2.1.toNat:Nat):Int):=by omega
 have h0:=g0p hf p hN (g.2.1.toNat+1) 0 Q0 _ (U05 g (N:=g.2.1.toNat) ⟨hp.1,by omega⟩) (by simp) (by omega) (Y0 (by omega))
 have hg0:gi (List.replicate g.2.1.toNat (none:Option (List Int))) p=some none:=by
  have:=I2 (xs:=List.replicate g.2.1.toNat (none:Option (List Int))) (k:=p.toNat) (x:=none) (by rw[List.getElem?_replicate,if_pos (by omega)])
  rwa [show((p.toNat:Nat):Int)=p by omega]at this
 rw[←T05]
 unfold z01
 obtain⟨a,b,c⟩:=g
 simp only at *
 unfold R02
 simp only
 rw[C0 (by omega),oB,hg0,oB,B0j]
 rw[show((0:Nat):Int)=0 from rfl]at h0
 rw[h0]
 rfl
def isS(o:Option (List Int)):Bool:=o.isSome
def gtD(o:Option (List Int)):List Int:=o.getD []
theorem giM{α β:Type}{f:α->β}{W:List α}{n:Nat}(hl:W.length=n){x:Int}(h0:0<=x)(h1:x<(n:Int)){y:α}(hy:gi W x=some y):gi (W.map f) x=some (f y):=by
 obtain⟨_,h2⟩:=W07 hy
 have:=I2 (xs:=W.map f) (k:=x.toNat) (x:=f y) (by rw[List.getElem?_map,h2];rfl)
 rwa [show((x.toNat:Nat):Int)=x by omega]at this
theorem j0p{g:j0}(hf:D0 g=true)(p:Int){n:Nat}(hn:g.2.1=(n:Int))(ls:List Int)(hls:∀ x∈ls,x∈T2 g.1.toNat 1)(hl:ls.length<=1000000)(i:Nat)(v:Int):∀(d k fuel:Nat) (s:Tr8),TOk g p n s->s.2[i]?=some v->k+d=ls.length->d<fuel ->
  W5 ls (i:Int) g.1 g.2.1 g.2.2 fuel (k:Int) (s.1.map isS) (s.1.map gtD) s.2=some ((i09 g v (ls.drop k) s).1.map isS,(i09 g v (ls.drop k) s).1.map gtD,(i09 g v (ls.drop k) s).2)
 |d,k,0,s,hs,hv,hd,hf=>by omega
 |0,k,fuel+1,s,hs,hv,hd,hf=>by
  rw[W5.eq_2,if_neg (by simp only[decide_eq_true_eq];omega),K1 (by omega)];rfl
 |d+1,k,fuel+1,s,hs,hi,hd,hfu=>by
  obtain⟨q1,q2,q3,q4⟩:=D1 hf
  have hk:k<ls.length:=by omega
  have hx:=Y5 hk
  have hxl:=hls _ (List.mem_of_getElem? hx)
  have hdr:=O1 hx
  generalize ls[k]=x at hx hxl hdr
  have hxm:=(c04 (by omega) hxl).1
  have hlen:=Q8 n s.2 hs.gd.1 hs.gd.2
  have hnx:=y00 q1 v x
  have hv:=List.mem_of_getElem? hi
  have hsn:=hs.add hf hn hv hxl
  obtain⟨t,et⟩:=V0c g v x s
  have ih:=j0p hf p hn ls hls hl i v d (k+1) fuel (trS g v x s) hsn (by rw[et,List.getElem?_append_left (List.getElem?_eq_some_iff.1 hi).1];exact hi) (by omega) (by omega)
  have hw:=hs.ok
  have hvr:=hs.gd.2 v hv
  have hsh:=hw.short v
  obtain⟨a,ha⟩:=hw.get hvr.1 hvr.2 hv
  have hva:gi s.1 v=some (some a):=by rw[giO hw.len hvr.1 hvr.2,ha]
  rw[ha]at hsh
  rw[W5.eq_2,if_pos (by simp only[decide_eq_true_eq];omega),hdr,i09,←ih]
  simp only[I2 hi,I2 hx,oB,show(g.1,g.2.1,g.2.2)=g from rfl,M01 g v x hxm (by omega),C0 (C01 q1 q3.2 v x),Z1 hk (show ls.length<=9223372036854775807 by omega),giM (f:=gtD) hw.len hvr.1 hvr.2 hva]
  unfold trS
  generalize N0 g v x=y at *
  by_cases c1:0<=y
  ·have hy:y<(n:Int):=by omega
   have hgy:=giM (f:=isS) hw.len c1 hy (giO hw.len c1 hy)
   have hgw:=giM (f:=gtD) hw.len c1 hy (giO hw.len c1 hy)
   simp only[show decide (y ≥ 0)=true by simpa using c1,T1,hgy,hgw,oB,cond_true]
   by_cases c2:y∈s.2
   ·have:isS (L6 s.1 y)=true:=by
     have h2 : ¬ ((L6 s.1 y).isNone=true):=λh=>(hw.iff y c1 hy).1 h c2
     unfold isS
     cases e:L6 s.1 y with
     |none=>rw[e]at h2;exact absurd rfl h2
     |some b=>rfl
    rw[this,if_neg (by simp),if_neg λh=>h.2 c2]
   ·have:isS (L6 s.1 y)=false:=by
     have h2:(L6 s.1 y).isNone=true:=(hw.iff y c1 hy).2 c2
     unfold isS
     cases e:L6 s.1 y with
     |none=>rfl
     |some b=>rw[e]at h2;cases h2
    have hgd:gtD (some a)=a:=rfl
    simp only[Option.getD_some]at hsh
    rw[this,if_pos (by simp),if_pos ⟨c1,c2⟩,hgd,C0 (by omega),oB,C0 (by simp;omega),oB,C0 (by simp;omega),oB,ha]
    simp only[List.map_set,Option.getD_some]
    rfl
  ·simp only[show decide (y ≥ 0)=false by simpa using c1,C3,oB,cond_false]
   rw[if_neg (by simp),if_neg λh=>c1 h.1]
theorem k0p{g:j0}(hf:D0 g=true)(p:Int){n:Nat}(hn:g.2.1=(n:Int)):∀(f i fuel:Nat) (s:Tr8),TOk g p n s->i<=s.2.length->n+1<=i+f->f<fuel ->
  N7 (T2 g.1.toNat 1) g.1 g.2.1 g.2.2 fuel (i:Int) (s.1.map isS) (s.1.map gtD) s.2=some ((Q02 g (T2 g.1.toNat 1) f i s).1.map isS,(Q02 g (T2 g.1.toNat 1) f i s).1.map gtD,(Q02 g (T2 g.1.toNat 1) f i s).2)
 |f,i,0,s,hs,hi,hd,hf=>by omega
 |0,i,fuel+1,s,hs,hi,hd,hf=>by have:=Q8 n s.2 hs.gd.1 hs.gd.2;omega
 |f+1,i,fuel+1,s,hs,hi,hd,hfu=>by
  obtain⟨q1,q2,q3,q4⟩:=D1 hf
  have hlen:=Q8 n s.2 hs.gd.1 hs.gd.2
  rw[N7.eq_2,oB,C0 (by omega),oB]
  by_cases hk:i<s.2.length
  ·have hx:=Y5 hk
   generalize s.2[i]=v at hx
   have hv:=List.mem_of_getElem? hx
   have h0:=j0p hf p hn (T2 g.1.toNat 1) (λx hx=>hx) (by rw[R8];omega) i v (T2 g.1.toNat 1).length 0 Q0 s hs hx (by omega) (Y0 (by rw[R8];omega))
   rw[show((0:Nat):Int)=0 from rfl,List.drop_zero]at h0
   obtain⟨t,e⟩:=D0e g v (T2 g.1.toNat 1) s
   have ih:=k0p hf p hn f (i+1) fuel _ (hs.inn hf hn _ hv λx hx=>hx) (by rw[e,List.length_append];omega) (by omega) (by omega)
   rw[if_pos (by simpa using hk),h0,oB]
   simp only[Z1 hk (show s.2.length<=9223372036854775807 by omega),Q02,hx]
   exact ih
  ·have hx:s.2[i]?=none:=List.getElem?_eq_none (by omega)
   rw[if_neg (by simpa using hk)]
   simp only[Q02,hx]
theorem D0h{g:j0}(hf:D0 g=true){p:Int}(hp:0<=p/\p<g.2.1):n01 g p=some ((z01 g p).1.map isS,(z01 g p).1.map gtD):=by
 obtain⟨q1,q2,q3,q4⟩:=D1 hf
 have hN:g.2.1=((g.2.1.toNat:Nat):Int):=by omega
 have h0:=k0p hf p hN (g.2.1.toNat+1) 0 Q0 _ (U05 g (N:=g.2.1.toNat) ⟨hp.1,by omega⟩) (by simp) (by omega) (Y0 (by omega))
 have hlt:=j0e g.1.toNat (by omega)
 rw[show((g.1.toNat:Nat):Int)=g.1 by omega]at hlt
 have rep:∀ {α:Type} (z:α),gi (List.replicate g.2.1.toNat z) p=some z:=λz=>by
  have:=I2 (xs:=List.replicate g.2.1.toNat z) (k:=p.toNat) (x:=z) (by rw[List.getElem?_replicate,if_pos (by omega)])
  rwa [show((p.toNat:Nat):Int)=p by omega]at this
 have e1:((List.replicate g.2.1.toNat (none:Option (List Int))).set p.toNat (some [])).map isS=(List.replicate g.2.1.toNat false).set p.toNat true:=by
  rw[List.map_set,List.map_replicate];rfl
 have e2:((List.replicate g.2.1.toNat (none:Option (List Int))).set p.toNat (some [])).map gtD=(List.replicate g.2.1.toNat ([]:List Int)).set p.toNat []:=by
  rw[List.map_set,List.map_replicate];rfl
 rw[e1,e2]at h0
 unfold z01
 obtain⟨a,b,c⟩:=g
 simp only at *
 unfold n01
 simp only
 rw[C0 (by omega),oB,C0 (by omega),oB,rep false,oB,rep [],oB,hlt,oB]
 rw[show((0:Nat):Int)=0 from rfl]at h0
 rw[h0]
 rfl
def x0b(g:j0)(u v:Int):List Int×Bool:=bif D0 g&&(inR 0 (g.2.1-1) u&&inR 0 (g.2.1-1) v)then(match L6 (z01 g u).1 v with
 |some w=>(w,true)
 |none=>([],false))else([],false)
theorem E0h{n u:Int}(h:inR 0 (n-1) u=true):0<=u/\u<n:=by
 simp only[inR,Bool.and_eq_true,decide_eq_true_eq]at h
 omega
theorem l0p(g:j0)(hg:G1 g=true)(u:Int):A4 g u=some (inR 0 (g.2.1-1) u):=by
 obtain⟨q1,q2,q3,q4⟩:=F1 hg
 obtain⟨r,n,es⟩:=g
 simp only at q3
 unfold A4
 simp only[E04]
 rw[w64 (by omega) (by omega)]
 rfl
theorem x0n{g:j0}(hf:D0 g=true){u v:Int}(hu:0<=u/\u<g.2.1):(gtD (L6 (z01 g u).1 v)).length<=40:=by
 obtain⟨q1,q2,q3,q4⟩:=D1 hf
 have h:=w06 hf hu
 have:=h.ok.short v
 have:=Q8 _ _ h.gd.1 h.gd.2
 unfold gtD
 omega
theorem R0k(g:j0)(hl:g.2.2.length<=140737488355328)(u v:Int):a8 g u v=some (x0b g u v):=by
 have h1:=P8 g hl
 unfold x0b
 cases hf:D0 g with
 |false =>
  obtain⟨a,b,c⟩:=g
  unfold a8
  simp only[h1,hf,oB,Bool.not_false,Bool.not_true,C3,cond_true]
  rfl
 |true =>
  obtain⟨q1,q2,q3,q4⟩:=D1 hf
  cases hu:inR 0 (g.2.1-1) u with
  |false =>
   obtain⟨a,b,c⟩:=g
   unfold a8
   simp only at hu q3
   simp only[h1,hf,oB,Bool.not_false,Bool.not_true,T1,cond_false,D04]
   rw[w64 (by omega) (by omega),hu]
   rfl
  |true =>
   cases hv:inR 0 (g.2.1-1) v with
   |false =>
    obtain⟨a,b,c⟩:=g
    unfold a8
    simp only at hu hv q3
    simp only[h1,hf,oB,Bool.not_false,Bool.not_true,T1,cond_false,D04]
    rw[w64 (by omega) (by omega),hu]
    simp only[Bool.not_true,Bool.not_false,oB,cond_false,T1,hv]
    rfl
   |true =>
    have hur:=E0h hu
    have hvr:=E0h hv
    have hs:=D0h hf hur
    have hok:=(w06 hf hur).ok
    have hg1:=giM (f:=isS) hok.len hvr.1 (by omega) (giO hok.len hvr.1 (by omega))
    have hg2:=giM (f:=gtD) hok.len hvr.1 (by omega) (giO hok.len hvr.1 (by omega))
    have hpl:=x0n hf (v:=v) hur
    obtain⟨a,b,c⟩:=g
    unfold a8
    simp only at hu hv q3 hg1 hg2
    simp only[h1,hf,oB,Bool.not_false,Bool.not_true,T1,cond_false,D04]
    rw[w64 (by omega) (by omega),hu]
    simp only[Bool.not_true,Bool.not_false,oB,cond_false,T1,hv,Bool.false_eq_true,if_false,hs,hg1,hg2,Bool.and_self,cond_true]
    cases e:L6 (z01 (a,b,c) u).1 v with
    |none=>rfl
    |some w =>
     rw[e]at hpl
     have hw:gtD (some w)=w:=rfl
     rw[hw]at hpl ⊢
     rw[show isS (some w)=true from rfl,if_neg (by simp),C0 (by simp only[List.length_nil];omega),oB,List.nil_append]
theorem S0k(g:j0)(hl:g.2.2.length<=140737488355328)(u v:Int):c8 g u v=some (x0b g u v):=by
 have h1:=V9 g hl
 unfold x0b
 cases hf:D0 g with
 |false =>
  obtain⟨a,b,c⟩:=g
  unfold c8
  simp only[h1,hf,oB,Bool.not_false,Bool.not_true,C3,cond_true]
  rfl
 |true =>
  obtain⟨q1,q2,q3,q4⟩:=D1 hf
  have hhu:=l0p g (V0 hf) u
  have hhv:=l0p g (V0 hf) v
  cases hu:inR 0 (g.2.1-1) u with
  |false =>
   obtain⟨a,b,c⟩:=g
   unfold c8
   simp only at hu hhu q3
   simp only[h1,hf,oB,Bool.not_false,Bool.not_true,T1,cond_false,hhu,hu]
   rfl
  |true =>
   cases hv:inR 0 (g.2.1-1) v with
   |false =>
    obtain⟨a,b,c⟩:=g
    unfold c8
    simp only at hu hv hhu hhv q3
    simp only[h1,hf,oB,Bool.not_false,Bool.not_true,T1,cond_false,hhu,hu,hhv,hv]
    rfl
   |true =>
    have hur:=E0h hu
    have hvr:=E0h hv
    have hs:=B0q hf hur
    have hok:=(w06 hf hur).ok
    have hg1:=giO hok.len hvr.1 (show v<((g.2.1.toNat:Nat):Int) by omega)
    obtain⟨a,b,c⟩:=g
    unfold c8
    simp only at hu hv hhu hhv q3 hg1
    simp only[h1,hf,oB,Bool.not_false,Bool.not_true,T1,cond_false,hhu,hu,hhv,hv,Bool.false_eq_true,if_false,hs,hg1,Bool.and_self,cond_true]
    cases e:L6 (z01 (a,b,c) u).1 v with
    |none=>rfl
    |some w=>rfl
def y02(g:j0)(v:Int):List Int:=(x0b g 0 v).1
theorem K04(g:j0)(hl:g.2.2.length<=140737488355328)(v:Int):o9 g v=some (y02 g v):=by
 have h:=R0k g hl 0 v
 unfold y02
 obtain⟨a,b,c⟩:=g
 unfold o9
 simp only[h,oB]
theorem G0e(g:j0)(hl:g.2.2.length<=140737488355328)(v:Int):o01 g v=some (y02 g v):=by
 have h:=S0k g hl 0 v
 unfold y02
 obtain⟨a,b,c⟩:=g
 unfold o01
 simp only[h,oB]
abbrev Prs:=List (Int×Int)
theorem H0e(q:Int×Int):∀(ps:Prs) (i:Nat),match lkP q ps i with
  |some k=>i<=k/\ps[k-i]?=some q
  |none=>q ∉ ps
 | [],i=>by simp[lkP]
 |p::r,i=>by
  have ih:=H0e q r (i+1)
  unfold lkP
  by_cases c:q=p
  ·subst c;simp
  ·have c2:(decide (q.1=p.1)&&decide (q.2=p.2))=false:=by
    cases e:decide (q.1=p.1)&&decide (q.2=p.2)
    ·rfl
    ·simp only[Bool.and_eq_true,decide_eq_true_eq]at e
     exact absurd (Prod.ext e.1 e.2) c
   rw[c2,cond_false]
   cases e:lkP q r (i+1)with
   |none=>rw[e]at ih;simpa [c] using ih
   |some k =>
    rw[e]at ih
    simp only at ih ⊢
    refine⟨by omega,?_⟩
    have:k-i=(k-(i+1))+1:=by omega
    rw[this,List.getElem?_cons_succ]
    exact ih.2
theorem b0m{q:Int×Int}{k:Nat}:∀ {ps:Prs} {i:Nat} (t:Prs),lkP q ps i=some k->lkP q (ps++t) i=some k
 | [],i,t,h=>by simp[lkP]at h
 |p::r,i,t,h=>by
  rw[List.cons_append]
  unfold lkP at h ⊢
  cases c:decide (q.1=p.1)&&decide (q.2=p.2)
  ·rw[c,cond_false]at h;rw[cond_false];exact b0m t h
  ·rw[c,cond_true]at h;rw[cond_true];exact h
theorem c0m{q:Int×Int}:∀ {ps:Prs} {i:Nat},q ∉ ps->lkP q (ps ++ [q]) i=some (i+ps.length)
 | [],i,h=>by simp[lkP]
 |p::r,i,h=>by
  have c:(decide (q.1=p.1)&&decide (q.2=p.2))=false:=by
   cases e:decide (q.1=p.1)&&decide (q.2=p.2)
   ·rfl
   ·simp only[Bool.and_eq_true,decide_eq_true_eq]at e
    exact absurd (List.mem_cons.2 (.inl (Prod.ext e.1 e.2))) h
  rw[List.cons_append,lkP,c,cond_false,c0m (λe=>h (mC _ e))]
  simp;omega
theorem B07{q:Int×Int}{ps:Prs}:lkP q ps 0=none↔q ∉ ps:=by
 have:=H0e q ps 0
 constructor
 ·intro h;rw[h]at this;exact this
 ·intro h
  cases e:lkP q ps 0 with
  |none=>rfl
  |some k=>rw[e]at this;exact absurd (List.mem_of_getElem? this.2) h
theorem F0h{q:Int×Int}{ps:Prs}{k:Nat}(h:lkP q ps 0=some k):ps[k]?=some q:=by
 have:=H0e q ps 0
 rw[h]at this
 simpa using this.2
theorem C0q{q:Int×Int}{ps:Prs}(h:q∈ps):∃ k,lkP q ps 0=some k:=by
 cases e:lkP q ps 0 with
 |none=>exact absurd h (B07.1 e)
 |some k=>exact⟨k,rfl⟩
theorem d0m{q:Int×Int}{ps:Prs}(t:Prs)(h:q∈ps):lkZ q (ps++t)=lkZ q ps:=by
 obtain⟨k,e⟩:=C0q h
 unfold lkZ
 rw[e,b0m t e]
def stP(a b:j0)(x:Int)(p:Int×Int):Option (Int×Int):=bif decide (N0 a p.1 x<0) || decide (N0 b p.2 x<0)then none else some (N0 a p.1 x,N0 b p.2 x)
abbrev PSt:=Prs×List M0
def pbS(i:Nat)(x:Int)(q:Option (Int×Int))(S:PSt):PSt:=match q with
 |none=>S
 |some q=>match lkP q S.1 0 with
  |some k=>(S.1,bif decide (0<x)then S.2 ++ [((i:Int),x,(k:Int))]else S.2)
  |none=>(S.1 ++ [q],bif decide (0<x)then S.2 ++ [((i:Int),x,(S.1.length:Int))]else S.2)
def pbI(a b:j0)(i:Nat)(p:Int×Int):List Int->PSt->PSt
 | [],S=>S
 |x::r,S=>pbI a b i p r (pbS i x (stP a b x p) S)
def pbO(a b:j0)(ls:List Int):Nat->Nat->PSt->PSt
 |0,_,S=>S
 |f+1,i,S=>match S.1[i]? with
  |none=>S
  |some p=>pbO a b ls f (i+1) (pbI a b i p ls S)
def y06(a b:j0)(ps:Prs):Prop:=∀ q∈ps,(0<=q.1/\q.1<a.2.1)/\(0<=q.2/\q.2<b.2.1)
theorem T0k{a b:j0}(ha:inG a)(hb:inG b){x:Int}{p q:Int×Int}(h:stP a b x p=some q):(0<=q.1/\q.1<a.2.1)/\(0<=q.2/\q.2<b.2.1):=by
 unfold stP at h
 cases c:decide (N0 a p.1 x<0) || decide (N0 b p.2 x<0)with
 |true=>rw[c]at h;cases h
 |false =>
  rw[c,cond_false]at h
  cases h
  simp only[Bool.or_eq_false_iff,decide_eq_false_iff_not]at c
  have h1:=y00 ha p.1 x
  have h2:=y00 hb p.2 x
  exact⟨by omega,by omega⟩
theorem d08{q:Int×Int}{S:PSt}{k:Nat}(h:lkP q S.1 0=some k)(i:Nat)(x:Int):pbS i x (some q) S=(S.1,bif decide (0<x)then S.2 ++ [((i:Int),x,(k:Int))]else S.2):=by
 simp only[pbS,h]
theorem e08{q:Int×Int}{S:PSt}(h:lkP q S.1 0=none)(i:Nat)(x:Int):pbS i x (some q) S=(S.1 ++ [q],bif decide (0<x)then S.2 ++ [((i:Int),x,(S.1.length:Int))]else S.2):=by
 simp only[pbS,h]
theorem G0h(i:Nat)(x:Int)(q:Option (Int×Int))(S:PSt):∃ t,(pbS i x q S).1=S.1++t:=by
 cases q with
 |none=>exact⟨[],by simp[pbS]⟩
 |some q =>
  cases e:lkP q S.1 0 with
  |none=>exact⟨[q],by rw[e08 e]⟩
  |some k=>exact⟨[],by rw[d08 e];simp⟩
theorem f08(a b:j0)(i:Nat)(p:Int×Int):∀(ls:List Int) (S:PSt),∃ t,(pbI a b i p ls S).1=S.1++t
 | [],S=>⟨[],by simp[pbI]⟩
 |x::r,S=>by
  obtain⟨t1,e1⟩:=G0h i x (stP a b x p) S
  obtain⟨t2,e2⟩:=f08 a b i p r (pbS i x (stP a b x p) S)
  exact⟨t1++t2,by rw[pbI,e2,e1,List.append_assoc]⟩
theorem U0k{a b:j0}(ha:inG a)(hb:inG b)(i:Nat)(x:Int)(p:Int×Int)(S:PSt)(h1:y06 a b S.1)(h2:S.1.Nodup):y06 a b (pbS i x (stP a b x p) S).1/\(pbS i x (stP a b x p) S).1.Nodup:=by
 cases e:stP a b x p with
 |none=>exact⟨h1,h2⟩
 |some q =>
  have hq:=T0k ha hb e
  cases e2:lkP q S.1 0 with
  |none =>
   rw[e08 e2]
   refine⟨λq' hq'=>?_,?_⟩
   ·rcases List.mem_append.1 hq' with h|h
    ·exact h1 q' h
    ·simp at h;subst h;exact hq
   ·show(S.1 ++ [q]).Nodup
    rw[List.nodup_append]
    refine⟨h2,by simp,λu hu v hv e3=>?_⟩
    simp at hv
    subst hv
    subst e3
    exact B07.1 e2 hu
  |some k=>rw[d08 e2];exact⟨h1,h2⟩
theorem H0h{a b:j0}(ha:inG a)(hb:inG b)(i:Nat)(p:Int×Int):∀(ls:List Int) (S:PSt),y06 a b S.1->S.1.Nodup->y06 a b (pbI a b i p ls S).1/\(pbI a b i p ls S).1.Nodup
 | [],S,h1,h2=>⟨h1,h2⟩
 |x::r,S,h1,h2=>by
  obtain⟨g1,g2⟩:=U0k ha hb i x p S h1 h2
  exact H0h ha hb i p r _ g1 g2
def enP(m:Int)(p:Int×Int):Int:=p.1*m+p.2
theorem e0m{m:Int}{p q:Int×Int}(hp:0<=p.2/\p.2<m)(hq:0<=q.2/\q.2<m)(h:enP m p=enP m q):p=q:=by
 unfold enP at h
 have h1:p.1=q.1:=by
  rcases Int.lt_trichotomy p.1 q.1 with c|c|c
  ·exfalso
   have:(p.1+1)*m<=q.1*m:=Int.mul_le_mul_of_nonneg_right (by omega) (by omega)
   rw[Int.add_mul,Int.one_mul]at this
   omega
  ·exact c
  ·exfalso
   have:(q.1+1)*m<=p.1*m:=Int.mul_le_mul_of_nonneg_right (by omega) (by omega)
   rw[Int.add_mul,Int.one_mul]at this
   omega
 rw[h1]at h
 exact Prod.ext h1 (by omega)
theorem g08{n m:Int}{p:Int×Int}(h1:0<=p.1/\p.1<n)(h2:0<=p.2/\p.2<m):0<=enP m p/\enP m p<n*m:=by
 unfold enP
 have a1:0<=p.1*m:=Int.mul_nonneg h1.1 (by omega)
 have a2:(p.1+1)*m<=n*m:=Int.mul_le_mul_of_nonneg_right (by omega) (by omega)
 rw[Int.add_mul,Int.one_mul]at a2
 omega
theorem f0m{m:Int}{p:Int×Int}(h1:0<=p.1)(h2:0<=p.2/\p.2<m):Int.tdiv (enP m p) m=p.1/\Int.tmod (enP m p) m=p.2:=by
 have h0:0<=enP m p:=by
  unfold enP
  have:0<=p.1*m:=Int.mul_nonneg h1 (by omega)
  omega
 rw[Int.tdiv_eq_ediv_of_nonneg h0,Int.tmod_eq_emod_of_nonneg h0]
 unfold enP
 refine⟨?_,?_⟩
 ·rw[Int.add_comm,Int.add_mul_ediv_right _ _ (by omega),Int.ediv_eq_zero_of_lt h2.1 h2.2];omega
 ·rw[Int.add_comm,Int.add_mul_emod_self_right,Int.emod_eq_of_lt h2.1 h2.2]
theorem C07{a b:j0}(ha:1<=a.2.1/\a.2.1<=40)(hb:1<=b.2.1/\b.2.1<=40){ps:Prs}(h1:y06 a b ps)(h2:ps.Nodup):ps.length<=1600:=by
 have h3:(ps.map (enP b.2.1)).Nodup:=by
  rw[List.Nodup,List.pairwise_map]
  exact List.Pairwise.imp_of_mem (λ{x y} hx hy hne e=>hne (e0m (h1 x hx).2 (h1 y hy).2 e)) h2
 have h4:inV 1600 (ps.map (enP b.2.1)):=by
  intro v hv
  obtain⟨p,hp,rfl⟩:=List.mem_map.1 hv
  have:=g08 (h1 p hp).1 (h1 p hp).2
  have h5:a.2.1*b.2.1<=40*40:=Int.mul_le_mul ha.2 hb.2 (by omega) (by omega)
  exact⟨this.1,by omega⟩
 have:=Q8 1600 _ h3 h4
 simpa using this
def eL(a b:j0)(ps:Prs)(i:Nat)(p:Int×Int):List Int->List M0
 | []=>[]
 |x::r=>(match stP a b x p with
  |some q=>bif decide (0<x)then [((i:Int),x,lkZ q ps)]else []
  |none=>[])++eL a b ps i p r
def eB(a b:j0)(ls:List Int)(ps:Prs):Prs->Nat->List M0
 | [],_=>[]
 |p::r,i=>eL a b ps i p ls++eB a b ls ps r (i+1)
theorem m0p{a b:j0}{ps:Prs}(t:Prs){i:Nat}{p:Int×Int}:∀ {ls:List Int},(∀ x∈ls,∀ q,stP a b x p=some q->q∈ps)->eL a b (ps++t) i p ls=eL a b ps i p ls
 | [],_=>rfl
 |x::r,h=>by
  rw[eL,eL,m0p t λy hy=>h y (mC _ hy)]
  cases e:stP a b x p with
  |none=>rfl
  |some q=>simp only[d0m t (h x mS q e)]
theorem y0b{a b:j0}{i:Nat}{p:Int×Int}:∀(ls:List Int) (S:PSt),(pbI a b i p ls S).2=S.2++eL a b (pbI a b i p ls S).1 i p ls/\∀ x∈ls,∀ q,stP a b x p=some q->q∈(pbI a b i p ls S).1
 | [],S=>⟨by simp[pbI,eL],λx hx=>nomatch hx⟩
 |x::r,S=>by
  obtain⟨h1,h2⟩:=y0b r (pbS i x (stP a b x p) S)
  obtain⟨t,ht⟩:=f08 a b i p r (pbS i x (stP a b x p) S)
  have key:∀ q,stP a b x p=some q->q∈(pbS i x (stP a b x p) S).1/\(pbS i x (stP a b x p) S).2=S.2++(bif decide (0<x)then [((i:Int),x,lkZ q (pbS i x (stP a b x p) S).1)]else []):=λq e=>by
   rw[e]
   cases e2:lkP q S.1 0 with
   |none =>
    rw[e08 e2]
    refine⟨by simp,?_⟩
    have e3:=c0m (i:=0) (B07.1 e2)
    simp only[lkZ,e3,Nat.zero_add]
    cases decide (0<x)<;>simp
   |some k =>
    rw[d08 e2]
    refine⟨List.mem_of_getElem? (F0h e2),?_⟩
    simp only[lkZ,e2]
    cases decide (0<x)<;>simp
  refine⟨?_,λy hy q e=>?_⟩
  ·rw[pbI,h1,eL,←List.append_assoc]
   congr 1
   cases e:stP a b x p with
   |none=>simp[pbS]
   |some q =>
    obtain⟨k1,k2⟩:=key q e
    rw[e]at k1 k2 ht
    rw[k2]
    congr 1
    rw[ht]
    simp only[d0m t k1]
  ·rw[pbI]
   rcases List.mem_cons.1 hy with rfl|hy
   ·rw[ht];exact List.mem_append_left _ (key q e).1
   ·exact h2 y hy q e
theorem g0m{a b:j0}{i:Nat}{p:Int×Int}{ls:List Int}{S:PSt}{j:Nat}{q:Int×Int}(h:S.1[j]?=some q):(pbI a b i p ls S).1[j]?=some q:=by
 obtain⟨t,e⟩:=f08 a b i p ls S
 rw[e,List.getElem?_append_left (List.getElem?_eq_some_iff.1 h).1];exact h
theorem W0c{a b:j0}(ha:inG a)(hb:inG b)(na:1<=a.2.1/\a.2.1<=40)(nb:1<=b.2.1/\b.2.1<=40)(ls:List Int):∀(f i:Nat) (S:PSt),y06 a b S.1->S.1.Nodup->i<=S.1.length->1601<=i+f ->
  ∃ t,(pbO a b ls f i S).1=S.1++t/\y06 a b (S.1++t)/\(S.1++t).Nodup/\(pbO a b ls f i S).2=S.2++eB a b ls (S.1++t) ((S.1++t).drop i) i /\
   ∀ j p,i<=j->(S.1++t)[j]?=some p->∀ x∈ls,∀ q,stP a b x p=some q->q∈S.1++t
 |0,i,S,h1,h2,h3,h4=>by
  have:=C07 na nb h1 h2
  omega
 |f+1,i,S,h1,h2,h3,h4=>by
  cases e:S.1[i]? with
  |none =>
   have hi:i=S.1.length:=by have:=List.getElem?_eq_none_iff.1 e;omega
   refine⟨[],?_⟩
   rw[List.append_nil]
   refine⟨by simp[pbO,e],h1,h2,?_,λj p hj hp=>?_⟩
   ·rw[pbO,e,hi,List.drop_length];simp[eB]
   ·have:=(List.getElem?_eq_some_iff.1 hp).1
    omega
  |some p =>
   obtain⟨g1,g2⟩:=H0h ha hb i p ls S h1 h2
   obtain⟨e1,e2⟩:=y0b (a:=a) (b:=b) (i:=i) (p:=p) ls S
   obtain⟨t1,ht1⟩:=f08 a b i p ls S
   have hlt:=(List.getElem?_eq_some_iff.1 e).1
   obtain⟨t,k1,k2,k3,k4,k5⟩:=W0c ha hb na nb ls f (i+1) (pbI a b i p ls S) g1 g2 (by rw[ht1];simp;omega) (by omega)
   refine⟨t1++t,?_⟩
   rw[←List.append_assoc,←ht1]
   have hp:((pbI a b i p ls S).1++t)[i]?=some p:=by
    have:=g0m (a:=a) (b:=b) (i:=i) (p:=p) (ls:=ls) e
    rw[List.getElem?_append_left (List.getElem?_eq_some_iff.1 this).1];exact this
   refine⟨by rw[pbO,e];exact k1,k2,k3,?_,λj p' hj hp' x hx q hq=>?_⟩
   ·rw[pbO,e]
    show(pbO a b ls f (i+1) (pbI a b i p ls S)).2=_
    rw[k4,e1,O1 hp,eB,m0p t e2,List.append_assoc]
   ·rcases Nat.lt_or_ge i j with c|c
    ·exact k5 j p' c hp' x hx q hq
    ·have:j=i:=by omega
     subst this
     rw[hp]at hp';cases hp'
     exact List.mem_append_left _ (e2 x hx q hq)
theorem h0m{R:Nat}(hR:R<=900):∀ x∈T2 R 1,L7 x:=S0c R 1 (by omega)
theorem I0h{a b:j0}{ps:Prs}{i:Nat}{p:Int×Int}:∀(ls:List Int),(eL a b ps i p ls).length<=ls.length
 | []=>by simp[eL]
 |x::r=>by
  have:=I0h (a:=a) (b:=b) (ps:=ps) (i:=i) (p:=p) r
  rw[eL,List.length_append,List.length_cons]
  have h:(match stP a b x p with
   |some q=>bif decide (0<x)then [((i:Int),x,lkZ q ps)]else []
   |none=>[]).length<=1:=by
   cases stP a b x p with
   |none=>simp
   |some q=>cases decide (0<x)<;>simp
  exact Nat.le_trans (Nat.add_le_add h this) (by omega)
theorem n0p{a b:j0}{ls:List Int}{ps:Prs}:∀(r:Prs) (i:Nat),(eB a b ls ps r i).length<=r.length*ls.length
 | [],i=>by simp[eB]
 |p::r,i=>by
  have h1:=I0h (a:=a) (b:=b) (ps:=ps) (i:=i) (p:=p) ls
  have h2:=n0p (a:=a) (b:=b) (ls:=ls) (ps:=ps) r (i+1)
  rw[eB,List.length_append,List.length_cons,Nat.add_mul,Nat.one_mul]
  omega
theorem o0p{a b:j0}{u v:Int}(hu:inR 0 (a.2.1-1) u=true)(hv:inR 0 (b.2.1-1) v=true):y06 a b [(u,v)]:=by
 intro q hq
 simp at hq
 subst hq
 simp only[inR,Bool.and_eq_true,decide_eq_true_eq]at hu hv
 exact⟨by omega,by omega⟩
def J08(m:Int)(N:Nat)(seen:List Bool)(ps:Prs):Prop:=seen.length=N/\∀ j:Nat,j<N->seen[j]?=some (decide ((j:Int)∈ps.map (enP m)))
theorem i0m{a b:j0}{ps:Prs}(h:y06 a b ps){q:Int×Int}(hq:0<=q.2/\q.2<b.2.1):enP b.2.1 q∈ps.map (enP b.2.1)↔q∈ps:=by
 constructor
 ·intro e
  obtain⟨p,hp,e2⟩:=List.mem_map.1 e
  have:=e0m (h p hp).2 hq e2
  rw[←this];exact hp
 ·exact λe=>List.mem_map.2 ⟨q,e,rfl⟩
theorem z0b{m:Int}{N:Nat}{seen:List Bool}{ps:Prs}(h:J08 m N seen ps){q:Int×Int}(h1:0<=enP m q)(h2:enP m q<(N:Int)):J08 m N (seen.set (enP m q).toNat true) (ps ++ [q]):=by
 refine⟨by simp[h.1],λj hj=>?_⟩
 rw[List.getElem?_set]
 by_cases c:(enP m q).toNat=j
 ·have hm:(j:Int)∈(ps ++ [q]).map (enP m):=List.mem_map.2 ⟨q,by simp,by omega⟩
  rw[if_pos c,if_pos (by rw[h.1];omega),decide_eq_true hm]
 ·rw[if_neg c,h.2 j hj]
  have:((j:Int)∈(ps ++ [q]).map (enP m))↔(j:Int)∈ps.map (enP m):=by
   rw[List.map_append,List.mem_append]
   constructor
   ·rintro(e|e)
    ·exact e
    ·simp at e;omega
   ·exact .inl
  simp only[this]
theorem p0p{a b:j0}(ha:D0 a=true)(hb:D0 b=true)(ls:List Int)(hls:∀ x∈ls,L7 x)(hl:ls.length<=1000)(i:Nat)(p:Int×Int):∀(d k fuel:Nat) (S:PSt) (seen:List Bool),k+d=ls.length->d<fuel ->
  y06 a b S.1->S.1.Nodup->S.1[i]?=some p->J08 b.2.1 (a.2.1*b.2.1).toNat seen S.1 ->
  ∃ seen',T5 ls (i:Int) b.2.1 a.1 a.2.1 a.2.2 b.1 b.2.2 fuel (k:Int) seen (S.1.map (enP b.2.1))=some (seen',(pbI a b i p (ls.drop k) S).1.map (enP b.2.1))/\J08 b.2.1 (a.2.1*b.2.1).toNat seen' (pbI a b i p (ls.drop k) S).1
 |d,k,0,S,seen,hd,hf,h1,h2,h3,h4=>by omega
 |0,k,fuel+1,S,seen,hd,hf,h1,h2,h3,h4=>by
  rw[T5.eq_2,if_neg (by simp only[decide_eq_true_eq];omega),K1 (by omega)]
  exact⟨seen,rfl,h4⟩
 |d+1,k,fuel+1,S,seen,hd,hf,h1,h2,h3,h4=>by
  have hk:k<ls.length:=by omega
  have hx:=Y5 hk
  have hm:=hls _ (List.mem_of_getElem? hx)
  have hdr:=O1 hx
  generalize ls[k]=x at hx hm hdr
  obtain⟨qa,ra,na,la⟩:=F1 (V0 ha)
  obtain⟨qb,rb,nb,lb⟩:=F1 (V0 hb)
  have ih:=λS' seen'=>p0p ha hb ls hls hl i p d (k+1) fuel S' seen' (by omega) (by omega)
  have ea:=M01 a p.1 x hm (by omega)
  have eb:=M01 b p.2 x hm (by omega)
  have ia:=C01 qa (by omega) p.1 x
  have ib:=C01 qb (by omega) p.2 x
  have hlen:=C07 na nb h1 h2
  have hp:=h1 p (List.mem_of_getElem? h3)
  obtain⟨d1,d2⟩:=f0m (m:=b.2.1) hp.1.1 hp.2
  obtain⟨g1,g2⟩:=U0k qa qb i x p S h1 h2
  obtain⟨t,ht⟩:=G0h i x (stP a b x p) S
  have g3:(pbS i x (stP a b x p) S).1[i]?=some p:=by rw[ht,List.getElem?_append_left (List.getElem?_eq_some_iff.1 h3).1];exact h3
  have hg:gi (S.1.map (enP b.2.1)) (i:Int)=some (enP b.2.1 p):=I2 (by rw[List.getElem?_map,h3];rfl)
  rw[T5.eq_2,if_pos (by simp only[decide_eq_true_eq];omega)]
  simp only[hg,oB,C0 (show b.2.1≠0 by omega),I2 hx,d1,d2]
  rw[w64 (by omega) (by omega),hdr,pbI]
  have e0:stP a b x p=(bif decide (N0 a p.1 x<0) || decide (N0 b p.2 x<0)then none else some (N0 a p.1 x,N0 b p.2 x)):=rfl
  have na':=y00 qa p.1 x
  have nb':=y00 qb p.2 x
  have e5:(a.1,a.2.1,a.2.2)=a:=rfl
  have e6:(b.1,b.2.1,b.2.2)=b:=rfl
  simp only[e5,e6]
  rw[ea,oB,C0 ia,oB,eb,oB,C0 ib,oB,Z1 hk (by omega)]
  have hc:(bif decide (N0 a p.1 x ≥ 0)then decide (N0 b p.2 x ≥ 0)else false) = !(decide (N0 a p.1 x<0) || decide (N0 b p.2 x<0)):=by
   have q1:decide (N0 a p.1 x ≥ 0) = !decide (N0 a p.1 x<0):=by rw[←decide_not,decide_eq_decide];omega
   have q2:decide (N0 b p.2 x ≥ 0) = !decide (N0 b p.2 x<0):=by rw[←decide_not,decide_eq_decide];omega
   rw[q1,q2]
   cases decide (N0 a p.1 x<0)<;>cases decide (N0 b p.2 x<0)<;>rfl
  rw[hc]
  cases c:decide (N0 a p.1 x<0) || decide (N0 b p.2 x<0)with
  |true =>
   rw[c,cond_true]at e0
   rw[e0]
   rw[show(!true)=false from rfl,C3,oB,if_neg (by simp)]
   exact ih S seen h1 h2 h3 h4
  |false =>
   rw[c,cond_false]at e0
   simp only[Bool.or_eq_false_iff,decide_eq_false_iff_not]at c
   rw[e0]at g1 g2 g3 ⊢
   have hq1:0<=N0 a p.1 x/\N0 a p.1 x<a.2.1:=by omega
   have hq2:0<=N0 b p.2 x/\N0 b p.2 x<b.2.1:=by omega
   generalize N0 a p.1 x=s at *
   generalize N0 b p.2 x=r at *
   have hr:=g08 (p:=(s,r)) hq1 hq2
   have h40:a.2.1*b.2.1<=40*40:=Int.mul_le_mul na.2 nb.2 (by omega) (by omega)
   have hs0:0<=s*b.2.1:=Int.mul_nonneg hq1.1 (by omega)
   have hen:enP b.2.1 (s,r)=s*b.2.1+r:=rfl
   have hw:IntKind.i64.wrap (IntKind.i64.wrap (s*b.2.1)+r)=enP b.2.1 (s,r):=by
    rw[w64 (x:=s*b.2.1) (by omega) (by omega),w64 (by omega) (by omega)];rfl
   rw[hw]
   have hz:((enP b.2.1 (s,r)).toNat:Int)=enP b.2.1 (s,r):=by omega
   have hN:((a.2.1*b.2.1).toNat:Int)=a.2.1*b.2.1:=by omega
   have hg2:gi seen (enP b.2.1 (s,r))=some (decide ((s,r)∈S.1)):=by
    unfold gi
    rw[if_pos hr.1,h4.2 _ (by omega),hz]
    simp only[i0m h1 (q:=(s,r)) hq2]
   rw[show(!false)=true from rfl,T1,hg2,oB]
   cases e:lkP (s,r) S.1 0 with
   |none =>
    have hno:=B07.1 e
    rw[e08 e]at g1 g2 g3 ⊢
    have hs':=z0b h4 hr.1 (by omega)
    obtain⟨seen',k1,k2⟩:=ih (S.1 ++ [(s,r)],_) _ g1 g2 g3 hs'
    rw[if_pos (by simp[hno]),oB,C0 (by simp;omega),oB]
    refine⟨seen',?_,k2⟩
    rw[←k1]
    simp only[List.map_append,List.map_cons,List.map_nil]
   |some k' =>
    have hin:(s,r)∈S.1:=List.mem_of_getElem? (F0h e)
    rw[d08 e]at g1 g2 g3 ⊢
    rw[if_neg (by simp[hin])]
    exact ih (S.1,bif decide (0<x)then S.2 ++ [((i:Int),x,(k':Int))]else S.2) seen h1 h2 h3 h4
theorem q0p{a b:j0}(ha:D0 a=true)(hb:D0 b=true)(ls:List Int)(hls:∀ x∈ls,L7 x)(hl:ls.length<=1000):∀(d i fuel:Nat) (S:PSt) (seen:List Bool),i+d=1601->d<fuel->y06 a b S.1->S.1.Nodup->i<=S.1.length->J08 b.2.1 (a.2.1*b.2.1).toNat seen S.1 ->
  ∃ seen',K7 ls b.2.1 a.1 a.2.1 a.2.2 b.1 b.2.2 fuel (i:Int) seen (S.1.map (enP b.2.1))=some (seen',(pbO a b ls d i S).1.map (enP b.2.1))
 |d,i,0,S,seen,hd,hf,h1,h2,h3,h4=>by omega
 |0,i,fuel+1,S,seen,hd,hf,h1,h2,h3,h4=>by
  obtain⟨qa,ra,na,la⟩:=F1 (V0 ha)
  obtain⟨qb,rb,nb,lb⟩:=F1 (V0 hb)
  have:=C07 na nb h1 h2
  omega
 |d+1,i,fuel+1,S,seen,hd,hf,h1,h2,h3,h4=>by
  obtain⟨qa,ra,na,la⟩:=F1 (V0 ha)
  obtain⟨qb,rb,nb,lb⟩:=F1 (V0 hb)
  have hlen:=C07 na nb h1 h2
  rw[K7.eq_2,oB,List.length_map,C0 (by omega),oB]
  cases e:S.1[i]? with
  |none =>
   have:=List.getElem?_eq_none_iff.1 e
   rw[if_neg (by simp only[decide_eq_true_eq];omega)]
   simp only[pbO,e]
   exact⟨seen,rfl⟩
  |some p =>
   have hlt:=(List.getElem?_eq_some_iff.1 e).1
   obtain⟨g1,g2⟩:=H0h qa qb i p ls S h1 h2
   obtain⟨t1,ht1⟩:=f08 a b i p ls S
   obtain⟨seen1,k1,k2⟩:=p0p ha hb ls hls hl i p ls.length 0 Q0 S seen (by omega) (Y0 (by omega)) h1 h2 e h4
   rw[List.drop_zero,show((0:Nat):Int)=0 from rfl]at k1
   rw[List.drop_zero]at k2
   obtain⟨seen2,k3⟩:=q0p ha hb ls hls hl d (i+1) fuel (pbI a b i p ls S) seen1 (by omega) (by omega) g1 g2 (by rw[ht1];simp;omega) k2
   rw[if_pos (by simp only[decide_eq_true_eq];omega),k1,oB]
   simp only
   rw[Z1 (show i<2000 by omega) (by omega),k3]
   simp only[pbO,e]
   exact⟨seen2,rfl⟩
theorem V0k{a b:j0}(ha:D0 a=true)(hb:D0 b=true)(hr:a.1=b.1){u v:Int}(hu:0<=u/\u<a.2.1)(hv:0<=v/\v<b.2.1):
  h01 a b u v=some ((pbO a b (T2 a.1.toNat 1) 1601 0 ([(u,v)],[])).1.map (enP b.2.1)):=by
 obtain⟨qa,ra,na,la⟩:=F1 (V0 ha)
 obtain⟨qb,rb,nb,lb⟩:=F1 (V0 hb)
 obtain⟨R,hR⟩:∃ R:Nat,a.1=(R:Int):=⟨a.1.toNat,by omega⟩
 have hRt:a.1.toNat=R:=by omega
 have h0:y06 a b [(u,v)]:=λq hq=>by simp at hq;subst hq;exact⟨hu,hv⟩
 have hz:=g08 (p:=(u,v)) hu hv
 have h40:a.2.1*b.2.1<=40*40:=Int.mul_le_mul na.2 nb.2 (by omega) (by omega)
 have hen:enP b.2.1 (u,v)=u*b.2.1+v:=rfl
 have hs0:0<=u*b.2.1:=Int.mul_nonneg hu.1 (by omega)
 have hz2:((enP b.2.1 (u,v)).toNat:Int)=enP b.2.1 (u,v):=by omega
 have hN:((a.2.1*b.2.1).toNat:Int)=a.2.1*b.2.1:=by omega
 have hseen:J08 b.2.1 (a.2.1*b.2.1).toNat ((List.replicate (a.2.1*b.2.1).toNat false).set (enP b.2.1 (u,v)).toNat true) [(u,v)]:=by
  have:J08 b.2.1 (a.2.1*b.2.1).toNat (List.replicate (a.2.1*b.2.1).toNat false) []:=⟨by simp,λj hj=>by rw[List.getElem?_replicate,if_pos hj];simp⟩
  have:=z0b this (q:=(u,v)) hz.1 (by omega)
  simpa using this
 obtain⟨seen',h⟩:=q0p ha hb (T2 R 1) (h0m (by omega)) (by rw[R8];omega) 1601 0 Q0 ([(u,v)],[]) _ (by omega) (Y0 (by omega)) h0 (by simp) (by simp) hseen
 rw[show((0:Nat):Int)=0 from rfl]at h
 rw[hRt]
 have hw:IntKind.i64.wrap (IntKind.i64.wrap (u*b.2.1)+v)=enP b.2.1 (u,v):=by
  rw[w64 (x:=u*b.2.1) (by omega) (by omega),w64 (by omega) (by omega)];rfl
 have hw2:IntKind.i64.wrap (a.2.1*b.2.1)=a.2.1*b.2.1:=w64 (by omega) (by omega)
 have hg:gi (List.replicate (a.2.1*b.2.1).toNat (false:Bool)) (enP b.2.1 (u,v))=some false:=by
  unfold gi
  rw[if_pos hz.1,List.getElem?_replicate,if_pos (by omega)]
 have hL:Y4 (if b.1<a.1 then b.1 else a.1)=some (T2 R 1):=by
  rw[if_neg (by omega),hR];exact j0e R (by omega)
 obtain⟨a0,a1,a2⟩:=a
 obtain⟨b0,b1,b2⟩:=b
 unfold h01
 simp only at *
 rw[hw,hw2,C0 ⟨by omega,by omega,by omega,by omega⟩,oB,show gi [enP b1 (u,v)] 0=some (enP b1 (u,v)) from c09 rfl,oB,hg,oB,hL,oB]
 simp only[List.map_cons,List.map_nil]at h
 rw[h];rfl
theorem D0q{a b:j0}{ps:Prs}{i:Nat}{p:Int×Int}(d x:Nat)(hx:1<=x):eL a b ps i p (T2 (d+1) x)=(match stP a b (x:Int) p with
  |some q=>[((i:Int),(x:Int),lkZ q ps)]
  |none=>[])++eL a b ps i p (T2 d (x+1)):=by
 have h1:decide (0<(x:Int))=true:=decide_eq_true (by omega)
 have h2:decide (0 < -(x:Int))=false:=decide_eq_false (by omega)
 rw[T2,eL,eL,h1,h2]
 cases stP a b (x:Int) p<;>cases stP a b (-(x:Int)) p<;>simp
theorem r0p{a b:j0}{x:Int}{p:Int×Int}:(stP a b x p=none/\(bif decide (N0 a p.1 x ≥ 0)then decide (N0 b p.2 x ≥ 0)else false)=false) ∨
  (stP a b x p=some (N0 a p.1 x,N0 b p.2 x)/\0<=N0 a p.1 x/\0<=N0 b p.2 x):=by
 unfold stP
 cases c:decide (N0 a p.1 x<0) || decide (N0 b p.2 x<0)with
 |true =>
  refine .inl ⟨rfl,?_⟩
  simp only[Bool.or_eq_true,decide_eq_true_eq]at c
  by_cases c1:N0 a p.1 x<0
  ·rw[decide_eq_false (by omega)];rfl
  ·rw[decide_eq_true (by omega),cond_true,decide_eq_false (by omega)]
 |false =>
  simp only[Bool.or_eq_false_iff,decide_eq_false_iff_not]at c
  exact .inr ⟨rfl,by omega,by omega⟩
theorem s0p{a b:j0}(ha:D0 a=true)(hb:D0 b=true)(hr:a.1=b.1)(ps:Prs)(h1:y06 a b ps)(i:Nat)(p:Int×Int)(hp:ps[i]?=some p)(qs:Prs):∀(d x fuel c:Nat),x+d=a.1.toNat+1->1<=x->d<fuel->c+d<=1000000 ->
  U5 b.1 a.1 (ps.map (enP b.2.1)) (i:Int) b.2.1 a.2.1 a.2.2 b.2.2 fuel (c:Int) (x:Int)=some (((c+(eL a b qs i p (T2 d x)).length:Nat):Int))
 |d,x,0,c,hd,hx,hf,hc=>by omega
 |0,x,fuel+1,c,hd,hx,hf,hc=>by
  obtain⟨qa,ra,na,la⟩:=F1 (V0 ha)
  rw[U5.eq_2,if_neg (by rw[if_neg (show ¬ b.1<a.1 by omega)];simp only[decide_eq_true_eq];omega)]
  simp[T2,eL]
 |d+1,x,fuel+1,c,hd,hx,hf,hc=>by
  obtain⟨qa,ra,na,la⟩:=F1 (V0 ha)
  obtain⟨qb,rb,nb,lb⟩:=F1 (V0 hb)
  have hm:L7 (x:Int):=⟨⟨by omega,by omega⟩,by omega⟩
  have ih:=λc'=>s0p ha hb hr ps h1 i p hp qs d (x+1) fuel c' (by omega) (by omega) (by omega)
  have ea:=M01 a p.1 (x:Int) hm (by omega)
  have eb:=M01 b p.2 (x:Int) hm (by omega)
  have ia:=C01 qa (by omega) p.1 (x:Int)
  have ib:=C01 qb (by omega) p.2 (x:Int)
  have hpi:=h1 p (List.mem_of_getElem? hp)
  obtain⟨d1,d2⟩:=f0m (m:=b.2.1) hpi.1.1 hpi.2
  have hg:gi (ps.map (enP b.2.1)) (i:Int)=some (enP b.2.1 p):=I2 (by rw[List.getElem?_map,hp];rfl)
  have e5:(a.1,a.2.1,a.2.2)=a:=rfl
  have e6:(b.1,b.2.1,b.2.2)=b:=rfl
  rw[U5.eq_2,if_pos (by rw[if_neg (show ¬ b.1<a.1 by omega)];simp only[decide_eq_true_eq];omega)]
  simp only[hg,oB,C0 (show b.2.1≠0 by omega),d1,e5,e6]
  rw[w64 (by omega) (by omega),ea,oB,C0 ia,oB,Z1 (show x<2000 by omega) (by omega),D0q d x hx]
  rcases r0p (a:=a) (b:=b) (x:=(x:Int)) (p:=p)with⟨k1,k2⟩|⟨k1,k2,k3⟩
  ·rw[k1]
   cases hA:decide (N0 a p.1 (x:Int) ≥ 0)with
   |false =>
    simp only[C3,oB]
    rw[C0 (show P0 0 from⟨by omega,by omega⟩),oB,if_neg (by simp),ih c (by omega)]
    simp
   |true =>
    rw[hA,cond_true]at k2
    simp only[T1,oB,d2]
    rw[eb,oB,C0 ib,oB,k2,if_neg (by simp),ih c (by omega)]
    simp
  ·rw[k1,decide_eq_true k2]
   simp only[T1,oB,d2]
   rw[eb,oB,C0 ib,oB,decide_eq_true k3,if_pos (show(bif true then true else false)=true from rfl),Z1 (show c<2000000 by omega) (by omega),ih (c+1) (by omega)]
   simp only[List.length_append,List.length_cons,List.length_nil]
   congr 2
   omega
theorem t0p{a b:j0}(ha:D0 a=true)(hb:D0 b=true)(hr:a.1=b.1)(ps:Prs)(h1:y06 a b ps)(hl:ps.length<=1600):∀(d i fuel c:Nat),i+d=ps.length->d<fuel->c+10*d<=100000 ->
  R6 (ps.map (enP b.2.1)) b.1 a.1 b.2.1 a.2.1 a.2.2 b.2.2 fuel (c:Int) (i:Int)=some (((c+(eB a b (T2 a.1.toNat 1) ps (ps.drop i) i).length:Nat):Int))
 |d,i,0,c,hd,hf,hc=>by omega
 |0,i,fuel+1,c,hd,hf,hc=>by
  rw[R6.eq_2,if_neg (by simp only[decide_eq_true_eq,List.length_map];omega),K1 (by omega)]
  simp[eB]
 |d+1,i,fuel+1,c,hd,hf,hc=>by
  obtain⟨qa,ra,na,la⟩:=F1 (V0 ha)
  have hk:i<ps.length:=by omega
  have hx:=Y5 hk
  have hdr:=O1 hx
  generalize ps[i]=p at hx hdr
  have h0:=s0p ha hb hr ps h1 i p hx ps a.1.toNat 1 Q0 c (by omega) (by omega) (Y0 (by omega)) (by omega)
  have hel:=I0h (a:=a) (b:=b) (ps:=ps) (i:=i) (p:=p) (T2 a.1.toNat 1)
  rw[R8]at hel
  rw[R6.eq_2,if_pos (by simp only[decide_eq_true_eq,List.length_map];omega),show(1:Int)=((1:Nat):Int) from rfl,h0,oB,hdr,eB,show((1:Nat):Int)=1 from rfl,Z1 (show i<2000 by omega) (by omega),t0p ha hb hr ps h1 hl d (i+1) fuel _ (by omega) (by omega) (by omega),List.length_append]
  congr 2
  omega
theorem u0p{a b:j0}(ha:D0 a=true)(hb:D0 b=true){u v:Int}(hu:inR 0 (a.2.1-1) u=true)(hv:inR 0 (b.2.1-1) v=true)(ls:List Int):
  ∃ ps:Prs,(pbO a b ls 1601 0 ([(u,v)],[]))=(ps,eB a b ls ps ps 0)/\y06 a b ps/\ps.Nodup/\1<=ps.length/\ps.length<=1600/\∀(j:Nat) (p:Int×Int),ps[j]?=some p->∀ x∈ls,∀ q,stP a b x p=some q->q∈ps:=by
 obtain⟨qa,ra,na,la⟩:=F1 (V0 ha)
 obtain⟨qb,rb,nb,lb⟩:=F1 (V0 hb)
 obtain⟨t,k1,k2,k3,k4,k5⟩:=W0c qa qb na nb ls 1601 0 ([(u,v)],[]) (o0p hu hv) (by simp) (by simp) (by omega)
 refine⟨[(u,v)]++t,Prod.ext k1 (by rw[k4];simp),k2,k3,by simp,C07 na nb k2 k3,λj p hp=>k5 j p (Nat.zero_le _) hp⟩
theorem u0g{α:Type}{xs:List α}{i:Int}{x:α}(h:gi xs i=some x)(y:α):gi (xs.set i.toNat y) i=some y:=by
 obtain⟨h0,h1⟩:=W07 h
 have:=(List.getElem?_eq_some_iff.1 h1).1
 unfold gi
 rw[if_pos h0,List.getElem?_set,if_pos rfl,if_pos this]
theorem v0g{α:Type}{xs:List α}{i j:Int}(hi:0<=i)(hj:0<=j)(hne:i≠j)(y:α):gi (xs.set i.toNat y) j=gi xs j:=by
 unfold gi
 rw[if_pos hj,if_pos hj,List.getElem?_set,if_neg (by omega)]
def I0e(n m:Int)(M:E2)(G:Prs):Prop:=∀ q:Int×Int,(0<=q.1/\q.1<n)->(0<=q.2/\q.2<m)->∃ row y,gi M q.1=some row/\gi row q.2=some y/\(y<0↔q ∉ G)
theorem I0e.put{n m:Int}{M:E2}{G:Prs}(h:I0e n m M G){q:Int×Int}(h1:0<=q.1/\q.1<n)(h2:0<=q.2/\q.2<m){row:F0}(hr:gi M q.1=some row){v:Int}(hv:0<=v):I0e n m (M.set q.1.toNat (row.set q.2.toNat v)) (G ++ [q]):=by
 intro p p1 p2
 obtain⟨r,y,e1,e2,e3⟩:=h p p1 p2
 by_cases c:p.1=q.1
 ·have hrr:r=row:=by rw[c,hr]at e1;exact(oJ e1).symm
  subst hrr
  refine⟨r.set q.2.toNat v,?_⟩
  rw[c,u0g hr]
  by_cases c2:p.2=q.2
  ·refine⟨v,rfl,by rw[c2]at e2 ⊢;exact u0g e2 v,?_⟩
   have:p=q:=Prod.ext c c2
   subst this
   simp;omega
  ·refine⟨y,rfl,by rw[v0g h2.1 p2.1 (λe=>c2 e.symm)];exact e2,?_⟩
   rw[e3]
   simp only[List.mem_append,List.mem_singleton,not_or]
   exact⟨λe=>⟨e,λe'=>c2 (by rw[e'])⟩,λe=>e.1⟩
 ·refine⟨r,y,by rw[v0g h1.1 p1.1 (λe=>c e.symm)];exact e1,e2,?_⟩
  rw[e3]
  simp only[List.mem_append,List.mem_singleton,not_or]
  exact⟨λe=>⟨e,λe'=>c (by rw[e'])⟩,λe=>e.1⟩
theorem E0q{P:Int×Int->Prop}{i:Nat}{x:Int}{q:Option (Int×Int)}{S:PSt}(hq:∀ q',q=some q'->P q')(hS:∀ q'∈S.1,P q'):∀ q'∈(pbS i x q S).1,P q':=by
 cases q with
 |none=>exact hS
 |some q =>
  cases e:lkP q S.1 0 with
  |none =>
   rw[e08 e]
   intro q' h
   rcases List.mem_append.1 h with h|h
   ·exact hS q' h
   ·simp at h;subst h;exact hq _ rfl
  |some k=>rw[d08 e];exact hS
theorem J0h{a b:j0}{P:Int×Int->Prop}{i:Nat}{p:Int×Int}:∀ {ls:List Int},(∀ x∈ls,∀ q,stP a b x p=some q->P q)->∀(S:PSt),(∀ q∈S.1,P q)->∀ q∈(pbI a b i p ls S).1,P q
 | [],_,S,hS=>hS
 |x::r,h,S,hS=>J0h (λy hy=>h y (mC _ hy)) _ (E0q (h x mS) hS)
theorem j0m{a b:j0}{P:Int×Int->Prop}{ls:List Int}(h:∀ p,P p->∀ x∈ls,∀ q,stP a b x p=some q->P q):∀(f i:Nat) (S:PSt),(∀ q∈S.1,P q)->∀ q∈(pbO a b ls f i S).1,P q
 |0,i,S,hS=>hS
 |f+1,i,S,hS=>by
  cases e:S.1[i]? with
  |none=>simp only[pbO,e];exact hS
  |some p =>
   simp only[pbO,e]
   exact j0m h f (i+1) _ (J0h (h p (hS p (List.mem_of_getElem? e))) S hS)
theorem v0p{a b:j0}(ha:D0 a=true)(hb:D0 b=true)(ls:List Int)(hls:∀ x∈ls,L7 x)(hl:ls.length<=1000)(i:Nat)(p:Int×Int)(out:List B9)(ho:out.length<=1000000)(u v w:Int)(z:Bool)(G:Prs)
  (hG:∀ x∈ls,∀ q,stP a b x p=some q->q ∉ G):∀(d k fuel:Nat) (S:PSt) (M:E2),k+d=ls.length->d<fuel ->
  y06 a b S.1->S.1.Nodup->S.1[i]?=some p->S.2.length<=i*1000+k->i<=2000->I0e a.2.1 b.2.1 M (G++S.1) ->
  ∃ M',U4 ls (i:Int) a.1 a.2.1 a.2.2 b.1 b.2.1 b.2.2 out fuel (k:Int) u v w ((S.2.length:Nat):Int) z S.1 M=some (u,v,w,(((pbI a b i p (ls.drop k) S).2.length:Nat):Int),z,(pbI a b i p (ls.drop k) S).1,M')/\I0e a.2.1 b.2.1 M' (G++(pbI a b i p (ls.drop k) S).1)
 |d,k,0,S,M,hd,hf,h1,h2,h3,h4,h5,hM=>by omega
 |0,k,fuel+1,S,M,hd,hf,h1,h2,h3,h4,h5,hM=>by
  rw[U4.eq_2,if_neg (by simp only[decide_eq_true_eq];omega),K1 (by omega)];exact⟨M,rfl,hM⟩
 |d+1,k,fuel+1,S,M,hd,hf,h1,h2,h3,h4,h5,hM=>by
  have hk:k<ls.length:=by omega
  have hx:=Y5 hk
  have hxm:=List.mem_of_getElem? hx
  have hm:=hls _ hxm
  have hGx:=hG _ hxm
  have hdr:=O1 hx
  generalize ls[k]=x at hx hxm hm hdr hGx
  obtain⟨qa,ra,na,la⟩:=F1 (V0 ha)
  obtain⟨qb,rb,nb,lb⟩:=F1 (V0 hb)
  have ih:=λS' M'=>v0p ha hb ls hls hl i p out ho u v w z G hG d (k+1) fuel S' M' (by omega) (by omega)
  have ea:=i03 a p.1 x hm (by omega)
  have eb:=i03 b p.2 x hm (by omega)
  have ia:=C01 qa (by omega) p.1 x
  have ib:=C01 qb (by omega) p.2 x
  have na':=y00 qa p.1 x
  have nb':=y00 qb p.2 x
  have hlen:=C07 na nb h1 h2
  obtain⟨g1,g2⟩:=U0k qa qb i x p S h1 h2
  obtain⟨t,ht⟩:=G0h i x (stP a b x p) S
  have g3:(pbS i x (stP a b x p) S).1[i]?=some p:=by rw[ht,List.getElem?_append_left (List.getElem?_eq_some_iff.1 h3).1];exact h3
  rw[U4.eq_2,if_pos (by simp only[decide_eq_true_eq];omega),I2 hx,oB,I2 h3,oB,Z1 hk (by omega),hdr,pbI]
  have e0:stP a b x p=(bif decide (N0 a p.1 x<0) || decide (N0 b p.2 x<0)then none else some (N0 a p.1 x,N0 b p.2 x)):=rfl
  have e5:(a.1,a.2.1,a.2.2)=a:=rfl
  have e6:(b.1,b.2.1,b.2.2)=b:=rfl
  obtain⟨p1,p2⟩:=p
  simp only[e5,e6]at ea eb ia ib na' nb' ih g1 g2 g3 e0 hGx ⊢
  rw[ea,oB,C0 ia,oB,oB,eb,oB,C0 ib,oB]
  have hc:(bif decide (N0 a p1 x<0)then true else decide (N0 b p2 x<0))=(decide (N0 a p1 x<0) || decide (N0 b p2 x<0)):=by
   cases decide (N0 a p1 x<0)<;>rfl
  rw[hc]
  cases c:decide (N0 a p1 x<0) || decide (N0 b p2 x<0)with
  |true =>
   rw[c,cond_true]at e0
   rw[if_pos rfl,e0]
   exact ih S M h1 h2 h3 (by omega) h5 hM
  |false =>
   rw[c,cond_false]at e0
   simp only[Bool.or_eq_false_iff,decide_eq_false_iff_not]at c
   have hq1:0<=N0 a p1 x/\N0 a p1 x<a.2.1:=by omega
   have hq2:0<=N0 b p2 x/\N0 b p2 x<b.2.1:=by omega
   have hnG:=hGx _ e0
   rw[e0]at g1 g2 g3 ⊢
   rw[if_neg (by simp)]
   generalize N0 a p1 x=s at *
   generalize N0 b p2 x=r at *
   obtain⟨row,y,m1,m2,m3⟩:=hM (s,r) hq1 hq2
   simp only at m1 m2
   simp only[m1,m2,oB]
   cases e:lkP (s,r) S.1 0 with
   |none =>
    have hno:=B07.1 e
    have hy:y<0:=m3.2 (by simp only[List.mem_append,not_or];exact⟨hnG,hno⟩)
    have hP:=hM.put (q:=(s,r)) hq1 hq2 m1 (v:=((out.length:Nat):Int)) (by omega)
    rw[List.append_assoc]at hP
    rw[e08 e]at g1 g2 g3 ⊢
    simp only[decide_eq_true hy,if_true]
    rw[C0 (by omega),oB,C0 (by simp;omega),oB]
    by_cases c2:0<x
    ·have:=ih (S.1 ++ [(s,r)],S.2 ++ [((i:Int),x,(S.1.length:Int))]) _ g1 g2 g3 (by simp;omega) h5 hP
     simp only[c2,decide_true,cond_true,List.length_append,List.length_singleton]at this ⊢
     rw[if_pos (by simp),Z1 (n:=S.2.length) (m:=9000000) (by omega) (by omega)]
     exact this
    ·have:=ih (S.1 ++ [(s,r)],S.2) _ g1 g2 g3 (by simp;omega) h5 hP
     rw[if_neg (by simpa using c2)]
     simp only[c2,decide_false,cond_false]at this ⊢
     exact this
   |some k' =>
    have hin:(s,r)∈S.1:=List.mem_of_getElem? (F0h e)
    have hy : ¬ y<0:=λh=>m3.1 h (List.mem_append_right _ hin)
    rw[d08 e]at g1 g2 g3 ⊢
    simp only[decide_eq_false hy,Bool.false_eq_true,if_false]
    by_cases c2:0<x
    ·have:=ih (S.1,S.2 ++ [((i:Int),x,(k':Int))]) M g1 g2 g3 (by simp;omega) h5 hM
     simp only[c2,decide_true,cond_true,List.length_append,List.length_singleton]at this ⊢
     rw[if_pos (by simp),Z1 (n:=S.2.length) (m:=9000000) (by omega) (by omega)]
     exact this
    ·have:=ih (S.1,S.2) M g1 g2 g3 (by simp;omega) h5 hM
     rw[if_neg (by simpa using c2)]
     simp only[c2,decide_false,cond_false]at this ⊢
     exact this
def eqP(p:Int×Int):Bool:=decide (p.1=p.2)
theorem w0p{a b:j0}(ha:D0 a=true)(hb:D0 b=true)(out:List B9)(ho:out.length<=1000000)(u v:Int)(G:Prs){G':Int×Int->Prop}(hG':∀ p,G' p->p ∉ G)
  (hG:∀ p,G' p->∀ x∈T2 a.1.toNat 1,∀ q,stP a b x p=some q->G' q):∀(d i fuel:Nat) (S:PSt) (M:E2) (z:Bool),i+d=1601->d<fuel->y06 a b S.1->S.1.Nodup->i<=S.1.length->S.2.length<=i*1000->(∀ p∈S.1,G' p)->I0e a.2.1 b.2.1 M (G++S.1) ->
  ∃ M',n9 a.1 a.2.1 a.2.2 b.1 b.2.1 b.2.2 out fuel (i:Int) u v (i:Int) ((S.2.length:Nat):Int) z S.1 M=some (u,v,(((pbO a b (T2 a.1.toNat 1) d i S).1.length:Nat):Int),(((pbO a b (T2 a.1.toNat 1) d i S).2.length:Nat):Int),(z || ((pbO a b (T2 a.1.toNat 1) d i S).1.drop i).any eqP),(pbO a b (T2 a.1.toNat 1) d i S).1,M') /\
   I0e a.2.1 b.2.1 M' (G++(pbO a b (T2 a.1.toNat 1) d i S).1)
 |d,i,0,S,M,z,hd,hf,h1,h2,h3,h4,h6,hM=>by omega
 |0,i,fuel+1,S,M,z,hd,hf,h1,h2,h3,h4,h6,hM=>by
  obtain⟨qa,ra,na,la⟩:=F1 (V0 ha)
  obtain⟨qb,rb,nb,lb⟩:=F1 (V0 hb)
  have:=C07 na nb h1 h2
  omega
 |d+1,i,fuel+1,S,M,z,hd,hf,h1,h2,h3,h4,h6,hM=>by
  obtain⟨qa,ra,na,la⟩:=F1 (V0 ha)
  obtain⟨qb,rb,nb,lb⟩:=F1 (V0 hb)
  have hlen:=C07 na nb h1 h2
  obtain⟨R,hR⟩:∃ R:Nat,a.1=(R:Int):=⟨a.1.toNat,by omega⟩
  have hi2:i<=2000:=by omega
  have hRt:a.1.toNat=R:=by omega
  rw[hRt]at hG ⊢
  rw[n9.eq_2,oB,C0 (by omega),oB]
  cases e:S.1[i]? with
  |none =>
   have:=List.getElem?_eq_none_iff.1 e
   rw[if_neg (by simp only[decide_eq_true_eq];omega)]
   have hi:i=S.1.length:=by omega
   simp only[pbO,e]
   refine⟨M,?_,hM⟩
   rw[hi,List.drop_length];simp
  |some p =>
   have hlt:=(List.getElem?_eq_some_iff.1 e).1
   obtain⟨g1,g2⟩:=H0h qa qb i p (T2 R 1) S h1 h2
   obtain⟨e1,e2⟩:=y0b (a:=a) (b:=b) (i:=i) (p:=p) (T2 R 1) S
   obtain⟨t1,ht1⟩:=f08 a b i p (T2 R 1) S
   have hl:=R8 R 1
   have hel:=I0h (a:=a) (b:=b) (ps:=(pbI a b i p (T2 R 1) S).1) (i:=i) (p:=p) (T2 R 1)
   have hpG:=h6 p (List.mem_of_getElem? e)
   obtain⟨M1,k1,k2⟩:=v0p ha hb (T2 R 1) (h0m (by omega)) (by omega) i p out ho u v (((i+1:Nat)):Int) (z || eqP p) G (λx hx q hq=>hG' q (hG p hpG x hx q hq)) (T2 R 1).length 0 Q0 S M (by omega) (Y0 (by omega)) h1 h2 e (Nat.le_trans h4 (Nat.le_add_right _ _)) hi2 hM
   rw[List.drop_zero,show((0:Nat):Int)=0 from rfl]at k1
   rw[List.drop_zero]at k2
   have g6:∀ q∈(pbI a b i p (T2 R 1) S).1,G' q:=J0h (P:=G') (λx hx q hq=>hG p hpG x hx q hq) S h6
   obtain⟨M2,k3,k4⟩:=w0p ha hb out ho u v G hG' (by rw[hRt];exact hG) d (i+1) fuel (pbI a b i p (T2 R 1) S) M1 (z || eqP p) (by omega) (by omega) g1 g2 (by rw[ht1];simp;omega) (by rw[e1,List.length_append];omega) g6 k2
   rw[hRt]at k3 k4
   obtain⟨t,t1',_⟩:=W0c qa qb na nb (T2 R 1) d (i+1) (pbI a b i p (T2 R 1) S) g1 g2 (by rw[ht1];simp;omega) (by omega)
   have hget:(pbO a b (T2 R 1) d (i+1) (pbI a b i p (T2 R 1) S)).1[i]?=some p:=by
    have:=g0m (a:=a) (b:=b) (i:=i) (p:=p) (ls:=T2 R 1) e
    rw[t1',List.getElem?_append_left (List.getElem?_eq_some_iff.1 this).1];exact this
   rw[if_pos (by simp only[decide_eq_true_eq];omega)]
   have hch:(chk (!z) (gi S.1 (i:Int)) (0,0))=some (bif z then(0,0)else p):=by
    cases z
    ·rw[show(!false)=true from rfl,T1,I2 e];rfl
    ·rfl
   have hz:(bif z then true else decide ((bif z then((0,0):Int×Int)else p).1=(bif z then((0,0):Int×Int)else p).2))=(z || eqP p):=by
    cases z<;>rfl
   rw[hch,oB]
   simp only[]
   rw[oB,show W4 a.1=some (T2 R 1) by rw[hR];exact v0h R (by omega),oB,hz,Z1 (show i<2000 by omega) (by omega),k1,oB]
   simp only
   rw[k3]
   simp only[pbO,e]
   rw[O1 hget]
   refine⟨M2,?_,k4⟩
   rw[List.any_cons,Bool.or_assoc]
abbrev pbA(a b:j0)(q:Int×Int):PSt:=pbO a b (T2 a.1.toNat 1) 1601 0 ([q],[])
def C0j(a b:j0)(q:Int×Int):B9:=(q.1,q.2,(((pbA a b q).1.length:Nat):Int),(((pbA a b q).2.length:Nat):Int),(pbA a b q).1.any eqP)
def R04(a b:j0)(T:Prs×List B9)(q:Int×Int):Prs×List B9:=bif decide (q∈T.1)then T else(T.1++(pbA a b q).1,T.2 ++ [C0j a b q])
def J0e(u:Nat)(v:Nat):Nat->Prs
 |0=>[]
 |d+1=>((u:Int),(v:Int))::J0e u (v+1) d
def y05(m:Nat)(u:Nat):Nat->Prs
 |0=>[]
 |d+1=>J0e u 0 m++y05 m (u+1) d
def K0e(a b:j0)(G:Prs):Prop:=∀ p∈G,∀ x∈T2 a.1.toNat 1,∀ q,stP a b x p=some q->q∈G
theorem k0m{a b:j0}(ha:D0 a=true)(hb:D0 b=true){x:Int}{p q:Int×Int}(h:stP a b x p=some q)(hp:0<=p.1/\0<=p.2):stP a b (-x) q=some p:=by
 unfold stP at h
 cases c:decide (N0 a p.1 x<0) || decide (N0 b p.2 x<0)with
 |true=>rw[c]at h;cases h
 |false =>
  rw[c,cond_false]at h
  cases h
  simp only[Bool.or_eq_false_iff,decide_eq_false_iff_not]at c
  have h1:=c08 ha (v:=p.1) (x:=x) rfl (by omega)
  have h2:=c08 hb (v:=p.2) (x:=x) rfl (by omega)
  unfold stP
  simp only[h1,h2]
  rw[decide_eq_false (by omega),decide_eq_false (by omega)]
  rfl
theorem x0p{d:Nat}{x:Int}(h:x∈T2 d 1): -x∈T2 d 1:=by
 obtain⟨j,j1,j2,j3⟩:=w07 d 1 x h
 have:=w0e d 1 j j1 j2
 rcases j3 with rfl|rfl
 ·exact this.2
 ·rw[Int.neg_neg];exact this.1
def y0p(a b:j0)(G:Prs)(p:Int×Int):Prop:=(0<=p.1/\0<=p.2)/\p ∉ G
theorem K0e.out{a b:j0}(ha:D0 a=true)(hb:D0 b=true){G:Prs}(hc:K0e a b G):∀ p,y0p a b G p->∀ x∈T2 a.1.toNat 1,∀ q,stP a b x p=some q->y0p a b G q:=by
 intro p hp x hx q hq
 obtain⟨qa,_⟩:=F1 (V0 ha)
 obtain⟨qb,_⟩:=F1 (V0 hb)
 have hi:=T0k qa qb hq
 exact⟨⟨hi.1.1,hi.2.1⟩,λhm=>hp.2 (hc q hm (-x) (x0p hx) p (k0m ha hb hq hp.1))⟩
theorem A0b{a b:j0}(ha:D0 a=true)(hb:D0 b=true){q:Int×Int}(h1:0<=q.1/\q.1<a.2.1)(h2:0<=q.2/\q.2<b.2.1):
  y06 a b (pbA a b q).1/\(pbA a b q).1.Nodup/\(pbA a b q).1.length<=1600/\(pbA a b q).2=eB a b (T2 a.1.toNat 1) (pbA a b q).1 (pbA a b q).1 0/\K0e a b (pbA a b q).1/\q∈(pbA a b q).1:=by
 obtain⟨ps,k1,k2,k3,k4,k5,k6⟩:=u0p ha hb (u:=q.1) (v:=q.2) (by simp[inR];omega) (by simp[inR];omega) (T2 a.1.toNat 1)
 obtain⟨qa,ra,na,la⟩:=F1 (V0 ha)
 obtain⟨qb,rb,nb,lb⟩:=F1 (V0 hb)
 obtain⟨t,t1,_⟩:=W0c qa qb na nb (T2 a.1.toNat 1) 1601 0 ([q],[]) (λq' h'=>by simp at h';subst h';exact⟨h1,h2⟩) (by simp) (by simp) (by omega)
 have e:pbA a b q=(ps,eB a b (T2 a.1.toNat 1) ps ps 0):=k1
 refine⟨by rw[e];exact k2,by rw[e];exact k3,by rw[e];exact k5,by rw[e],λp hp x hx q' hq=>?_,by rw[t1];simp⟩
 rw[e]at hp ⊢
 obtain⟨j,hj⟩:=List.getElem?_of_mem hp
 exact k6 j p hj x hx q' hq
theorem K0e.add{a b:j0}{G P:Prs}(h1:K0e a b G)(h2:K0e a b P):K0e a b (G++P):=by
 intro p hp x hx q hq
 rcases List.mem_append.1 hp with hp|hp
 ·exact List.mem_append_left _ (h1 p hp x hx q hq)
 ·exact List.mem_append_right _ (h2 p hp x hx q hq)
theorem L0e{a b:j0}:∀(qs:Prs) (T:Prs×List B9),(qs.foldl (R04 a b) T).2.length<=T.2.length+qs.length
 | [],T=>by simp
 |q::r,T=>by
  have:=L0e (a:=a) (b:=b) r (R04 a b T q)
  have h2:(R04 a b T q).2.length<=T.2.length+1:=by
   unfold R04
   cases decide (q∈T.1)
   ·rw[cond_false];simp
   ·rw[cond_true];omega
  rw[List.foldl_cons,List.length_cons];omega
theorem M0e(u:Nat):∀ d v,(J0e u v d).length=d
 |0,v=>rfl
 |d+1,v=>by rw[J0e,List.length_cons,M0e u d]
theorem z0p{a b:j0}(ha:D0 a=true)(hb:D0 b=true)(hr:a.1=b.1)(u:Nat)(hu:(u:Int)<a.2.1):∀(d v fuel:Nat) (T:Prs×List B9) (M:E2),v+d=b.2.1.toNat->d<fuel->K0e a b T.1->I0e a.2.1 b.2.1 M T.1->T.2.length+d<=100000 ->
  ∃ M',c7 b.2.1 (u:Int) a.1 a.2.1 a.2.2 b.1 b.2.2 fuel (v:Int) T.2 M=some (((J0e u v d).foldl (R04 a b) T).2,M')/\I0e a.2.1 b.2.1 M' ((J0e u v d).foldl (R04 a b) T).1/\K0e a b ((J0e u v d).foldl (R04 a b) T).1
 |d,v,0,T,M,hd,hf,hc,hM,hl=>by omega
 |0,v,fuel+1,T,M,hd,hf,hc,hM,hl=>by
  obtain⟨qb,rb,nb,lb⟩:=F1 (V0 hb)
  rw[c7.eq_2,if_neg (by simp only[decide_eq_true_eq];omega)]
  exact⟨M,rfl,hM,hc⟩
 |d+1,v,fuel+1,T,M,hd,hf,hc,hM,hl=>by
  obtain⟨qa,ra,na,la⟩:=F1 (V0 ha)
  obtain⟨qb,rb,nb,lb⟩:=F1 (V0 hb)
  have hv:(v:Int)<b.2.1:=by omega
  have q1:(0:Int)<=((u:Int),(v:Int)).1/\((u:Int),(v:Int)).1<a.2.1:=⟨by simp,hu⟩
  have q2:(0:Int)<=((u:Int),(v:Int)).2/\((u:Int),(v:Int)).2<b.2.1:=⟨by simp,hv⟩
  obtain⟨row,y,m1,m2,m3⟩:=hM ((u:Int),(v:Int)) q1 q2
  simp only at m1 m2
  obtain⟨f1,f2,f3,f4,f5,f6⟩:=A0b ha hb q1 q2
  have ih:=λT' M'=>z0p ha hb hr u hu d (v+1) fuel T' M' (by omega) (by omega)
  rw[c7.eq_2,if_pos (by simp only[decide_eq_true_eq];omega)]
  simp only[m1,m2,oB]
  rw[J0e,List.foldl_cons,Z1 (show v<2000 by omega) (by omega)]
  cases c:decide (((u:Int),(v:Int))∈T.1)with
  |true =>
   have hy:y ≥ 0:=by
    have : ¬ y<0:=λh=>m3.1 h (of_decide_eq_true c)
    omega
   rw[if_pos (by simpa using hy)]
   have e:R04 a b T ((u:Int),(v:Int))=T:=by unfold R04;rw[c];rfl
   rw[e]
   exact ih T M hc hM (by omega)
  |false =>
   have hn:((u:Int),(v:Int)) ∉ T.1:=of_decide_eq_false c
   have hy:y<0:=m3.2 hn
   rw[if_neg (by simp only[decide_eq_true_eq];omega)]
   have e:R04 a b T ((u:Int),(v:Int))=(T.1++(pbA a b ((u:Int),(v:Int))).1,T.2 ++ [C0j a b ((u:Int),(v:Int))]):=by unfold R04;rw[c];rfl
   have hP:=hM.put q1 q2 m1 (v:=((T.2.length:Nat):Int)) (by omega)
   have hout:∀ p,y0p a b T.1 p->∀ x∈T2 a.1.toNat 1,∀ q,stP a b x p=some q->y0p a b T.1 q:=K0e.out ha hb hc
   obtain⟨M1,k1,k2⟩:=w0p ha hb T.2 (by omega) (u:Int) (v:Int) T.1 (G':=y0p a b T.1) (λp h=>h.2) hout 1601 0 Q0 ([((u:Int),(v:Int))],[]) _ false (by omega) (Y0 (by omega)) (λq' h'=>by simp at h';subst h';exact⟨q1,q2⟩) (by simp) (by simp) (by simp) (λp hp=>by simp at hp;subst hp;exact⟨⟨q1.1,q2.1⟩,hn⟩) hP
   rw[C0 (by omega),oB]
   simp only[List.length_nil,Int.natCast_zero]at k1
   rw[k1,oB]
   simp only
   rw[C0 (by simp;omega),oB,e]
   have:=ih (T.1++(pbA a b ((u:Int),(v:Int))).1,T.2 ++ [C0j a b ((u:Int),(v:Int))]) M1 (hc.add f5) k2 (by simp;omega)
   simp only[C0j,List.drop_zero,Bool.false_or]at this ⊢
   exact this
theorem A0p{a b:j0}(ha:D0 a=true)(hb:D0 b=true)(hr:a.1=b.1):∀(d u fuel:Nat) (T:Prs×List B9) (M:E2),u+d=a.2.1.toNat->d<fuel->K0e a b T.1->I0e a.2.1 b.2.1 M T.1->T.2.length+40*d<=90000 ->
  ∃ M',W7 a.2.1 b.2.1 a.1 a.2.2 b.1 b.2.2 fuel (u:Int) T.2 M=some (((y05 b.2.1.toNat u d).foldl (R04 a b) T).2,M')
 |d,u,0,T,M,hd,hf,hc,hM,hl=>by omega
 |0,u,fuel+1,T,M,hd,hf,hc,hM,hl=>by
  obtain⟨qa,ra,na,la⟩:=F1 (V0 ha)
  rw[W7.eq_2,if_neg (by simp only[decide_eq_true_eq];omega)]
  exact⟨M,rfl⟩
 |d+1,u,fuel+1,T,M,hd,hf,hc,hM,hl=>by
  obtain⟨qa,ra,na,la⟩:=F1 (V0 ha)
  obtain⟨qb,rb,nb,lb⟩:=F1 (V0 hb)
  obtain⟨M1,k1,k2,k3⟩:=z0p ha hb hr u (by omega) b.2.1.toNat 0 Q0 T M (by omega) (Y0 (by omega)) hc hM (by omega)
  have hl2:=L0e (a:=a) (b:=b) (J0e u 0 b.2.1.toNat) T
  rw[M0e]at hl2
  obtain⟨M2,k4⟩:=A0p ha hb hr d (u+1) fuel _ M1 (by omega) (by omega) k3 k2 (by omega)
  rw[show((0:Nat):Int)=0 from rfl]at k1
  rw[W7.eq_2,if_pos (by simp only[decide_eq_true_eq];omega),k1,oB,y05,List.foldl_append]
  simp only
  rw[Z1 (show u<2000 by omega) (by omega),k4]
  exact⟨M2,rfl⟩
theorem B0p(u:Nat)(nx:Nat)(hnx:nx<=1000):∀(d k fuel:Nat) (M:E2) (row:F0),k+d=nx->d<fuel->M[u]?=some row->row.length=nx->(∀ j,j<k->row[j]?=some (-1)) ->
  ∃ M',V7 (u:Int) nx fuel (k:Int) M=some M'/\M'.length=M.length/\(∀ j,j≠u->M'[j]?=M[j]?)/\∃ row',M'[u]?=some row'/\row'.length=nx/\∀ j,j<nx->row'[j]?=some (-1)
 |d,k,0,M,row,hd,hf,h1,h2,h3=>by omega
 |0,k,fuel+1,M,row,hd,hf,h1,h2,h3=>by
  rw[V7.eq_2,if_neg (by simp only[decide_eq_true_eq];omega)]
  exact⟨M,rfl,rfl,λ_ _=>rfl,row,h1,h2,λj hj=>h3 j (by omega)⟩
 |d+1,k,fuel+1,M,row,hd,hf,h1,h2,h3=>by
  have hu:=(List.getElem?_eq_some_iff.1 h1).1
  obtain⟨M',k1,k2,k3,k4⟩:=B0p u nx hnx d (k+1) fuel (M.set u (row.set k (-1))) (row.set k (-1)) (by omega) (by omega) (by rw[List.getElem?_set,if_pos rfl,if_pos hu]) (by simpa using h2) (λj hj=>by
   rw[List.getElem?_set]
   by_cases c:k=j
   ·rw[if_pos c,if_pos (by omega)]
   ·rw[if_neg c];exact h3 j (by omega))
  have hk:k<row.length:=by omega
  rw[V7.eq_2,if_pos (by simp only[decide_eq_true_eq];omega),I2 h1,oB,I2 (Y5 hk),oB,Z1 (show k<2000 by omega) (by omega)]
  refine⟨M',k1,by rw[k2];simp,λj hj=>?_,k4⟩
  rw[k3 j hj,List.getElem?_set,if_neg (λe=>hj e.symm)]
theorem C0p(n m:Nat)(hn:n<=1000)(hm:m<=1000):∀(d u fuel:Nat) (M:E2),u+d=n->d<fuel->M.length=n->(∀ i,i<u->∃ row,M[i]?=some row/\row.length=m/\∀ j,j<m->row[j]?=some (-1)) ->
  ∃ M',Y7 n (m:Int) fuel (u:Int) M=some M'/\∀ i,i<n->∃ row,M'[i]?=some row/\row.length=m/\∀ j,j<m->row[j]?=some (-1)
 |d,u,0,M,hd,hf,h1,h2=>by omega
 |0,u,fuel+1,M,hd,hf,h1,h2=>by
  rw[Y7.eq_2,if_neg (by simp only[decide_eq_true_eq];omega)]
  exact⟨M,rfl,λi hi=>h2 i (by omega)⟩
 |d+1,u,fuel+1,M,hd,hf,h1,h2=>by
  have hu:u<M.length:=by omega
  have hset:(M.set u (List.replicate m (0:Int)))[u]?=some (List.replicate m 0):=by rw[List.getElem?_set,if_pos rfl,if_pos hu]
  obtain⟨M1,k1,k2,k3,k4⟩:=B0p u m hm m 0 Q0 (M.set u (List.replicate m (0:Int))) _ (by omega) (Y0 (by omega)) hset (by simp) (λj hj=>by omega)
  obtain⟨M2,k5,k6⟩:=C0p n m hn hm d (u+1) fuel M1 (by omega) (by omega) (by rw[k2];simpa using h1) (λi hi=>by
   by_cases c:i=u
   ·subst c;exact k4
   ·obtain⟨row,r1,r2⟩:=h2 i (by omega)
    exact⟨row,by rw[k3 i c,List.getElem?_set,if_neg (λe=>c e.symm)];exact r1,r2⟩)
  rw[show((0:Nat):Int)=0 from rfl]at k1
  rw[Y7.eq_2,if_pos (by simp only[decide_eq_true_eq];omega),C0 ⟨by omega,by omega,by omega,by omega⟩,oB,I2 (Y5 hu),oB]
  simp only[Int.toNat_natCast,I2 hset,oB,List.length_replicate,k1]
  rw[Z1 (show u<2000 by omega) (by omega),k5]
  exact⟨M2,rfl,k6⟩
def p01(a b:j0):List B9:=((y05 b.2.1.toNat 0 a.2.1.toNat).foldl (R04 a b) ([],[])).2
theorem D0p{a b:j0}(ha:D0 a=true)(hb:D0 b=true)(hr:a.1=b.1):∃ M',u01 a b=some (p01 a b,M'):=by
 obtain⟨qa,ra,na,la⟩:=F1 (V0 ha)
 obtain⟨qb,rb,nb,lb⟩:=F1 (V0 hb)
 obtain⟨n,hn⟩:∃ n:Nat,a.2.1=(n:Int):=⟨a.2.1.toNat,by omega⟩
 obtain⟨m,hm⟩:∃ m:Nat,b.2.1=(m:Int):=⟨b.2.1.toNat,by omega⟩
 obtain⟨M1,k1,k2⟩:=C0p n m (by omega) (by omega) n 0 Q0 (List.replicate n []) (by omega) (Y0 (by omega)) (by simp) (λi hi=>by omega)
 have hM:I0e a.2.1 b.2.1 M1 []:=λq h1 h2=>by
  obtain⟨row,r1,r2,r3⟩:=k2 q.1.toNat (by omega)
  refine⟨row,-1,?_,?_,by simp⟩
  ·unfold gi;rw[if_pos h1.1];exact r1
  ·unfold gi;rw[if_pos h2.1];exact r3 _ (by omega)
 obtain⟨M2,k3⟩:=A0p ha hb hr a.2.1.toNat 0 Q0 ([],[]) M1 (by omega) (Y0 (by omega)) (λp hp=>by simp at hp) hM (by simp;omega)
 rw[show((0:Nat):Int)=0 from rfl]at k1 k3
 unfold p01
 obtain⟨a0,a1,a2⟩:=a
 obtain⟨b0,b1,b2⟩:=b
 unfold u01
 simp only at *
 subst hn hm
 simp only[Int.toNat_natCast]at *
 rw[C0 ⟨by omega,by omega,by omega,by omega⟩,oB,oB,List.length_replicate,C0 (by omega),oB,k1,oB,k3,oB]
 exact⟨M2,rfl⟩
def tw(g:j0)(p v:Int):List Int:=(L6 (z01 g p).1 v).getD []
structure k0f (g:j0) (p:Int) (t:Int->List Int):Prop where
 z:t p = []
 par:∀ y∈A3 g p,y≠p->∃ v∈A3 g p,∃ x,x∈T2 g.1.toNat 1/\N0 g v x=y/\t y=t v ++ [x]
 red:∀ y∈A3 g p,Red (t y).reverse=true
 len:∀ y,(t y).length<=40
theorem V05{g:j0}(hf:D0 g=true){p:Int}(hp:0<=p/\p<g.2.1):k0f g p (tw g p):=by
 obtain⟨q1,q2,q3,q4⟩:=D1 hf
 have h:=w06 hf hp
 have e:=T05 g p
 refine⟨by unfold tw;rw[h.word];rfl,λy hy hyp=>?_,λy hy=>?_,λy=>?_⟩
 ·rw[←e]at hy ⊢
  obtain⟨v,hv,x,hx,e1,a,e2,e3⟩:=h.par y hy hyp
  exact⟨v,hv,x,hx,e1,by unfold tw;rw[e2,e3];rfl⟩
 ·rw[←e]at hy
  have hr:=h.gd.2 y hy
  obtain⟨a,ha⟩:=h.ok.get hr.1 hr.2 hy
  unfold tw
  rw[ha]
  exact h.red y hy a ha
 ·have:=h.ok.short y
  have:=Q8 _ _ h.gd.1 h.gd.2
  unfold tw
  omega
theorem C03{g:j0}(hf:D0 g=true){p:Int}(hp:0<=p/\p<g.2.1):gud g.2.1.toNat (A3 g p):=by
 rw[←T05];exact(w06 hf hp).gd
theorem o0a(g:j0)(p:Int):∃ t,A3 g p=p::t:=by
 obtain⟨t,e⟩:=h09 g (T2 g.1.toNat 1) (g.2.1.toNat+1) 0 [p]
 exact⟨t,e⟩
theorem k0f.ind{g:j0}{p:Int}{t:Int->List Int}(h:k0f g p t)(P:Int->Prop)(h0:P p)(hs:∀ v∈A3 g p,∀ y∈A3 g p,∀ x,x∈T2 g.1.toNat 1->N0 g v x=y->t y=t v ++ [x]->P v->P y):∀(k:Nat) (y:Int),(t y).length<=k->y∈A3 g p->P y
 |k,y,hk,hy=>by
  by_cases c:y=p
  ·rw[c];exact h0
  ·obtain⟨v,hv,x,hx,e1,e2⟩:=h.par y hy c
   cases k with
   |zero=>rw[e2]at hk;simp at hk
   |succ k=>exact hs v hv y hy x hx e1 e2 (k0f.ind h P h0 hs k v (by rw[e2]at hk;simp at hk;omega) hv)
theorem k0f.induct{g:j0}{p:Int}{t:Int->List Int}(h:k0f g p t){P:Int->Prop}(h0:P p)(hs:∀ v∈A3 g p,∀ y∈A3 g p,∀ x,x∈T2 g.1.toNat 1->N0 g v x=y->t y=t v ++ [x]->P v->P y){y:Int}(hy:y∈A3 g p):P y:=h.ind P h0 hs _ y (Nat.le_refl _) hy
theorem F0q{g:j0}{v x y:Int}(h:N0 g v x=y)(h0:0<=y):rdw g v [x]=some y:=by
 unfold rdw
 rw[if_neg (by omega),h];rfl
theorem k0f.rd{g:j0}(hf:D0 g=true){p:Int}(hp:0<=p/\p<g.2.1){t:Int->List Int}(h:k0f g p t){y:Int}(hy:y∈A3 g p):rdw g p (t y)=some y:=by
 refine h.induct (P:=λy=>rdw g p (t y)=some y) ?_ (λv hv y hy x hx e1 e2 ih=>?_) hy
 ·rw[h.z];rfl
 ·rw[e2,Z0l,ih,oB]
  exact F0q e1 ((C03 hf hp).2 y hy).1
theorem k0f.let{g:j0}{p:Int}{t:Int->List Int}(h:k0f g p t){y:Int}(hy:y∈A3 g p):∀ x∈t y,x∈T2 g.1.toNat 1:=by
 refine h.induct (P:=λy=>∀ x∈t y,x∈T2 g.1.toNat 1) ?_ (λv hv y hy x hx e1 e2 ih=>?_) hy
 ·rw[h.z];exact λx hx=>by cases hx
 ·rw[e2]
  intro z hz
  rcases List.mem_append.1 hz with hz|hz
  ·exact ih z hz
  ·simp at hz;rw[hz];exact hx
def m0c(w:List Int):Int:=w.getLastD 0
theorem w0g(a:List Int)(x:Int):m0c (a ++ [x])=x:=by unfold m0c;simp
def tE(g:j0)(v:Int):M0:=stp (N0 g v (-(m0c (tw g 0 v)))) (m0c (tw g 0 v)) v
def S02(g:j0):List M0:=J7 C1 [] ((A3 g 0).tail.map (tE g))
theorem N0e{g:j0}(hf:D0 g=true){p:Int}(hp:0<=p/\p<g.2.1){v:Int}(hv:0<=v/\v<g.2.1):gi (x06 g p) v=some (tw g p v):=by
 have h:=w06 hf hp
 have hl:=h.ok.len
 have hk:v.toNat<(z01 g p).1.length:=by omega
 have:=I2 (xs:=x06 g p) (k:=v.toNat) (x:=tw g p v) (by
  unfold x06 tw L6
  rw[List.getElem?_map,List.getElem?_eq_getElem hk,List.getD_eq_getElem?_getD,List.getElem?_eq_getElem hk];rfl)
 rwa [show((v.toNat:Nat):Int)=v by omega]at this
theorem E0p{g:j0}(hf:D0 g=true){v:Int}:v∈(A3 g 0).tail↔v∈A3 g 0/\v≠0:=by
 obtain⟨q1,q2,q3,q4⟩:=D1 hf
 obtain⟨t,e⟩:=o0a g 0
 have hg:=(C03 hf (p:=0) ⟨by omega,by omega⟩).1
 rw[e]at hg ⊢
 have:=(List.nodup_cons.1 hg).1
 constructor
 ·intro h
  exact⟨mC _ h,λc=>this (c▸h)⟩
 ·rintro⟨h1,h2⟩
  rcases List.mem_cons.1 h1 with h1|h1
  ·exact absurd h1 h2
  ·exact h1
theorem l0m{g:j0}(hf:D0 g=true):∀(d k fuel:Nat) (acc:List M0),k+d=(A3 g 0).tail.length->d<fuel->acc.length<=k ->
  p6 (A3 g 0).tail (x06 g 0) g.1 g.2.1 g.2.2 fuel (k:Int) acc=some (acc++((A3 g 0).tail.drop k).map (tE g))
 |d,k,0,acc,hd,hf',ha=>by omega
 |0,k,fuel+1,acc,hd,hf',ha=>by
  rw[p6.eq_2,if_neg (by simp only[decide_eq_true_eq];omega),K1 (by omega)];simp
 |d+1,k,fuel+1,acc,hd,hfu,ha=>by
  obtain⟨q1,q2,q3,q4⟩:=D1 hf
  have hp:(0:Int)<=0/\(0:Int)<g.2.1:=⟨by omega,by omega⟩
  have hT:=V05 hf hp
  have hG:=C03 hf hp
  have hle:=Q8 _ _ hG.1 hG.2
  have hk:k<(A3 g 0).tail.length:=by omega
  have htl:(A3 g 0).tail.length<=40:=by rw[List.length_tail];omega
  have hx:=Y5 hk
  have hvm:=List.mem_of_getElem? hx
  have hdr:=O1 hx
  generalize (A3 g 0).tail[k]=v at hx hvm hdr
  obtain⟨hvo,hv0⟩:=(E0p hf).1 hvm
  have hvr:=hG.2 v hvo
  obtain⟨u,hu,x,hx1,e1,e2⟩:=hT.par v hvo hv0
  have hlx:=c04 (by omega) hx1
  have hll:(tw g 0 v).length=(tw g 0 u).length+1:=by rw[e2];simp
  have hlu:=hT.len u
  have g2:gi (tw g 0 v) (IntKind.i64.wrap (((tw g 0 v).length:Nat)-1))=some x:=by
   rw[w64 (by omega) (by omega),show(((tw g 0 v).length:Nat):Int)-1=(((tw g 0 u).length:Nat):Int) by omega]
   refine I2 ?_
   rw[e2,List.getElem?_append_right (Nat.le_refl _)];simp
  have hte:tE g v=stp (N0 g v (-x)) x v:=by unfold tE;rw[e2,w0g]
  have hnm:L7 (-x):=⟨⟨by have:=hlx.2.2;omega,by have:=hlx.2.2;omega⟩,by have:=hlx.2.2;omega⟩
  have ih:=l0m hf d (k+1) fuel (acc ++ [tE g v]) (by omega) (by omega) (by simp;omega)
  rw[p6.eq_2,if_pos (by simp only[decide_eq_true_eq];omega),I2 hx,oB,N0e hf hp ⟨hvr.1,by omega⟩,oB,g2,oB,R0d hlx.1.1 hlx.1.2,show(g.1,g.2.1,g.2.2)=g from rfl,i03 g v (-x) hnm (by omega),oB,C0 (C01 q1 q3.2 v _),oB,M0r _ x v hlx.1,oB,←hte,Z1 hk (by omega),hdr,List.map_cons]
  generalize tE g v=t at ih ⊢
  obtain⟨t0,t1,t2⟩:=t
  simp only
  rw[C0 (by simp;omega),oB]
  rw[ih]
  simp
theorem D0j{g:j0}(hf:D0 g=true):K00 g=some (S02 g):=by
 obtain⟨q1,q2,q3,q4⟩:=D1 hf
 have hp:(0:Int)<=0/\(0:Int)<g.2.1:=⟨by omega,by omega⟩
 have hG:=C03 hf hp
 have hle:=Q8 _ _ hG.1 hG.2
 have h1:=E0e hf hp
 obtain⟨t,et⟩:=o0a g 0
 have hc:p06 (A3 g 0) 1 (((A3 g 0).length:Nat):Int)=some (A3 g 0).tail:=by
  have:=H04 (xs:=A3 g 0) (k:=1) (by rw[et];simp)
  rw[show((1:Nat):Int)=1 from rfl]at this
  rw[this,List.drop_one]
 have hL:=l0m hf (A3 g 0).tail.length 0 Q0 [] (by omega) (Y0 (by rw[List.length_tail];omega)) (by simp)
 rw[show((0:Nat):Int)=0 from rfl,List.drop_zero,List.nil_append]at hL
 have hs:=b0e ((A3 g 0).tail.map (tE g)) (by rw[List.length_map,List.length_tail];omega)
 unfold S02
 obtain⟨a,b,c⟩:=g
 simp only at *
 unfold K00
 simp only[h1,oB,hc,hL,hs]
def b01(g:j0):List M0:=g.2.2.filter λe => !decide (e∈S02 g)
theorem x0g{g:j0}(hf:D0 g=true):(S02 g).length<=40:=by
 obtain⟨q1,q2,q3,q4⟩:=D1 hf
 have hG:=C03 hf (p:=0) ⟨by omega,by omega⟩
 have hle:=Q8 _ _ hG.1 hG.2
 unfold S02
 have:=A03 ((A3 g 0).tail.map (tE g)) []
 rw[List.length_map,List.length_tail,List.length_nil]at this
 omega
theorem m0m(T:List M0)(hT:T.length<=1000)(es:List M0)(hl:es.length<=1000):∀(d k fuel:Nat) (acc:List M0),k+d=es.length->d<fuel->acc.length<=k ->
  R4 es T fuel (k:Int) acc=some (acc++(es.drop k).filter λe => !decide (e∈T))
 |d,k,0,acc,hd,hf',ha=>by omega
 |0,k,fuel+1,acc,hd,hf',ha=>by
  rw[R4.eq_2,if_neg (by simp only[decide_eq_true_eq];omega),K1 (by omega)];simp
 |d+1,k,fuel+1,acc,hd,hfu,ha=>by
  have hk:k<es.length:=by omega
  have hx:=Y5 hk
  have hdr:=O1 hx
  generalize es[k]=e at hx hdr
  have ih:=λacc' h=>m0m T hT es hl d (k+1) fuel acc' (by omega) (by omega) h
  obtain⟨e0,e1,e2⟩:=e
  rw[R4.eq_2,if_pos (by simp only[decide_eq_true_eq];omega),I2 hx,oB]
  simp only[G0k T (e0,e1,e2) (by omega),oB,Z1 hk (show es.length<=9223372036854775807 by omega),hdr,List.filter_cons]
  by_cases c:(e0,e1,e2)∈T
  ·simp only[decide_eq_true c,Bool.not_true,Bool.false_eq_true,if_false]
   exact ih acc (by omega)
  ·simp only[decide_eq_false c,Bool.not_false,if_true]
   rw[C0 (by simp;omega),oB,ih _ (by simp;omega)]
   simp
theorem G0q{g:j0}(hf:D0 g=true):n00 g=some (b01 g):=by
 obtain⟨q1,q2,q3,q4⟩:=D1 hf
 have h1:=V9 g (by omega)
 have h2:=D0j hf
 have h3:=x0g hf
 have hL:=m0m (S02 g) (by omega) g.2.2 (by omega) g.2.2.length 0 Q0 [] (by omega) (Y0 (by omega)) (by simp)
 rw[show((0:Nat):Int)=0 from rfl,List.drop_zero,List.nil_append]at hL
 unfold b01
 obtain⟨a,b,c⟩:=g
 simp only at *
 unfold n00
 simp only[h1,hf,oB,h2,Bool.not_true,Bool.false_eq_true,if_false,hL]
theorem y0g{g:j0}{e:M0}:e∈b01 g↔e∈g.2.2/\e ∉ S02 g:=by
 unfold b01
 rw[List.mem_filter]
 simp
def bw(g:j0)(e:M0):List Int:=tw g 0 e.1 ++ [e.2.1]++inv (tw g 0 e.2.2)
def G8(g:j0):List (List Int):=(b01 g).map λe=>(S05 [] (bw g e)).reverse
theorem O0r{g:j0}(hf:D0 g=true)(e:M0):(bw g e).length<=81:=by
 obtain⟨q1,q2,q3,q4⟩:=D1 hf
 have hT:=V05 hf (p:=0) ⟨by omega,by omega⟩
 have h1:=hT.len e.1
 have h2:=hT.len e.2.2
 unfold bw
 simp only[List.length_append,U0c,List.length_singleton]
 omega
theorem n0m{g:j0}(hf:D0 g=true)(es:List M0)(he:∀ e∈es,e∈g.2.2)(hl:es.length<=1000):∀(d k fuel:Nat) (acc:List (List Int)),k+d=es.length->d<fuel->acc.length<=k ->
  C7 es (x06 g 0) fuel (k:Int) acc=some (acc++(es.drop k).map λe=>(S05 [] (bw g e)).reverse)
 |d,k,0,acc,hd,hf',ha=>by omega
 |0,k,fuel+1,acc,hd,hf',ha=>by
  rw[C7.eq_2,if_neg (by simp only[decide_eq_true_eq];omega),K1 (by omega)];simp
 |d+1,k,fuel+1,acc,hd,hfu,ha=>by
  obtain⟨q1,q2,q3,q4⟩:=D1 hf
  have hp:(0:Int)<=0/\(0:Int)<g.2.1:=⟨by omega,by omega⟩
  have hT:=V05 hf hp
  have hk:k<es.length:=by omega
  have hx:=Y5 hk
  have hem:=he _ (List.mem_of_getElem? hx)
  have hdr:=O1 hx
  generalize es[k]=e at hx hdr hem
  have hq:=q1 e hem
  have h1:=hT.len e.1
  have h2:=hT.len e.2.2
  have ih:=λacc' h=>n0m hf es he hl d (k+1) fuel acc' (by omega) (by omega) h
  have hpr:J00 [tw g 0 e.1,[e.2.1],inv (tw g 0 e.2.2)]=some (S05 [] (bw g e)).reverse:=by
   rw[j0f _ (by simp) (by simp only[c0p,U0c,List.length_singleton];omega)]
   unfold bw d0p
   simp only[d0p,a0p]
  obtain⟨e0,e1,e2⟩:=e
  rw[C7.eq_2,if_pos (by simp only[decide_eq_true_eq];omega),I2 hx,oB]
  simp only at hq hpr h1 h2 ⊢
  rw[N0e hf hp hq.1,oB,oB,N0e hf hp hq.2.1,oB,u0b _ (by omega),oB,oB,hpr,oB,oB,C0 (by simp;omega),oB,Z1 hk (show es.length<=9223372036854775807 by omega),ih _ (by simp;omega),hdr]
  simp
theorem H0q{g:j0}(hc:V1 g=true):c5 g=some (G8 g):=by
 have hf:=o6 hc
 obtain⟨q1,q2,q3,q4⟩:=D1 hf
 have h1:=a01 g (by omega)
 have h2:=G0q hf
 have h3:=E0e hf (p:=0) ⟨by omega,by omega⟩
 have hle:(b01 g).length<=g.2.2.length:=List.length_filter_le _ _
 have hL:=n0m hf (b01 g) (λe he=>(y0g.1 he).1) (by omega) (b01 g).length 0 Q0 [] (by omega) (Y0 (by omega)) (by simp)
 rw[show((0:Nat):Int)=0 from rfl,List.drop_zero,List.nil_append]at hL
 unfold G8
 obtain⟨a,b,c⟩:=g
 simp only at *
 unfold c5
 simp only[h1,hc,oB,h2,h3,Bool.not_true,Bool.false_eq_true,if_false,hL]
theorem P0r{x:Int}(h:L7 x):ng x = -x:=R0d h.1 h.2
theorem W0k{x:Int}(h:L7 x):L7 (-x):=⟨⟨by have:=h.1.2;have:=h.2;omega,by have:=h.1.1;have:=h.2;omega⟩,by have:=h.1.2;omega⟩
theorem I0q{w:List Int}(hw:∀ x∈w,L7 x):∀ x∈inv w,L7 x:=λx hx=>by
 simp only[inv,List.mem_reverse,List.mem_map]at hx
 obtain⟨y,hy,rfl⟩:=hx
 rw[P0r (hw y hy)];exact W0k (hw y hy)
theorem m08(a b:List Int)(ha:I08 a)(hb:I08 b)(hl:a.length+b.length<=1099511627776):V8 a b=some (S05 [] (a++b)).reverse:=by
 unfold V8
 rw[C0 (by simp only[List.length_nil];omega),oB,C0 (by simp only[List.length_append,List.length_nil];omega),oB,List.nil_append,
  l08 _ (w0n ha hb) (by simp only[List.length_append];omega)]
 rfl
theorem n0c{α:Type}(cf:α->α->Int)(x:α):∀(a l:List α),J7 cf l (a ++ [x])=X00 cf x (J7 cf l a)
 | [],l=>rfl
 |y::a,l=>by
  show J7 cf (X00 cf y l) (a ++ [x])=X00 cf x (J7 cf (X00 cf y l) a)
  exact n0c cf x a _
def tEW(g:j0)(W:List (Option (List Int)))(v:Int):M0:=stp (N0 g v (-(m0c (gtD (L6 W v))))) (m0c (gtD (L6 W v))) v
def B0b(g:j0)(s:Tr8):List M0:=J7 C1 [] (s.2.tail.map (tEW g s.1))
theorem y0n{g:j0}(hf:D0 g=true){p:Int}{n:Nat}(hn:g.2.1=(n:Int)){s:Tr8}(h:TOk g p n s){v x:Int}(hv:v∈s.2)(c:0<=N0 g v x/\N0 g v x ∉ s.2):
  B0b g (trS g v x s)=X00 C1 (stp v x (N0 g v x)) (B0b g s)/\(trS g v x s).2=s.2 ++ [N0 g v x]:=by
 obtain⟨q1,q2,q3,q4⟩:=D1 hf
 have hyr:N0 g v x<(n:Int):=by
  rcases y00 q1 v x with e|e<;>omega
 unfold trS
 rw[if_pos c]
 obtain⟨W,u⟩:=s
 obtain⟨c1,c2⟩:=c
 simp only at c2 hv
 refine⟨?_,rfl⟩
 have hwl:=h.ok.len
 simp only at hwl
 have hb:=λ(z:Int) (hz:0<=z)=>E00 (A:=W) (y:=some ((L6 W v).getD [] ++ [x])) c1 (by omega) hz
 have hu:u≠[]:=λe=>by rw[e]at hv;cases hv
 have ht:(u ++ [N0 g v x]).tail=u.tail ++ [N0 g v x]:=by
  cases u with
  |nil=>exact absurd rfl hu
  |cons a r=>rfl
 unfold B0b
 simp only
 rw[ht,List.map_append,List.map_singleton,n0c]
 have h1:tEW g (W.set (N0 g v x).toNat (some ((L6 W v).getD [] ++ [x]))) (N0 g v x)=stp v x (N0 g v x):=by
  unfold tEW
  rw[hb _ c1,if_pos rfl]
  show stp (N0 g (N0 g v x) (-(m0c ((L6 W v).getD [] ++ [x])))) (m0c ((L6 W v).getD [] ++ [x])) (N0 g v x)=_
  rw[w0g,c08 hf rfl c1]
 have h2:u.tail.map (tEW g (W.set (N0 g v x).toNat (some ((L6 W v).getD [] ++ [x]))))=u.tail.map (tEW g W):=by
  refine List.map_congr_left λz hz=>?_
  have hzu:=List.mem_of_mem_tail hz
  have hz0:=h.gd.2 z hzu
  unfold tEW
  rw[hb z hz0.1,if_neg λe=>c2 (by rw[←e];exact hzu)]
 rw[h1,h2]
theorem F0p(g:j0)(v x:Int)(s:Tr8)(c : ¬ (0<=N0 g v x/\N0 g v x ∉ s.2)):trS g v x s=s:=by
 unfold trS;rw[if_neg c]
theorem G0p(g:j0)(s:Tr8):(B0b g s).length<=s.2.length:=by
 unfold B0b
 have:=A03 (s.2.tail.map (tEW g s.1)) []
 rw[List.length_map,List.length_tail,List.length_nil]at this
 omega
theorem o0m{g:j0}(hf:D0 g=true)(p:Int){n:Nat}(hn:g.2.1=(n:Int))(ls:List Int)(hls:∀ x∈ls,x∈T2 g.1.toNat 1)(hl:ls.length<=1000000)(i:Nat)(v:Int):∀(d k fuel:Nat) (s:Tr8),TOk g p n s->s.2[i]?=some v->k+d=ls.length->d<fuel ->
  K5 ls (i:Int) g.1 g.2.1 g.2.2 fuel (B0b g s) (k:Int) s.2=some (B0b g (i09 g v (ls.drop k) s),(i09 g v (ls.drop k) s).2)
 |d,k,0,s,hs,hv,hd,hf=>by omega
 |0,k,fuel+1,s,hs,hv,hd,hf=>by
  rw[K5.eq_2,if_neg (by simp only[decide_eq_true_eq];omega),K1 (by omega)];rfl
 |d+1,k,fuel+1,s,hs,hi,hd,hfu=>by
  obtain⟨q1,q2,q3,q4⟩:=D1 hf
  have hk:k<ls.length:=by omega
  have hx:=Y5 hk
  have hxl:=hls _ (List.mem_of_getElem? hx)
  have hdr:=O1 hx
  generalize ls[k]=x at hx hxl hdr
  have hxo:=c04 (by omega) hxl
  have hlen:=Q8 n s.2 hs.gd.1 hs.gd.2
  have hnx:=y00 q1 v x
  have hv:=List.mem_of_getElem? hi
  have hsn:=hs.add hf hn hv hxl
  obtain⟨t,et⟩:=V0c g v x s
  have ih:=o0m hf p hn ls hls hl i v d (k+1) fuel (trS g v x s) hsn (by rw[et,List.getElem?_append_left (List.getElem?_eq_some_iff.1 hi).1];exact hi) (by omega) (by omega)
  have hol:=G0p g s
  rw[K5.eq_2,if_pos (by simp only[decide_eq_true_eq];omega),hdr,i09,←ih]
  simp only[I2 hi,I2 hx,oB,show(g.1,g.2.1,g.2.2)=g from rfl,M01 g v x hxo.1 (by omega),C0 (C01 q1 q3.2 v x),Z1 hk (show ls.length<=9223372036854775807 by omega)]
  by_cases c:0<=N0 g v x/\N0 g v x ∉ s.2
  ·obtain⟨e1,e2⟩:=y0n hf hn hs hv c
   rw[e1,e2]
   have e3:decide (N0 g v x<0)=false:=decide_eq_false (by omega)
   have e4:gi (s.2 ++ [N0 g v x]) (i:Int)=some v:=I2 (by rw[List.getElem?_append_left (List.getElem?_eq_some_iff.1 hi).1];exact hi)
   rw[e3]
   simp only[Bool.not_false,T1,Y07 s.2 _ (show s.2.length<=9223372036854775807 by omega),decide_eq_false c.2,oB,cond_false,Bool.false_eq_true,if_false,e4]
   rw[C0 (by simp;omega),oB]
   generalize N0 g v x=y at *
   by_cases cx:x>0
   ·rw[if_pos (by simpa using cx),R0c _ _ (by omega),oB]
    unfold stp
    rw[if_neg (by omega)]
   ·rw[if_neg (by simpa using cx),R0c _ _ (by omega),oB,R0d hxo.1.1 hxo.1.2]
    unfold stp
    rw[if_pos (by have:=hxo.2.1;omega)]
  ·rw[F0p g v x s c]
   by_cases c1:0<=N0 g v x
   ·have c2:N0 g v x∈s.2:=Classical.byContradiction λh=>c ⟨c1,h⟩
    rw[show decide (N0 g v x<0)=false from decide_eq_false (by omega)]
    simp only[Bool.not_false,T1,Y07 s.2 _ (show s.2.length<=9223372036854775807 by omega),decide_eq_true c2,oB,cond_false,if_true]
   ·rw[show decide (N0 g v x<0)=true from decide_eq_true (by omega)]
    simp only[Bool.not_true,C3,oB,cond_true,if_true]
theorem p0m{g:j0}(hf:D0 g=true)(p:Int){n:Nat}(hn:g.2.1=(n:Int)):∀(f i fuel:Nat) (s:Tr8),TOk g p n s->i<=s.2.length->n+1<=i+f->f<fuel ->
  s8 (T2 g.1.toNat 1) g.1 g.2.1 g.2.2 fuel (B0b g s) (i:Int) s.2=some (B0b g (Q02 g (T2 g.1.toNat 1) f i s),(Q02 g (T2 g.1.toNat 1) f i s).2)
 |f,i,0,s,hs,hi,hd,hf=>by omega
 |0,i,fuel+1,s,hs,hi,hd,hf=>by have:=Q8 n s.2 hs.gd.1 hs.gd.2;omega
 |f+1,i,fuel+1,s,hs,hi,hd,hfu=>by
  obtain⟨q1,q2,q3,q4⟩:=D1 hf
  have hlen:=Q8 n s.2 hs.gd.1 hs.gd.2
  rw[s8.eq_2,oB,C0 (by omega),oB]
  by_cases hk:i<s.2.length
  ·have hx:=Y5 hk
   generalize s.2[i]=v at hx
   have hv:=List.mem_of_getElem? hx
   have h0:=o0m hf p hn (T2 g.1.toNat 1) (λx hx=>hx) (by rw[R8];omega) i v (T2 g.1.toNat 1).length 0 Q0 s hs hx (by omega) (Y0 (by rw[R8];omega))
   rw[show((0:Nat):Int)=0 from rfl,List.drop_zero]at h0
   obtain⟨t,e⟩:=D0e g v (T2 g.1.toNat 1) s
   have ih:=p0m hf p hn f (i+1) fuel _ (hs.inn hf hn _ hv λx hx=>hx) (by rw[e,List.length_append];omega) (by omega) (by omega)
   rw[if_pos (by simpa using hk),h0,oB]
   simp only[Z1 hk (show s.2.length<=9223372036854775807 by omega),Q02,hx]
   exact ih
  ·have hx:s.2[i]?=none:=List.getElem?_eq_none (by omega)
   rw[if_neg (by simpa using hk)]
   simp only[Q02,hx]
theorem z0n{g:j0}(hf:D0 g=true):Q01 g=some (S02 g):=by
 obtain⟨q1,q2,q3,q4⟩:=D1 hf
 have hN:g.2.1=((g.2.1.toNat:Nat):Int):=by omega
 have h0:=p0m hf 0 hN (g.2.1.toNat+1) 0 Q0 _ (U05 g (N:=g.2.1.toNat) ⟨iR _,by omega⟩) (by simp) (by omega) (Y0 (by omega))
 have hlt:=j0e g.1.toNat (by omega)
 rw[show((g.1.toNat:Nat):Int)=g.1 by omega]at hlt
 have hfd:=P8 g (by omega)
 have e1:B0b g (Q02 g (T2 g.1.toNat 1) (g.2.1.toNat+1) 0 ((List.replicate g.2.1.toNat none).set (0:Int).toNat (some []),[0]))=S02 g:=by
  show B0b g (z01 g 0)=_
  unfold B0b S02
  rw[T05]
  rfl
 rw[e1]at h0
 have e2:B0b g ((List.replicate g.2.1.toNat none).set (0:Int).toNat (some []),[0]) = []:=rfl
 rw[e2,show((0:Nat):Int)=0 from rfl]at h0
 obtain⟨a,b,c⟩:=g
 simp only at *
 unfold Q01
 simp only[hfd,hf,oB,Bool.not_true,Bool.false_eq_true,if_false,hlt,h0]
theorem d0r(T es:List M0)(j:Nat){e:M0}(he:es[j]?=some e)(hl:T.length<=1000):∀(d k fuel:Nat) (b:Bool),k+d=T.length->d<fuel ->
  N5 T es (j:Int) fuel b (k:Int)=some (b || decide (e∈T.drop k))
 |d,k,0,b,hd,hf=>by omega
 |0,k,fuel+1,b,hd,hf=>by
  rw[N5.eq_2,if_neg (by simp only[decide_eq_true_eq];omega),K1 (by omega)];simp
 |d+1,k,fuel+1,b,hd,hfu=>by
  have hk:k<T.length:=by omega
  have hx:=Y5 hk
  have hdr:=O1 hx
  generalize T[k]=t at hx hdr
  have ih:=λb'=>d0r T es j he hl d (k+1) fuel b' (by omega) (by omega)
  obtain⟨t0,t1,t2⟩:=t
  obtain⟨e0,e1,e2⟩:=e
  rw[N5.eq_2,if_pos (by simp only[decide_eq_true_eq];omega),hdr,Z1 hk (by omega)]
  cases b with
  |true =>
   simp only[Bool.not_true,C3,oB,cond_true,ih,Bool.true_or]
  |false =>
   simp only[Bool.not_false,T1,I2 hx,I2 he,oB,cond_false,ih,Bool.false_or]
   by_cases c:(t0,t1,t2)=(e0,e1,e2)
   ·rw[c];simp[eqE]
   ·have c' : ¬ (e0,e1,e2)=(t0,t1,t2):=λh=>c h.symm
    unfold eqE
    rw[decide_eq_false c,Bool.false_or]
    simp only[List.mem_cons,c',false_or]
theorem E0j{g:j0}(hf:D0 g=true)(T:List M0)(hT:T.length<=1000):∀(d k fuel:Nat) (acc:List M0),k+d=g.2.2.length->d<fuel->acc.length<=k ->
  S4 g.2.2 g.1 g.2.1 T fuel (k:Int) acc=some (acc++(g.2.2.drop k).filter λe => !decide (e∈T))
 |d,k,0,acc,hd,hf',ha=>by omega
 |0,k,fuel+1,acc,hd,hf',ha=>by
  rw[S4.eq_2,show decide ((k:Int)<((g.2.2.length:Nat):Int))=false from decide_eq_false (by omega),K1 (by omega)]
  simp only[C3,oB,cond_false,Bool.false_eq_true,if_false,List.filter_nil,List.append_nil]
 |d+1,k,fuel+1,acc,hd,hfu,ha=>by
  obtain⟨q1,q2,q3,q4⟩:=D1 hf
  have hk:k<g.2.2.length:=by omega
  have hx:=Y5 hk
  have hdr:=O1 hx
  generalize g.2.2[k]=e at hx hdr
  have hfd:=P8 g (by omega)
  have ih:=λacc' h=>E0j hf T hT d (k+1) fuel acc' (by omega) (by omega) h
  have h0:=d0r T g.2.2 k hx hT T.length 0 Q0 false (by omega) (Y0 (by omega))
  rw[show((0:Nat):Int)=0 from rfl,List.drop_zero,Bool.false_or]at h0
  obtain⟨e0,e1,e2⟩:=e
  rw[S4.eq_2,show decide ((k:Int)<((g.2.2.length:Nat):Int))=true from decide_eq_true (by omega)]
  simp only[T1,show(g.1,g.2.1,g.2.2)=g from rfl,hfd,hf,oB,cond_true,if_true,h0,I2 hx,Z1 hk (show g.2.2.length<=9223372036854775807 by omega),hdr,List.filter_cons]
  by_cases c:(e0,e1,e2)∈T
  ·simp only[decide_eq_true c,Bool.not_true,Bool.false_eq_true,if_false]
   exact ih acc (by omega)
  ·simp only[decide_eq_false c,Bool.not_false,if_true]
   rw[C0 (by simp;omega),oB,ih _ (by simp;omega)]
   simp
theorem H0p{g:j0}(hf:D0 g=true):o00 g=some (b01 g):=by
 obtain⟨q1,q2,q3,q4⟩:=D1 hf
 have h2:=z0n hf
 have h3:=x0g hf
 have hL:=E0j hf (S02 g) (by omega) g.2.2.length 0 Q0 [] (by omega) (Y0 (by omega)) (by simp)
 rw[show((0:Nat):Int)=0 from rfl,List.drop_zero,List.nil_append]at hL
 unfold b01
 obtain⟨a,b,c⟩:=g
 simp only at *
 unfold o00
 simp only[h2,oB,hL]
theorem e0r(es:List M0)(e:M0)(hl:es.length<=1000):∀(d k fuel:Nat) (b:Bool),k+d=es.length->d<fuel ->
  d8 es e.1 e.2.1 e.2.2 fuel b (k:Int)=some (b || decide (e∈es.drop k))
 |d,k,0,b,hd,hf=>by omega
 |0,k,fuel+1,b,hd,hf=>by
  rw[d8.eq_2,if_neg (by simp only[decide_eq_true_eq];omega),K1 (by omega)];simp
 |d+1,k,fuel+1,b,hd,hfu=>by
  have hk:k<es.length:=by omega
  have hx:=Y5 hk
  have hdr:=O1 hx
  generalize es[k]=t at hx hdr
  have ih:=λb'=>e0r es e hl d (k+1) fuel b' (by omega) (by omega)
  obtain⟨t0,t1,t2⟩:=t
  obtain⟨e0,e1,e2⟩:=e
  simp only at ih
  rw[d8.eq_2,if_pos (by simp only[decide_eq_true_eq];omega),hdr,Z1 hk (by omega)]
  cases b with
  |true =>
   simp only[Bool.not_true,C3,oB,cond_true,ih,Bool.true_or]
  |false =>
   simp only[Bool.not_false,T1,I2 hx,oB,cond_false,ih,Bool.false_or]
   by_cases c:(t0,t1,t2)=(e0,e1,e2)
   ·rw[c];simp[eqE]
   ·have c' : ¬ (e0,e1,e2)=(t0,t1,t2):=λh=>c h.symm
    unfold eqE
    rw[decide_eq_false c,Bool.false_or]
    simp only[List.mem_cons,c',false_or]
theorem o0c{g:j0}(hf:D0 g=true){v:Int}(hv:0<=v/\v<g.2.1):y02 g v=tw g 0 v:=by
 obtain⟨q1,q2,q3,q4⟩:=D1 hf
 unfold y02 x0b tw
 rw[hf,show inR 0 (g.2.1-1) 0=true by simp[inR];omega,show inR 0 (g.2.1-1) v=true by simp[inR];omega]
 simp only[Bool.and_self,cond_true]
 cases L6 (z01 g 0).1 v with
 |none=>rfl
 |some w=>rfl
theorem I0p{g:j0}(hf:D0 g=true){v:Int}(hv:0<=v/\v<g.2.1):∀ x∈tw g 0 v,L7 x:=by
 obtain⟨q1,q2,q3,q4⟩:=D1 hf
 have hp:(0:Int)<=0/\(0:Int)<g.2.1:=⟨by omega,by omega⟩
 have h:=w06 hf hp
 by_cases hm:v∈A3 g 0
 ·exact λx hx=>(c04 (by omega) ((V05 hf hp).let hm x hx)).1
 ·have:tw g 0 v = []:=by
   unfold tw
   rw[←T05]at hm
   have:=(h.ok.iff v hv.1 (by omega)).2 hm
   cases e:L6 (z01 g 0).1 v with
   |none=>rfl
   |some a=>rw[e]at this;cases this
  rw[this]
  exact λx hx=>by cases hx
theorem J0p{g:j0}(hf:D0 g=true){e:M0}(he:e∈g.2.2):q02 g e=some (S05 [] (bw g e)).reverse:=by
 obtain⟨q1,q2,q3,q4⟩:=D1 hf
 have hp:(0:Int)<=0/\(0:Int)<g.2.1:=⟨by omega,by omega⟩
 have hT:=V05 hf hp
 have hq:=q1 e he
 have h1:=hT.len e.1
 have h2:=hT.len e.2.2
 have hfd:=P8 g (by omega)
 have hL:=e0r g.2.2 e (by omega) g.2.2.length 0 Q0 false (by omega) (Y0 (by omega))
 rw[show((0:Nat):Int)=0 from rfl,List.drop_zero,Bool.false_or,decide_eq_true he]at hL
 have t1:=K04 g (by omega) e.1
 rw[o0c hf hq.1]at t1
 have t2:=K04 g (by omega) e.2.2
 rw[o0c hf hq.2.1]at t2
 have a1:=I0p hf hq.1
 have a2:=I0p hf hq.2.1
 have hmul:=m08 (tw g 0 e.1 ++ [e.2.1]) (inv (tw g 0 e.2.2)) (λx hx=>by
  rcases List.mem_append.1 hx with hx|hx
  ·exact(a1 x hx).1
  ·simp at hx;rw[hx];have:=hq.2.2;exact⟨by omega,by omega⟩) (λx hx=>(I0q a2 x hx).1) (by simp[U0c];omega)
 unfold bw
 obtain⟨a,b,c⟩:=g
 obtain⟨e0,e1,e2⟩:=e
 simp only at *
 unfold q02
 simp only[hL,oB,hfd,hf,Bool.not_true,cond_false,Bool.false_eq_true,if_false,t1,t2]
 rw[C0 (by simp;omega),oB,R05 _ (by omega),oB,hmul,oB]
theorem F0j{g:j0}(hf:D0 g=true)(es:List M0)(he:∀ e∈es,e∈g.2.2)(hl:es.length<=1000):∀(d k fuel:Nat) (acc:List (List Int)),k+d=es.length->d<fuel->acc.length<=k ->
  D7 es g.1 g.2.1 g.2.2 fuel (k:Int) acc=some (acc++(es.drop k).map λe=>(S05 [] (bw g e)).reverse)
 |d,k,0,acc,hd,hf',ha=>by omega
 |0,k,fuel+1,acc,hd,hf',ha=>by
  rw[D7.eq_2,if_neg (by simp only[decide_eq_true_eq];omega),K1 (by omega)];simp
 |d+1,k,fuel+1,acc,hd,hfu,ha=>by
  have hk:k<es.length:=by omega
  have hx:=Y5 hk
  have hem:=he _ (List.mem_of_getElem? hx)
  have hdr:=O1 hx
  generalize es[k]=e at hx hdr hem
  have hLo:=J0p hf hem
  have ih:=λacc' h=>F0j hf es he hl d (k+1) fuel acc' (by omega) (by omega) h
  obtain⟨e0,e1,e2⟩:=e
  rw[D7.eq_2,if_pos (by simp only[decide_eq_true_eq];omega),I2 hx,oB]
  simp only[show(g.1,g.2.1,g.2.2)=g from rfl]
  rw[hLo,oB,C0 (by simp;omega),oB,Z1 hk (show es.length<=9223372036854775807 by omega),ih _ (by simp;omega),hdr]
  simp
theorem D03(g:j0)(hl:g.2.2.length<=140737488355328):N3 g=some (V1 g):=by
 have:=t06 g hl
 obtain⟨a,b,c⟩:=g
 unfold N3
 show(v00 (a,b,c)).bind (λx1=>some x1)=_
 rw[this];rfl
theorem K0p{g:j0}(hc:V1 g=true):Y9 g=some (G8 g):=by
 have hf:=o6 hc
 obtain⟨q1,q2,q3,q4⟩:=D1 hf
 have h1:=D03 g (by omega)
 have h2:=H0p hf
 have hle:(b01 g).length<=g.2.2.length:=List.length_filter_le _ _
 have hL:=F0j hf (b01 g) (λe he=>(y0g.1 he).1) (by omega) (b01 g).length 0 Q0 [] (by omega) (Y0 (by omega)) (by simp)
 rw[show((0:Nat):Int)=0 from rfl,List.drop_zero,List.nil_append]at hL
 unfold G8
 obtain⟨a,b,c⟩:=g
 simp only at *
 unfold Y9
 simp only[h1,hc,oB,h2,Bool.not_true,Bool.false_eq_true,if_false,hL]
def L04(g:j0):Bool:=V1 g&&decide (g.2.2.length=0)
theorem E0n{g:j0}(h:V1 g=true)(he:g.2.2.length=0):g.2.1=1:=by
 have hf:=w01 h
 obtain⟨q1,q2,q3,q4⟩:=D1 hf
 have hes:g.2.2 = []:=List.eq_nil_of_length_eq_zero he
 refine Classical.byContradiction λhne=>?_
 have h1:Rch g.2.2 0 1:=O0k h (by omega) (by omega)
 rw[hes]at h1
 have:=Rch.sub (P:=λx=>x=0) rfl (λe he=>by cases he) h1
 omega
theorem L0h(g:j0)(hl:g.2.2.length<=140737488355328):L00 g=some (L04 g):=by
 have h1:=t06 g hl
 unfold L04
 obtain⟨a,b,c⟩:=g
 unfold L00 N3
 simp only[h1,oB,A0q]
 cases V1 (a,b,c)<;>rfl
theorem M0h(g:j0)(hl:g.2.2.length<=140737488355328):M00 g=some (L04 g):=by
 have h1:=a01 g hl
 have h2 := @E0n g
 unfold L04
 obtain⟨a,b,c⟩:=g
 unfold M00
 simp only[h1,oB,A0q]
 cases hc:V1 (a,b,c)with
 |false=>rfl
 |true =>
  by_cases he:c.length=0
  ·have:=h2 hc he
   simp only at this
   rw[decide_eq_true he,decide_eq_true this];rfl
  ·rw[decide_eq_false he]
   cases decide (b=1)<;>rfl
def nzA(g:j0):Nat->Nat->List (List Int)
 |0,_=>[]
 |d+1,v=>if s05 g (v:Int)=g then y02 g (v:Int)::nzA g d (v+1)else nzA g d (v+1)
def z06(g:j0):List (List Int):=bif D9 g then nzA g g.2.1.toNat 0 else []
theorem r0m(g:j0):∀ d v,(nzA g d v).length<=d
 |0,v=>Nat.le_refl _
 |d+1,v=>by
  have:=r0m g d (v+1)
  rw[nzA]
  split
  ·rw[List.length_cons];omega
  ·omega
theorem h0r{g:j0}(hg:D9 g=true):∀(d k fuel:Nat) (acc:List (List Int)),k+d=g.2.1.toNat->d<fuel->acc.length<=k ->
  l3 g.2.1 g.1 g.2.2 fuel (k:Int) acc=some (acc++nzA g d k)
 |d,k,0,acc,hd,hfu,hl=>by omega
 |0,k,fuel+1,acc,hd,hfu,hl=>by
  have:decide ((k:Int)<g.2.1)=false:=decide_eq_false (by omega)
  rw[l3.eq_2,this,C3];simp[nzA]
 |d+1,k,fuel+1,acc,hd,hfu,hl=>by
  have hf:=w01 (A07 hg)
  obtain⟨q1,q2,q3,q4⟩:=D1 hf
  have hfin:=i05 g (by omega)
  have hm:=P0k hf (v:=(k:Int)) ⟨by omega,by omega⟩
  have hml:=z0j (t0g hf (v:=(k:Int)) ⟨by omega,by omega⟩)
  have he:=Y0f (s05 g (k:Int)) g (by omega)
  have htw:=K04 g (by omega) (k:Int)
  have ih:=λacc' h=>h0r hg d (k+1) fuel acc' (by omega) (by omega) h
  have:decide ((k:Int)<g.2.1)=true:=decide_eq_true (by omega)
  rw[l3.eq_2,this,T1,show(g.1,g.2.1,g.2.2)=g from rfl,hfin,hg,oB,cond_true,if_pos rfl,hm,oB,Z1 (show k<1000 by omega) (by omega),nzA]
  generalize s05 g (k:Int)=m at *
  obtain⟨m0,m1,m2⟩:=m
  simp only
  rw[he,oB]
  unfold g0c
  by_cases c:(m0,m1,m2)=g
  ·rw[if_pos (by simpa using c),if_pos c,htw,oB,C0 (by simp;omega),oB,ih _ (by simp;omega)]
   simp
  ·rw[if_neg (by simpa using c),if_neg c]
   exact ih acc (by omega)
theorem i0r{g:j0}(hf:D0 g=true):∀(d k fuel:Nat) (acc:List (List Int)),k+d=g.2.1.toNat->d<fuel->acc.length<=k ->
  E3 g.2.1 g.1 g.2.2 fuel (k:Int) acc=some (acc++nzA g d k)
 |d,k,0,acc,hd,hfu,hl=>by omega
 |0,k,fuel+1,acc,hd,hfu,hl=>by
  obtain⟨q1,q2,q3,q4⟩:=D1 hf
  rw[E3.eq_2,if_neg (by simp only[decide_eq_true_eq];omega)];simp[nzA]
 |d+1,k,fuel+1,acc,hd,hfu,hl=>by
  obtain⟨q1,q2,q3,q4⟩:=D1 hf
  have hm:=Q0k hf (v:=(k:Int)) ⟨by omega,by omega⟩
  have hml:=z0j (t0g hf (v:=(k:Int)) ⟨by omega,by omega⟩)
  have he:=W0f (s05 g (k:Int)) g (by omega)
  have htw:=G0e g (by omega) (k:Int)
  have ih:=λacc' h=>i0r hf d (k+1) fuel acc' (by omega) (by omega) h
  rw[E3.eq_2,if_pos (by simp only[decide_eq_true_eq];omega),show(g.1,g.2.1,g.2.2)=g from rfl,hm,oB,Z1 (show k<1000 by omega) (by omega),nzA]
  generalize s05 g (k:Int)=m at *
  obtain⟨m0,m1,m2⟩:=m
  simp only
  rw[he,oB]
  unfold g0c
  by_cases c:(m0,m1,m2)=g
  ·rw[if_pos (by simpa using c),if_pos c,htw,oB,C0 (by simp;omega),oB,ih _ (by simp;omega)]
   simp
  ·rw[if_neg (by simpa using c),if_neg c]
   exact ih acc (by omega)
theorem L0j(g:j0)(hl:g.2.2.length<=140737488355328):G6 g=some (z06 g):=by
 have h1:=i05 g hl
 unfold z06
 cases hg:D9 g with
 |true =>
  obtain⟨q1,q2,q3,q4⟩:=D1 (w01 (A07 hg))
  have h:=h0r hg g.2.1.toNat 0 Q0 [] (by omega) (Y0 (by omega)) (by simp)
  obtain⟨a,b,c⟩:=g
  unfold G6
  simp only at h ⊢
  rw[show(0:Int)=((0:Nat):Int) from rfl,h];rfl
 |false =>
  obtain⟨a,b,c⟩:=g
  unfold G6
  simp only
  rw[show Q0=(Q0-1)+1 from rfl,l3.eq_2]
  cases decide ((0:Int)<b)
  ·rfl
  ·rw[T1,h1,hg];rfl
theorem M0j(g:j0)(hl:g.2.2.length<=140737488355328):H6 g=some (z06 g):=by
 have h1:=z07 g hl
 unfold z06
 cases hg:D9 g with
 |true =>
  have hf:=w01 (A07 hg)
  obtain⟨q1,q2,q3,q4⟩:=D1 hf
  have h:=i0r hf g.2.1.toNat 0 Q0 [] (by omega) (Y0 (by omega)) (by simp)
  obtain⟨a,b,c⟩:=g
  unfold H6
  simp only[h1,hg,oB,Bool.not_true,Bool.false_eq_true,if_false]at h ⊢
  rw[show(0:Int)=((0:Nat):Int) from rfl,h];rfl
 |false =>
  obtain⟨a,b,c⟩:=g
  unfold H6
  simp only[h1,hg,oB,Bool.not_false,if_true,cond_false]
theorem A0g(g:j0):(z06 g).length<=40:=by
 unfold z06
 cases hg:D9 g with
 |false=>simp
 |true =>
  obtain⟨q1,q2,q3,q4⟩:=D1 (w01 (A07 hg))
  have:=r0m g g.2.1.toNat 0
  rw[cond_true];omega
def B8(g:j0):Bool:=L04 g || (D9 g&&decide ((((z06 g).length:Nat):Int)=g.2.1))
theorem Q0e(g:j0)(hl:g.2.2.length<=140737488355328):i00 g=some (B8 g):=by
 have h1:=L0h g hl
 have h2:=i05 g hl
 have h3:=L0j g hl
 have h4:=A0g g
 unfold B8
 obtain⟨a,b,c⟩:=g
 unfold i00
 simp only[h1,oB]
 cases L04 (a,b,c)
 ·simp only[Bool.not_false,T1,h2,oB,Bool.and_true,Bool.false_or]
  cases D9 (a,b,c)
  ·rfl
  ·simp only[T1,h3,oB,cond_false,cond_true,Bool.true_and]
   rw[C0 (by omega)];rfl
 ·simp only[Bool.not_true,C3,oB,Bool.and_false,cond_true,Bool.true_or]
  rfl
theorem R0e(g:j0)(hl:g.2.2.length<=140737488355328):j00 g=some (B8 g):=by
 have h1:=M0h g hl
 have h2:=z07 g hl
 have h3:=M0j g hl
 have h4:=A0g g
 unfold B8
 obtain⟨a,b,c⟩:=g
 unfold j00
 simp only[h1,oB]
 cases L04 (a,b,c)
 ·simp only[Bool.not_false,T1,h2,oB,Bool.and_true,Bool.false_or]
  cases D9 (a,b,c)
  ·rfl
  ·simp only[T1,h3,oB,cond_false,cond_true,Bool.true_and]
   rw[C0 (by omega)];rfl
 ·simp only[Bool.not_true,C3,oB,Bool.and_false,cond_true,Bool.true_or]
  rfl
def r02(g:j0):Int:=bif V1 g then(g.2.2.length:Int)-g.2.1+1 else -1
theorem S0e(g:j0)(hl:g.2.2.length<=140737488355328):x01 g=some (r02 g)/\P0 (r02 g):=by
 have h1:=D03 g hl
 unfold r02
 cases hc:V1 g with
 |false =>
  rw[hc]at h1
  obtain⟨a,b,c⟩:=g
  unfold x01
  simp only[h1,oB,Bool.not_false,if_true,cond_false]
  exact⟨trivial,⟨by omega,by omega⟩⟩
 |true =>
  obtain⟨q1,q2,q3,q4⟩:=D1 (o6 hc)
  rw[hc]at h1
  obtain⟨a,b,c⟩:=g
  simp only at q3 q4
  unfold x01
  simp only[h1,oB,Bool.not_true,Bool.false_eq_true,if_false,cond_true]
  rw[w64 (x:=((c.length:Nat):Int)-b) (by omega) (by omega),w64 (by omega) (by omega)]
  exact⟨rfl,⟨by omega,by omega⟩⟩
theorem X0k(g:j0)(hl:g.2.2.length<=140737488355328):w00 g=some (r02 g):=by
 have h1:=a01 g hl
 unfold r02
 cases hc:V1 g with
 |false =>
  rw[hc]at h1
  obtain⟨a,b,c⟩:=g
  unfold w00
  simp only[h1,oB,Bool.not_false,if_true,cond_false]
 |true =>
  obtain⟨q1,q2,q3,q4⟩:=D1 (o6 hc)
  rw[hc]at h1
  obtain⟨a,b,c⟩:=g
  simp only at q3 q4
  unfold w00
  simp only[h1,oB,Bool.not_true,Bool.false_eq_true,if_false,cond_true]
  rw[w64 (x:=((c.length:Nat):Int)-b) (by omega) (by omega),w64 (by omega) (by omega)]
def U7(g:j0):Int:=bif D9 g then g.2.1 else -1
theorem K08(g:j0)(hl:g.2.2.length<=140737488355328):N00 g=some (U7 g)/\P0 (U7 g):=by
 have h1:=i05 g hl
 have h2:D9 g=true->_:=λh=>D1 (o6 (A07 h))
 unfold U7
 obtain⟨a,b,c⟩:=g
 unfold N00
 cases hc:D9 (a,b,c)with
 |false =>
  rw[hc]at h1
  simp only[h1,oB,Bool.not_false,if_true,cond_false]
  exact⟨trivial,⟨by omega,by omega⟩⟩
 |true =>
  rw[hc]at h1
  obtain⟨q1,q2,q3,q4⟩:=h2 hc
  simp only at q3
  simp only[h1,oB,Bool.not_true,Bool.false_eq_true,if_false,cond_true]
  exact⟨trivial,⟨by omega,by omega⟩⟩
theorem l0f(g:j0)(hl:g.2.2.length<=140737488355328):R01 g=some (U7 g):=by
 have h1:=z07 g hl
 unfold U7
 obtain⟨a,b,c⟩:=g
 unfold R01
 cases hc:D9 (a,b,c)with
 |false =>
  rw[hc]at h1
  simp only[h1,oB,Bool.not_false,if_true,cond_false]
 |true =>
  rw[hc]at h1
  simp only[h1,oB,Bool.not_true,Bool.false_eq_true,if_false,cond_true]
end Go.Proofs.YtkjhghloldgioaaGreat
