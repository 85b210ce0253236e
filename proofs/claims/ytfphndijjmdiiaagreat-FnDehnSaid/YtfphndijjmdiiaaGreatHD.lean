/- The library of the walks, part HD: plain laws over the model. -/
import Derived.Test.YtfphndijjmdiiaaGreatHC
import Derived.ProofKit
namespace Go.H
set_option linter.unusedVariables false
set_option linter.unusedSimpArgs false
theorem U6{i:Nat}{o:Oper}(h:V7 i o=true):∃ e∈o.after,Region.binds .any e=true/\e.on=i:=by
 unfold V7 at h
 rw[List.any_eq_true]at h
 simp_all
theorem V07{o:Oper}{t:Nat}:∀ {l:List Oper} {i:Nat},Z01 o t l i=true->∀ k x,l[k]?=some x->x.dst=some t->V7 (i+k) o=true
 | [],i,h,k,x,a,b=>by simp at a
 |y::r,i,h,0,x,a,b=>by
  simp_all[Z01,Nat.beq_refl,Bool.and_eq_true]
 |y::r,i,h,k+1,x,a,b=>by
  simp only[List.getElem?_cons_succ]at a
  have c:Z01 o t r (i+1)=true:=by
   simp only[Z01]at h
   grind
  have:=V07 c k x a b
  rwa [show i+1+k=i+(k+1) from by omega]at this
theorem d03{o:Oper}{ops:List Oper}:∀ {l:List Operand},r0a o ops l=true->∀ t,Operand.tmp t∈l->Z01 o t ops 0=true
 | [],h,t,a=>by cases a
 | .tmp u::r,h,t,a=>by
  simp only[r0a,Bool.and_eq_true]at h
  rcases List.mem_cons.1 a with e|a
  ·cases e;exact h.1
  ·exact d03 h.2 t a
 | .const v::r,h,t,a=>by
  rcases List.mem_cons.1 a with e|a
  ·cases e
  ·exact d03 (l:=r) h t a
 | .global v::r,h,t,a=>by
  rcases List.mem_cons.1 a with e|a
  ·cases e
  ·exact d03 (l:=r) h t a
 | .func v::r,h,t,a=>by
  rcases List.mem_cons.1 a with e|a
  ·cases e
  ·exact d03 (l:=r) h t a
theorem N06{ops:List Oper}:∀ {l:List Oper},l0n ops l=true->∀ o∈l,∀ t,Operand.tmp t∈o.op.operands->∀ k x,ops[k]?=some x->x.dst=some t->∃ e∈o.after,Region.binds .any e=true/\e.on=k
 | [],h,o,a=>by cases a
 |y::r,h,o,a=>by
  simp only[l0n,Bool.and_eq_true]at h
  rcases List.mem_cons.1 a with rfl|a
  ·intro t d k x c b
   have:=V07 (d03 h.1 t (by simpa using d)) k x c b
   simp_all[Nat.zero_add,U6]
  ·exact N06 h.2 o a
theorem F05{d:Nat}:∀ {l:List Oper},I07 d l=true->∀ o∈l,o.dst≠some d
 | [],h,o,a=>by cases a
 |y::r,h,o,a=>by
  simp only[I07]at h
  split at h
  ·rename_i c b
   simp only[Bool.and_eq_true,Bool.not_eq_true']at h
   rcases List.mem_cons.1 a with rfl|a
   ·grind[Nat.ne_of_beq_eq_false]
   ·exact F05 h.2 o a
  ·rename_i b
   rcases List.mem_cons.1 a with rfl|a
   ·grind
   ·exact F05 h o a
theorem O04{n:Nat}:∀ {l:List Oper},W0j n l=true->(∀ o∈l,∀ d,o.dst=some d->d<n) /\
  ∀(i j:Nat) (a b:Oper) (d:Nat),l[i]?=some a->l[j]?=some b->a.dst=some d->b.dst=some d->i=j
 | [],h=>⟨by simp,λi j a b d f=>by simp at f⟩
 |y::r,h=>by
  simp only[W0j]at h
  split at h
  ·rename_i d p
   simp only[Bool.and_eq_true]at h
   obtain⟨⟨v,k⟩,m⟩:=h
   obtain⟨g,s⟩:=O04 m
   have x:=F05 k
   refine⟨λo c e q=>?_,λi j a b e f w t u=>?_⟩
   ·rcases List.mem_cons.1 c with rfl|c
    ·simp_all
    ·exact g o c e q
   grind
  ·rename_i p
   obtain⟨g,s⟩:=O04 h
   grind
theorem x03:∀ {l:List Oper} {j:Nat},i0d l j=true->∀ k o,l[k]?=some o->∀ e∈o.after,Region.binds .any e=true->e.on<j+k
 | [],j,h,k,o,a=>by simp at a
 |y::r,j,h,k,o,a=>by
  simp only[i0d,Bool.and_eq_true,List.all_eq_true]at h
  cases k with
  |zero =>
   simp at a
   subst a
   intro e b c
   have:=h.1 e (by simpa using b)
   simp_all
  |succ k =>
   simp at a
   intro e b c
   have:=x03 h.2 k o a e b c
   omega
def I4:List Oper->List (Nat×AV)->List (Nat×AV)
 | [],fr=>fr
 |o::r,fr=>match o.dst with
  |some d=>(d,.dead)::I4 r fr
  |none=>I4 r fr
theorem a01{t:Nat}:∀ {l:List Oper} {fr:List (Nat×AV)},(∀ o∈l,o.dst≠some t)->G3 (I4 l fr) t=G3 fr t
 | [],fr,h=>rfl
 |o::r,fr,h=>by
  have c:=a01 (fr:=fr) λb a=>h b (mC _ a)
  simp only[I4]
  split
  all_goals simp_all[Y3,if_neg,List.mem_cons_self]
theorem b02{t:Nat}:∀ {l:List Oper} {fr:List (Nat×AV)} {o:Oper},o∈l->o.dst=some t->G3 (I4 l fr) t = .dead
 | [],fr,o,h,_=>by cases h
 |y::r,fr,o,h,a=>by
  simp only[I4]
  split
  ·rename_i d b
   rw[Y3]
   split
   ·rfl
   ·rename_i c
    rcases List.mem_cons.1 h with rfl|h
    ·grind
    ·exact b02 h a
  ·rename_i b
   rcases List.mem_cons.1 h with rfl|h
   ·rw[a]at b;cases b
   ·exact b02 h a
theorem D00(d:Nat)(f:o6)(r:List (Nat×o6))(s:Nat):V3 ((d,f)::r) s=if d=s then some f else V3 r s:=by
 simp only[V3]
 cases h:Nat.beq d s with
 |true=>rw[if_pos (Nat.eq_of_beq_eq_true h)]
 |false=>rw[if_neg (Nat.ne_of_beq_eq_false h)]
section
variable {P:Program} {h0:Hp} {w0:World} {be:Nat->Nat} {oe:Nat->Value} {H:Hp} {h:Hp} {a:Act} {w:World}
theorem Sim.refr{st:St}(b:Sim P h0 w0 be oe H st h a w){fr:List (Nat×AV)}(hf:∀ t,Good st be oe (G3 fr t) (a.tmps.getD t undef)):Sim P h0 w0 be oe H { st with fr:=fr } h a w:=by
 have c:Q6 st be oe { st with fr:=fr } be oe:=⟨Nat.le_refl _,λ_ _=>rfl,λi b h=>⟨b,h,Nat.le_refl _,λ_=>rfl⟩⟩
 refine⟨b.mv,b.sub,λi cs ty g=>?_,b.pub,b.own,b.frz,b.bb,b.oo,b.bo,b.dfr,b.siz,λt=>(hf t).grow c⟩
 obtain⟨d,vs,e,f⟩:=b.box i cs ty g
 exact⟨d,vs,e.grow c,f⟩
def G05(st:St)(be:Nat->Nat)(oe:Nat->Value)(h:Hp):o6->Value->Prop
 | .pu av,v=>Good st be oe av v
 | .ef F,v=>F v h
theorem z02{L:List (Nat×o6)}{st:St}{h:Hp}{val:Nat->Value}{K:List (Nat×AV)->Prop}:∀ {l:List Operand} {acc:List (Nat×AV)},
  (∀ t,Good st be oe (G3 acc t) (val t))->(∀ t,Operand.tmp t∈l->(∀ f,V3 L t=some f->G05 st be oe h f (val t))/\(V3 L t=none->Good st be oe (G3 st.fr t) (val t))) ->
  C0e L st h l acc K->∃ fr,K fr/\∀ t,Good st be oe (G3 fr t) (val t)
 | [],acc,c,b,a=>⟨acc,a,c⟩
 | .tmp t::r,acc,c,b,a=>by
  have i:∀ u,Operand.tmp u∈r->_:=λu d=>b u (mC _ d)
  have j:=b t mS
  have put:∀ av,Good st be oe av (val t)->∀ u,Good st be oe (G3 ((t,av)::acc) u) (val u):=λav g u=>by
   grind[Y3]
  simp only[C0e]at a
  split at a
  ·rename_i av e
   exact z02 (put av (j.1 _ e)) i a
  ·rename_i F e
   exact z02 (put (.val (val t)) rfl) i (a _ (j.1 _ e))
  ·rename_i e
   exact z02 (put _ (j.2 e)) i a
 | .const v::r,acc,c,b,a=>z02 (l:=r) c (λu d=>b u (mC _ d)) a
 | .global v::r,acc,c,b,a=>z02 (l:=r) c (λu d=>b u (mC _ d)) a
 | .func v::r,acc,c,b,a=>z02 (l:=r) c (λu d=>b u (mC _ d)) a
def h0v(P:Program)(st:St)(h:Hp)(L:List (Nat×o6))(o:Oper):Prop :=
 o.guard=none/\∃ f,(∀ d,o.dst=some d->V3 L d=some f)/\match f with
  | .pu av=>k0m P L o st=some av
  | .ef F=>(∀ v a b,Sub a b->F v a->F v b)/\∀ h',Sub h h'->C0e L st h' o.op.operands.toList [] λfr=>c8 P o { st with fr:=fr } h' (F0u { st with fr:=fr } h' F)
theorem d0c:∀ {L:List (Nat×o6)} {t:Nat} {f:o6},V3 L t=some f->(t,f)∈L
 | [],t,f,h=>by cases h
 |(d,a)::r,t,f,h=>by
  rw[D00]at h
  split at h
  ·grind
  ·exact mC _ (d0c h)
theorem n0s{st:St}{L:List (Nat×o6)}{o:Oper}{av:AV}{val:Nat->Value}(a:k0m P L o st=some av)
  (k:∀ t,Operand.tmp t∈o.op.operands->(∀ f,V3 L t=some f->G05 st be oe h f (val t))/\(V3 L t=none->Good st be oe (G3 st.fr t) (val t))) :
  ∃ fr,(∀ t,Good st be oe (G3 fr t) (val t))/\c8 P o { st with fr:=fr } h λi st' h'=>i=av/\st' = { st with fr:=fr }/\h'=h:=by
 have one:∀ x:Operand,(∀ t,x = .tmp t->Operand.tmp t∈o.op.operands)->rdS L st x ≠ .dead->∃ fr,(∀ t,Good st be oe (G3 fr t) (val t))/\rdO { st with fr:=fr } x=rdS L st x:=by
  intro x b c
  cases x with
  |tmp t =>
   obtain⟨j,l⟩:=k t (b t rfl)
   have mk:∀ A,Good st be oe A (val t)->∀ u,Good st be oe (G3 [(t,A)] u) (val u):=λA g u=>by
    rw[Y3]
    split
    ·grind
    ·trivial
   have rd:∀ A,rdO { st with fr:=[(t,A)] } (.tmp t)=rdA st A:=λA=>by
    show Go.H.rdA _ (G3 [(t,A)] t)=_
    rw[Y3,if_pos rfl]
    obtain⟨n,fr,bx,ow⟩:=st
    cases A<;>rfl
   cases hL:V3 L t with
   |none=>grind[rdS]
   |some f =>
    cases f with
    |pu A=>exact⟨_,mk _ (j _ hL),by grind[rdS]⟩
    |ef F=>grind[absurd,rdS]
  |const v=>exact⟨[],λt=>trivial,rfl⟩
  |global v=>exact⟨[],λt=>trivial,rfl⟩
  |func v=>exact⟨[],λt=>trivial,rfl⟩
 unfold k0m at a
 split at a
 ·rename_i x b
  have c:rdS L st x ≠ .dead:=λe=>by rw[e]at a;cases a
  obtain⟨fr,g,e⟩:=one x (λt d=>by grind[Op.operands]) c
  refine⟨fr,g,?_⟩
  simp only[c8,b,e]
  revert a
  cases rdS L st x<;>intro a<;>first|(cases a;done)|(cases a;simp;done)
 ·rename_i x b
  have c:rdS L st x ≠ .dead:=λe=>by rw[e]at a;cases a
  obtain⟨fr,g,e⟩:=one x (λt d=>by grind[Op.operands]) c
  refine⟨fr,g,?_⟩
  simp only[c8,b,e]
  revert a
  cases rdS L st x<;>intro a<;>first|(cases a;done)|(cases a;simp;done)
 ·rename_i t x b
  have c:rdS L st x ≠ .dead:=λe=>by rw[e]at a;cases a
  obtain⟨fr,g,e⟩:=one x (λt d=>by grind[Op.operands]) c
  refine⟨fr,g,?_⟩
  simp only[c8,b,e]
  split at a
  all_goals grind[B0e,y04,x0i,W5]
 ·cases a
def V0t(P:Program)(h0:Hp)(w0:World)(ops:Array Oper)(st:St)(h:Hp)(L:List (Nat×o6))(listed:Array Bool)(a:Act)(w:World):Prop :=
 ∃ be oe H h',Sub h h'/\Sim P h0 w0 be oe H { st with fr:=I4 ops.toList st.fr } h' a w /\
  ∀ j o d f,ops[j]?=some o->o.dst=some d->listed.getD j false=true->V3 L d=some f->G05 st be oe h' f (a.tmps.getD d undef)
theorem Good.fr{st:St}{fr:List (Nat×AV)}{av:AV}{v:Value}(g:Good st be oe av v):Good { st with fr:=fr } be oe av v:=by
 obtain⟨n,a,bx,ow⟩:=st
 show Good ⟨n,fr,bx,ow⟩ be oe av v
 exact Good.grow (st:=⟨n,a,bx,ow⟩) (st':=⟨n,fr,bx,ow⟩) (be:=be) (oe:=oe) (be':=be) (oe':=oe) (av:=av) (x:=v) ⟨Nat.le_refl _,λ_ _=>rfl,λi b h=>⟨b,h,Nat.le_refl _,λ_=>rfl⟩⟩ g
theorem C4{ops:Array Oper}{st:St}{L:List (Nat×o6)}{listed:Array Bool}{j:Nat}{o:Oper}{Q:Exit->Act->World->Prop}
  (aD:∀(i j:Nat) (c af:Oper) (d:Nat),ops.toList[i]?=some c->ops.toList[j]?=some af->c.dst=some d->af.dst=some d->i=j)
  (Y:∀ o∈ops.toList,∀ d,o.dst=some d->d<st.n)
  (U:∀ t f,(t,f)∈L->∃(i:Nat) (c:Oper),ops.toList[i]?=some c/\c.dst=some t)
  (ak:∀(i:Nat) (c:Oper) (d:Nat),ops.toList[i]?=some c->c.dst=some d->∃ f,V3 L d=some f)
  (Z:ops[j]?=some o) (V:∀(j:Nat) (o:Oper),ops.toList[j]?=some o->h0v P st h L o) (am:∀ t,Operand.tmp t∈o.op.operands->∀(i:Nat) (c:Oper),ops.toList[i]?=some c->c.dst=some t->listed.getD i false=true)
  (K:V0t P h0 w0 ops st h L listed a w):o.wp P a w (V0t P h0 w0 ops st h L (listed.setIfInBounds j true)) Q:=by
 obtain⟨be,oe,H,h',ad,C,S⟩:=K
 have aa:ops.toList[j]?=some o:=by simpa using Z
 have X:o∈ops.toList:=List.mem_of_getElem? aa
 obtain⟨aF,f,hf,ab⟩:=V j o aa
 have ay:∀ d F,V3 L d=some (.ef F)->∀ v l k,Sub l k->F v l->F v k:=λd F I=>by
  obtain⟨i,c,l,k⟩:=U d _ (d0c I)
  obtain⟨_,aC,an,ax⟩:=V i c l
  rw[an d k]at I
  cases I
  exact ax.1
 have ah:∀ t,Operand.tmp t∈o.op.operands->(∀ f,V3 L t=some f->G05 st be oe h' f (a.tmps.getD t undef))/\(V3 L t=none->Good st be oe (G3 st.fr t) (a.tmps.getD t undef)):=λt M=>by
  refine⟨λf hf=>?_,λau=>?_⟩
  ·obtain⟨i,c,l,k⟩:=U t f (d0c hf)
   exact S i c t f (by simpa using l) k (am t M i c l k) hf
  ·have g:=C.fr t
   have aq:G3 (I4 ops.toList st.fr) t=G3 st.fr t:=a01 λaB aw B=>by
    obtain⟨i,K,e⟩:=List.getElem_of_mem aw
    obtain⟨f,hf⟩:=ak i aB t (by rw[List.getElem?_eq_getElem K,e]) B
    rw[au]at hf;cases hf
   rw[←aq]
   exact Good.fr (st := { st with fr:=I4 ops.toList st.fr }) (fr:=st.fr) g
 have fin:∀ {fr:List (Nat×AV)} {y:Act} {s:World} {p:Hp} {be':Nat->Nat} {oe':Nat->Value} {q:Hp} {v:Value},Sub h' p->y=a.put o.dst v->Sim P h0 w0 be' oe' q { st with fr:=fr } p a s ->
   Q6 { st with fr:=fr } be oe { st with fr:=fr } be' oe'->G05 st be' oe' p f v->V0t P h0 w0 ops st h L (listed.setIfInBounds j true) y s:=by
  intro fr y s p be' oe' q v ae A D m N
  subst A
  have ai:Q6 { st with fr:=I4 ops.toList st.fr } be oe { st with fr:=I4 ops.toList st.fr } be' oe':=⟨m.bl,m.be,m.sm⟩
  have aj:Q6 st be oe st be' oe':=⟨m.bl,m.be,m.sm⟩
  have s1:Sim P h0 w0 be' oe' q { st with fr:=I4 ops.toList st.fr } p a s :=
   D.refr (fr:=I4 ops.toList st.fr) λt=>Good.fr (st := { st with fr:=I4 ops.toList st.fr }) ((C.fr t).grow ai)
  have s2:Sim P h0 w0 be' oe' q { st with fr:=I4 ops.toList st.fr } p (a.put o.dst v) s:=by
   cases B:o.dst with
   |none=>exact s1
   |some d =>
    have ac:=s1.put (d:=d) (av := .dead) (v:=v) (Y o X d B) trivial
    refine ac.refr (fr:=I4 ops.toList st.fr) λt=>?_
    have g:=ac.fr t
    grind[Y3,b02]
  refine⟨be',oe',q,p,λb x al=>ae b x (ad b x al),s2,λi c d g l k T E=>?_⟩
  by_cases hij:j=i
  ·subst hij
   rw[Z]at l;cases l
   rw[hf d k]at E;cases E
   have ap:d<a.tmps.size:=by rw[C.siz];exact Y o X d k
   have:(a.put o.dst v).tmps.getD d undef=v:=by
    rw[k]
    simp[Act.put,ap]
   rw[this]
   exact N
  ·have ao:listed.getD i false=true:=by rw[getD_set_ne false hij]at T;exact T
   have ar:∀ z,o.dst=some z->z≠d:=λz aE e=>by
    grind
   have:(a.put o.dst v).tmps.getD d undef=a.tmps.getD d undef:=by
    cases B:o.dst with
    |none=>rfl
    |some z=>simp[Act.put,Array.getElem?_setIfInBounds_ne (ar z B)]
   rw[this]
   have ag:=S i c d g l k ao E
   cases g with
   |pu av=>exact Good.grow aj ag
   |ef F=>exact ay d F E _ _ _ ae ag
 cases f with
 |pu av =>
  obtain⟨fr,g,J⟩:=n0s (h:=h') ab ah
  have D:Sim P h0 w0 be oe H { st with fr:=fr } h' a w:=C.refr (fr:=fr) λt=>Good.fr (g t)
  refine Oper.wp_mono (λy s O=>?_) (O9 D J)
  obtain⟨R,st',p,v,be',oe',q,⟨rfl,rfl,rfl⟩,A,s2,G,m⟩:=O
  exact fin (λ_ _ h=>h) A s2 m (Good.fr (st := { st with fr:=fr }) (fr:=st.fr) G)
 |ef F =>
  obtain⟨fr,J,g⟩:=z02 (acc:=[]) (be:=be) (oe:=oe) (val:=λt=>a.tmps.getD t undef) (λt=>trivial) (λt M=>ah t (by simpa using M)) (ab.2 h' ad)
  have D:Sim P h0 w0 be oe H { st with fr:=fr } h' a w:=C.refr (fr:=fr) λt=>Good.fr (g t)
  refine Oper.wp_mono (λy s O=>?_) (O9 D J)
  obtain⟨R,st',p,v,be',oe',q,W,A,s2,G,m⟩:=O
  cases R with
  |val u =>
   obtain⟨rfl,az,aA⟩:=W
   have N:v=u:=G
   subst N
   exact fin az A s2 m aA
  |_=>exact W.elim
theorem e0c{ops:Array Oper}(b:∀(k:Nat) (o:Oper),ops.toList[k]?=some o->∀ e∈o.after,Region.binds .any e=true->e.on<k){listed:Array Bool}(h:listed.size=ops.size)(g:Region.ready .any ops listed = []):
  ∀ j,j<ops.size->listed.getD j false=true:=by
 intro j
 induction j using Nat.strongRecOn with
 |_ j i =>
  intro a
  cases hl:listed.getD j false with
  |true=>rfl
  |false =>
   have f:j<listed.size:=by omega
   have:j∈Region.ready .any ops listed:=by
    refine mem_ready.2 ⟨?_,ops[j],by simp[a],λe d c=>?_⟩
    all_goals grind
   grind
theorem count_set{listed:Array Bool}{j:Nat}(a:listed.getD j true=false):(listed.setIfInBounds j true).toList.count true=listed.toList.count true+1:=by
 have b:j<listed.size:=by
  grind
 simp_all[Array.toList_setIfInBounds,List.count_set]
end
theorem o0s{P:Program}{t:TypeId}{cs:List N5}{off:Nat}{av:AV}(h:B0e P t cs off=some av):y04 P t cs off λa=>a=av:=by
 grind[B0e,y04,x0i,W5]
section
variable {P:Program} {h0:Hp} {w0:World} {be:Nat->Nat} {oe:Nat->Value} {H:Hp} {h:Hp} {a:Act} {w:World}
theorem d06{L:List (Nat×o6)}{st stX:St}{x:Operand}
  (b:∀ t,x = .tmp t->(∀ av,V3 L t=some (.pu av)->Good stX be oe av (a.tmps.getD t undef))/\(V3 L t=none->Good stX be oe (G3 st.fr t) (a.tmps.getD t undef))):Good stX be oe (E05 L st x) (a.eval x):=by
 cases x with
 |tmp t =>
  obtain⟨c,d⟩:=b t rfl
  show Good stX be oe (E05 L st (.tmp t)) (a.tmps.getD t undef)
  simp only[E05]
  split
  ·grind
  ·trivial
  grind
 |const v=>exact rfl
 |global g=>trivial
 |func f=>trivial
theorem O06{L:List (Nat×o6)}{st stX:St}:∀(l:List Operand) {vs:List (Nat×Value)},(∀ t,Operand.tmp t∈l->Good stX be oe (E05 L st (.tmp t)) (a.tmps.getD t undef))->j0d L st l=some vs ->
  (∀ p∈vs,p.2=a.eval (.tmp p.1))/\(∀ x∈l,(∃ t v,x = .tmp t/\(t,v)∈vs)∨(∀ m,rho m x=a.eval x))
 | [],vs,G,h=>by cases h;simp
 | .tmp t::r,vs,G,h=>by
  simp only[j0d]at h
  split at h
  ·rename_i v k
   split at h
   ·rename_i n j
    cases h
    obtain⟨c,e⟩:=O06 r (λu d=>G u (mC _ d)) j
    have g:=G t mS
    rw[k]at g
    have g:a.tmps.getD t undef=v:=g
    refine⟨λp i=>?_,λx b=>?_⟩
    ·rcases List.mem_cons.1 i with rfl|i
     ·exact g.symm
     ·exact c p i
    grind
   ·cases h
  ·cases h
 | .global _::r,vs,G,h=>by cases h
 | .const v::r,vs,G,h=>by
  obtain⟨c,e⟩:=O06 r (vs:=vs) (λu d=>G u (mC _ d)) h
  exact⟨c,λx b=>by
   rcases List.mem_cons.1 b with rfl|b
   ·exact .inr λ_=>rfl
   ·exact e x b⟩
 | .func f::r,vs,G,h=>by
  obtain⟨c,e⟩:=O06 r (vs:=vs) (λu d=>G u (mC _ d)) h
  exact⟨c,λx b=>by
   rcases List.mem_cons.1 b with rfl|b
   ·exact .inr λ_=>rfl
   ·exact e x b⟩
theorem n0k{L:List (Nat×o6)}{st stX:St}{o:Oper}{av:AV}(b:l0m P L o st=some av)
  (j:∀ t,Operand.tmp t∈o.op.operands->(∀ av,V3 L t=some (.pu av)->Good stX be oe av (a.tmps.getD t undef))/\(V3 L t=none->Good stX be oe (G3 st.fr t) (a.tmps.getD t undef))) :
  ∃ v,(execOp a.eval o).run P w = .ok (.value v) w/\Good stX be oe av v:=by
 unfold l0m at b
 split at b
 ·rename_i vs f g
  obtain⟨d,e⟩:=O06 (a:=a) (stX:=stX) (be:=be) (oe:=oe) _ (λt h=>d06 (x := .tmp t) λu i=>by grind) g
  split at b
  ·cases b
  ·split at b
   ·rename_i v c
    cases b
    rw[A0a,z08 f d e]at c
    exact⟨v,s0n _ c w,rfl⟩
   ·cases b
 ·cases b
theorem q05{L b:List (Nat×o6)}{st:St}:∀ {l:List Operand},(∀ t,Operand.tmp t∈l->V3 L t=V3 b t)->j0d L st l=j0d b st l
 | [],h=>rfl
 | .tmp t::r,h=>by simp only[j0d,E05,h t mS,q05 λu a=>h u (mC _ a)]
 | .global _::r,h=>rfl
 | .const _::r,h=>q05 (l:=r) λu a=>h u (mC _ a)
 | .func _::r,h=>q05 (l:=r) λu a=>h u (mC _ a)
theorem S0e{L:List (Nat×o6)}{st:St}{o:Oper}{t:TypeId}{x:Operand}{i off:Nat}(b:o.op = .load t x)(a:E05 L st x = .box i off):∀ {l:List Oper},o∈l->i∈A9 L st l
 | [],h=>nomatch h
 |y::r,h=>by
  rcases List.mem_cons.1 h with rfl|h
  ·grind[A9,List.mem_cons_self]
  ·have:=S0e b a h
   grind[A9,mC]
theorem f0h{bx a:List BSt}{i:Nat}:∀ {l:List Nat},k09 bx l=k09 a l->i∈l->nth bx i=nth a i
 | [],_,h=>nomatch h
 |y::r,e,h=>by
  simp only[k09,List.cons.injEq]at e
  rcases List.mem_cons.1 h with rfl|h
  ·exact e.1
  ·exact f0h e.2 h
theorem R0o{L:List (Nat×o6)}{st stX:St}{o:Oper}{av:AV}(m:Sim P h0 w0 be oe H stX h a w)(E:∀ t x i off,o.op = .load t x->E05 L st x = .box i off->nth stX.bx i=nth st.bx i)(c:j09 P L o st=some av)
  (f:∀ t,Operand.tmp t∈o.op.operands->(∀ av,V3 L t=some (.pu av)->Good stX be oe av (a.tmps.getD t undef))/\(V3 L t=none->Good stX be oe (G3 st.fr t) (a.tmps.getD t undef))) :
  ∃ v,(execOp a.eval o).run P w = .ok (.value v) w/\Good stX be oe av v:=by
 unfold j09 at c
 split at c
 ·rename_i x d
  split at c
  ·cases c
   simp_all[d06,Op.operands,execOp]
  ·cases c
 ·rename_i x d
  split at c
  ·cases c
   simp_all[d06,Op.operands,execOp]
  ·cases c
 ·rename_i t x d
  have g:=d06 (L:=L) (st:=st) (stX:=stX) (be:=be) (oe:=oe) (a:=a) (x:=x) λt e=>f t (by rw[d];simp[Op.operands,e])
  split at c
  ·rename_i i off l
   rw[l]at g
   split at c
   ·rename_i cs ty F
    split at c
    ·rename_i B s
     split at c
     ·cases c
      obtain⟨D,vs,p,q⟩:=m.box i cs ty (by grind)
      obtain⟨C,v,y,z,A⟩:=R.load_row (H:=H) (b:=be i) (o:=0) (be:=be) (o0s s) p (λj v u=>by simp[Hp.cell,q,u])
      subst y
      exact⟨v,R.run_of (R.exec_load d g.2 (by simpa using A)) w (a0q m),z⟩
     ·cases c
    ·cases c
   ·cases c
  ·cases c
 ·rename_i t x k d
  have g:=d06 (L:=L) (st:=st) (stX:=stX) (be:=be) (oe:=oe) (a:=a) (x:=x) λt e=>f t (by rw[d];simp[Op.operands,e])
  split at c
  ·rename_i i off n l e
   rw[l]at g
   cases c
   exact⟨ptr (be i) (off+n),R.run_of (R.exec_fieldAddr d e g.2) w (a0q m),g.1,rfl⟩
  ·cases c
 ·split at c
  ·exact n0k c f
  ·cases c
 ·split at c
  ·split at c
   ·exact n0k c f
   ·cases c
  ·cases c
 ·cases c
theorem L01{L:List (Nat×o6)}{st stX:St}{val:Nat->Value}{K:List (Nat×AV)->Prop}:∀ {l:List Operand} {acc:List (Nat×AV)},
  (∀ t,Good stX be oe (G3 acc t) (val t))->(∀ t,Operand.tmp t∈l->(∀ av,V3 L t=some (.pu av)->Good stX be oe av (val t))/\(V3 L t=none->Good stX be oe (G3 st.fr t) (val t))) ->
  f04 L st.fr l acc K->∃ fr,K fr/\∀ t,Good stX be oe (G3 fr t) (val t)
 | [],acc,c,b,a=>⟨acc,a,c⟩
 | .tmp t::r,acc,c,b,a=>by
  have f:∀ u,Operand.tmp u∈r->_:=λu d=>b u (mC _ d)
  have h:=b t mS
  have put:∀ av,Good stX be oe av (val t)->∀ u,Good stX be oe (G3 ((t,av)::acc) u) (val u):=λav g u=>by
   grind[Y3]
  simp only[f04]at a
  split at a
  ·rename_i av e
   exact L01 (put av (h.1 _ e)) f a
  ·rename_i F e
   exact L01 (put .dead trivial) f a
  ·rename_i e
   exact L01 (put _ (h.2 e)) f a
 | .const v::r,acc,c,b,a=>L01 (l:=r) c (λu d=>b u (mC _ d)) a
 | .global v::r,acc,c,b,a=>L01 (l:=r) c (λu d=>b u (mC _ d)) a
 | .func v::r,acc,c,b,a=>L01 (l:=r) c (λu d=>b u (mC _ d)) a
theorem f0c:∀(L:List (Nat×o6)) (fr:List (Nat×AV)) (t:Nat),G3 (X0j L fr) t=match V3 L t with
  |some (.pu av)=>av
  |some (.ef _) => .dead
  |none=>G3 fr t
 | [],fr,t=>rfl
 |(d,.pu av)::r,fr,t=>by
  simp only[X0j]
  rw[Y3,D00]
  split
  ·rfl
  ·exact f0c r fr t
 |(d,.ef F)::r,fr,t=>by
  simp only[X0j]
  rw[Y3,D00]
  split
  ·rfl
  ·exact f0c r fr t
theorem o0k{L a:List (Nat×o6)}{o:Oper}{st:St}(h:∀ t,Operand.tmp t∈o.op.operands->V3 L t=V3 a t):j09 P L o st=j09 P a o st:=by
 have d:∀ x:Operand,(∀ t,x = .tmp t->Operand.tmp t∈o.op.operands)->E05 L st x=E05 a st x:=λx c=>by
  cases x with
  |tmp t=>grind[E05]
  |_=>rfl
 have e:l0m P L o st=l0m P a o st:=by
  unfold l0m
  rw[q05 (l:=o.op.operands.toList) λt b=>h t (by simpa using b)]
 unfold j09
 split
 ·rename_i x c;rw[d x λt b=>by grind[Op.operands]]
 ·rename_i x c;rw[d x λt b=>by grind[Op.operands]]
 ·rename_i t x c;rw[d x λt b=>by grind[Op.operands]]
 all_goals grind[Op.operands,List.mem_cons_self,Call.operands]
theorem M01{L c:List (Nat×o6)}{f:List (Nat×AV)}{K:List (Nat×AV)->Prop}:∀ {l:List Operand} {acc:List (Nat×AV)},(∀ t,Operand.tmp t∈l->V3 L t=V3 c t)->f04 L f l acc K->f04 c f l acc K
 | [],acc,a,h=>h
 | .tmp t::r,acc,a,h=>by
  have e:=a t mS
  have d:∀ u,Operand.tmp u∈r->V3 L u=V3 c u:=λu b=>a u (mC _ b)
  simp only[f04]at h ⊢
  rw[←e]
  split at h
  ·exact M01 d h
  ·exact M01 d h
  ·exact M01 d h
 | .const _::r,acc,a,h=>M01 (l:=r) (λu b=>a u (mC _ b)) h
 | .func _::r,acc,a,h=>M01 (l:=r) (λu b=>a u (mC _ b)) h
 | .global _::r,acc,a,h=>M01 (l:=r) (λu b=>a u (mC _ b)) h
structure r05 (P:Program) (st:St) (h:Hp) (ops:List Oper) (k:Nat) (L:List (Nat×o6)) (X E:List (Nat×Oper)):Prop where
 key:∀ t f,V3 L t=some f->∃(i:Nat) (oi:Oper),i<k/\ops[i]?=some oi/\oi.dst=some t
 cov:∀(i:Nat) (oi:Oper) (d:Nat),i<k->ops[i]?=some oi->oi.dst=some d->∃ f,V3 L d=some f
 each:∀(j:Nat) (o:Oper),j<k->ops[j]?=some o->o.guard=none/\((j,o)∈E∨((∀ p∈E,p.1≠j)/\∃ av,(j09 P L o st=some av∨((j,o)∈X/\Y0j P st h L o av))/\∀ d,o.dst=some d->V3 L d=some (.pu av)))
 eff:∀ p∈E,p.1<k/\ops[p.1]?=some p.2/\∀ d,p.2.dst=some d->∃ F,V3 L d=some (.ef F)
 nd:(E.map λp=>p.1).Nodup
 xx:∀ p∈X,p.1<k/\ops[p.1]?=some p.2
theorem r05.add{st:St}{h:Hp}{ops:List Oper}{k:Nat}{L:List (Nat×o6)}{X w E A:List (Nat×Oper)}{o:Oper}{f:o6}
  (W:∀(i j:Nat) (q b:Oper) (d:Nat),ops[i]?=some q->ops[j]?=some b->q.dst=some d->b.dst=some d->i=j)
  (Y:∀(j:Nat) (o:Oper) (t i:Nat) (q:Oper),ops[j]?=some o->Operand.tmp t∈o.op.operands->ops[i]?=some q->q.dst=some t->i<j)
  (l:r05 P st h ops k L X E) (K:ops[k]?=some o) (B:o.guard=none) (N:w=X∨w=X ++ [(k,o)])
  (I:(A=E/\∃ av,f = .pu av/\(j09 P L o st=some av∨((k,o)∈w/\Y0j P st h L o av)))∨(A=E ++ [(k,o)]/\∃ F,f = .ef F)):r05 P st h ops (k+1) (E06 o.dst f L) w A:=by
 have no:∀ d,o.dst=some d->V3 L d=none:=λd c=>by
  cases h:V3 L d with
  |none=>rfl
  |some g =>
   obtain⟨i,q,u,s,H⟩:=l.key d g h
   grind
 have up:∀ t g,V3 L t=some g->V3 (E06 o.dst f L) t=some g:=λt g m=>by
  cases c:o.dst with
  |none=>exact m
  |some d =>
   show V3 ((d,f)::L) t=some g
   grind[D00]
 have U:∀ d,o.dst=some d->V3 (E06 o.dst f L) d=some f:=λd c=>by
  rw[c];show V3 ((d,f)::L) d=some f;rw[D00,if_pos rfl]
 have dn:∀ t g,V3 (E06 o.dst f L) t=some g->V3 L t=some g∨(o.dst=some t/\g=f):=λt g m=>by
  cases c:o.dst with
  |none=>rw[c]at m;exact .inl m
  |some d =>
   rw[c]at m
   change V3 ((d,f)::L) t=some g at m
   grind[D00]
 have V:∀(j:Nat) (b:Oper),j<=k->ops[j]?=some b->j09 P L b st=j09 P (E06 o.dst f L) b st:=λj b J v=>o0k λt m=>by
  cases c:o.dst with
  |none=>rfl
  |some d =>
   show V3 L t=V3 ((d,f)::L) t
   rw[D00]
   grind
 have G:∀(j:Nat) (b:Oper) (av:AV),j<=k->ops[j]?=some b->Y0j P st h L b av->Y0j P st h (E06 o.dst f L) b av:=λj b av J v C=>by
  obtain⟨n,fr,bx,ow⟩:=st
  intro h' O
  refine M01 (λt m=>?_) (C h' O)
  cases c:o.dst with
  |none=>rfl
  |some d =>
   show V3 L t=V3 ((d,f)::L) t
   rw[D00]
   split
   all_goals grind
 have R:∀ p,p∈X->p∈w:=λp a=>by
  grind
 refine⟨λt g m=>?_,λi q d Z u s=>?_,λj b J v=>?_,λp a=>?_,?_,λp a=>?_⟩
 rotate_left 5
 ·rcases N with rfl|rfl
  ·obtain⟨u,s⟩:=l.xx p a
   grind
  ·rcases List.mem_append.1 a with a|a
   ·obtain⟨u,s⟩:=l.xx p a
    grind
   grind
 rotate_left 4
 ·rcases I with⟨rfl,_⟩|⟨rfl,_⟩
  ·exact l.nd
  ·rw[List.map_append,List.nodup_append]
   refine⟨l.nd,by simp,λx C y Q e=>?_⟩
   obtain⟨p,a,rfl⟩:=List.mem_map.1 C
   have:=(l.eff p a).1
   simp at Q
   omega
 ·rcases dn t g m with h|⟨h,_⟩
  ·obtain⟨i,q,u,s⟩:=l.key t g h
   exact⟨i,q,by omega,s⟩
  grind
 ·rcases Nat.lt_or_ge i k with h|h
  ·obtain⟨g,B⟩:=l.cov i q d h u s
   exact⟨g,up d g B⟩
  grind
 ·rcases Nat.lt_or_ge j k with h|h
  ·obtain⟨S,D⟩:=l.each j b h v
   refine⟨S,?_⟩
   rcases D with D|⟨D,av,z,T⟩
   ·grind
   ·right
    refine⟨λp a=>?_,av,z.imp (λz=>by grind) (λz=>⟨R _ z.1,G j b av (by omega) v z.2⟩),λd c=>up d _ (T d c)⟩
    grind
  ·have:j=k:=by omega
   subst this
   rw[K]at v;cases v
   refine⟨B,?_⟩
   rcases I with⟨rfl,av,rfl,a⟩|⟨rfl,F,rfl⟩
   ·right
    exact⟨λp a=>by have:=(l.eff p a).1;omega,av,a.imp (λa=>by grind) (λa=>⟨a.1,G _ o av (Nat.le_refl _) K a.2⟩),U⟩
   grind
 ·have aa:p∈E->p.1<k+1/\ops[p.1]?=some p.2/\∀ d,p.2.dst=some d->∃ F,V3 (E06 o.dst f L) d=some (.ef F):=λa=>by
   obtain⟨u,s,H⟩:=l.eff p a
   exact⟨by omega,s,λd c=>by obtain⟨F,M⟩:=H d c;exact⟨F,up d _ M⟩⟩
  grind
theorem s05{ops:List Oper}{st:St}{h:Hp}{K:List (Nat×o6)->List (Nat×Oper)->List (Nat×Oper)->Prop}
  (e:∀(i j:Nat) (b z:Oper) (d:Nat),ops[i]?=some b->ops[j]?=some z->b.dst=some d->z.dst=some d->i=j)
  (g:∀(j:Nat) (o:Oper) (t i:Nat) (b:Oper),ops[j]?=some o->Operand.tmp t∈o.op.operands->ops[i]?=some b->b.dst=some t->i<j) :
  ∀(l:List Oper) (k:Nat) (L:List (Nat×o6)) (X E:List (Nat×Oper)),(∀ j,l[j]?=ops[k+j]?)->r05 P st h ops k L X E->v03 P st h l k L X E K->∃ w x v,K w x v/\r05 P st h ops ops.length w x v
 | [],k,L,X,E,m,c,a=>by
  refine⟨L,X,E,a,?_⟩
  have G:ops.length<=k:=by
   have:=m 0
   simpa using this
  have lt:∀(i:Nat) (b:Oper),ops[i]?=some b->i<ops.length:=λi b h=>(List.getElem?_eq_some_iff.1 h).1
  exact⟨λt f h=>by obtain⟨i,b,_,y,A⟩:=c.key t f h;grind,λi b d D=>c.cov i b d (by omega),λj o F=>c.each j o (by omega),
   λp u=>by obtain⟨_,y,A⟩:=c.eff p u;grind,c.nd,λp u=>by obtain⟨_,y⟩:=c.xx p u;grind⟩
 |o::l,k,L,X,E,m,c,a=>by
  have s:ops[k]?=some o:=by simpa using (m 0).symm
  have q:∀ j,l[j]?=ops[k+1+j]?:=λj=>by have:=m (j+1);grind
  simp only[v03]at a
  split at a
  ·exact a.elim
  ·rename_i n
   split at a
   ·rename_i av B
    rw[J02]at a
    exact s05 e g l (k+1) _ _ _ q (c.add e g s n (.inl rfl) (.inl ⟨rfl,av,rfl,.inl B⟩)) a
   ·rcases a with⟨av,C,a⟩|a
    ·rw[J02]at a
     exact s05 e g l (k+1) _ _ _ q (c.add e g s n (.inr rfl) (.inl ⟨rfl,av,rfl,.inr ⟨by simp,C⟩⟩)) a
    ·exact s05 e g l (k+1) _ _ _ q (c.add e g s n (.inl rfl) (.inr ⟨rfl,_,rfl⟩)) a
theorem T0e:∀(r:List (Nat×Oper)) (q:Nat×Oper),C04 r=true->q∈r.tail->∃ p∈r,V7 p.1 q.2=true
 | [],q,_,h=>by cases h
 | [x],q,_,h=>by cases h
 |(i,o)::(j,b)::r,q,a,h=>by
  simp only[C04,Bool.and_eq_true]at a
  rcases List.mem_cons.1 h with rfl|h
  ·simp_all
  ·obtain⟨p,d,c⟩:=T0e ((j,b)::r) q a.2 h
   grind
theorem e03:∀(d r:List (Nat×Oper)),C04 (d++r)=true->C04 r=true
 | [],r,h=>h
 | [x],[],h=>rfl
 | [(i,o)],(j,a)::r,h=>by simp_all[List.singleton_append,C04,Bool.and_eq_true]
 |(i,o)::(j,a)::d,r,h=>by
  simp only[List.cons_append,C04,Bool.and_eq_true]at h
  exact e03 ((j,a)::d) r h.2
theorem p0k{k:Nat}:∀ {r:List Nat},inK k r=true->k∈r
 |x::r,h=>by
  simp only[inK,Bool.or_eq_true]at h
  rw[List.mem_cons]
  exact h.imp (λe=>Nat.eq_of_beq_eq_true e) p0k
theorem P04{k:Nat}:∀ {l:List (Nat×Oper)},k∈V08 l->∃ p∈l,p.1=k
 |x::r,h=>by
  rcases List.mem_cons.1 h with h|h
  ·exact⟨x,mS,h.symm⟩
  ·obtain⟨p,a,b⟩:=P04 h
   exact⟨p,mC _ a,b⟩
theorem t09{es:List Nat}{i:Nat}{o:Oper}:∀ {a:Nat},L07 es a i o=true->∀ k,k<a->k≠i->(∃ e∈o.after,Region.binds .any e=true/\e.on=k)∨k∈es
 |0,_,k,c,_=>by omega
 |a+1,h,k,c,b=>by
  simp only[L07,Bool.and_eq_true,Bool.or_eq_true]at h
  by_cases e:k=a
  ·subst e
   rcases h.1 with(g|g)|g
   ·exact absurd (Nat.eq_of_beq_eq_true g) b
   ·exact .inl (U6 g)
   ·exact .inr (p0k g)
  ·exact t09 h.2 k (by omega) b
theorem u09{i:Nat}{o:Oper}:∀ {a:Nat},J07 a i o=true->∀ k,k<a->k≠i->∃ e∈o.after,Region.binds .any e=true/\e.on=k
 |0,_,k,b,_=>by omega
 |a+1,h,k,b,c=>by
  simp only[J07,Bool.and_eq_true,Bool.or_eq_true]at h
  by_cases e:k=a
  ·grind[absurd,Nat.eq_of_beq_eq_true,U6]
  ·exact u09 h.2 k (by omega) c
def u0m(P:Program)(h0:Hp)(w0:World)(ops:Array Oper)(i:List Nat)(n:Nat)(fr:List (Nat×AV))(f:List BSt)(g:List Own)(l:Hp)(c:Nat)(F:List (Nat×Oper))(b:List (Nat×o6))(EV:List (Nat×Oper)->List (Nat×Oper)->List (Nat×o6)->St->Hp->Prop)(listed:Array Bool)(a:Act)(w:World):Prop :=
 ∃(dn r:List (Nat×Oper)) (L:List (Nat×o6)) (bx:List BSt) (ow:List Own) (h:Hp) (be:Nat->Nat) (oe:Nat->Value) (H:Hp),F=dn++r/\(dn.length<=c->ow=g/\Sub l h/\(bx=f∨∀ k,k<ops.size->listed.getD k false=true∨k∈i))/\(∀(j:Nat) (o:Oper),ops[j]?=some o->listed.getD j false=true->∀ e∈o.after,Region.binds .any e=true->listed.getD e.on false=true)/\(∀ p∈r,listed.getD p.1 true=false)/\(∀ p∈dn,listed.getD p.1 false=true) /\
  (k09 bx (A9 b ⟨n,fr,f,g⟩ ops.toList)=k09 f (A9 b ⟨n,fr,f,g⟩ ops.toList)∨∀ k,k<ops.size->listed.getD k false=true∨k∈i)/\Sim P h0 w0 be oe H ⟨n,I4 ops.toList fr,bx,ow⟩ h a w/\EV dn r L ⟨n,fr,bx,ow⟩ h /\
  (∀ t,(V3 b t=none->V3 L t=none)/\∀ av,V3 b t=some (.pu av)->V3 L t=some (.pu av)) /\
  ∀(j:Nat) (o:Oper) (d:Nat),ops[j]?=some o->o.dst=some d->listed.getD j false=true->∃ av,V3 L d=some (.pu av)/\Good ⟨n,fr,bx,ow⟩ be oe av (a.tmps.getD d undef)
abbrev S0o(P:Program)(h0:Hp)(w0:World)(ops:Array Oper)(b:List Nat)(n:Nat)(fr:List (Nat×AV))(e:List BSt)(f:List Own)(g:Hp)(c:Nat)(E:List (Nat×Oper))(d:List (Nat×o6))(K:St->Hp->Prop)(listed:Array Bool)(a:Act)(w:World):Prop :=
 u0m P h0 w0 ops b n fr e f g c E d (λdn r L st h=>evC (A9 d ⟨n,fr,e,f⟩ ops.toList) (ops.size,b) P (c-dn.length) r L st h K) listed a w
theorem W0t{ops:Array Oper}{Q:Exit->Act->World->Prop}{Inv:Array Bool->Act->World->Prop}(i:∀(k:Nat) (o:Oper),ops.toList[k]?=some o->∀ e∈o.after,Region.binds .any e=true->e.on<k)
  (n:∀ listed a w j o,listed.size=ops.size->listed.getD j true=false->ops[j]?=some o->(∀ e∈o.after,Region.binds .any e=true->listed.getD e.on false=true)->Inv listed a w->o.guard=none/\o.wp P a w (Inv (listed.setIfInBounds j true)) Q)
  (g:∀ listed a w,(∀ j,j<ops.size->listed.getD j false=true)->Inv listed a w->Q .normal a w) :
  ∀(fuel:Nat) (listed:Array Bool) (a:Act) (w:World),listed.size=ops.size->listed.toList.count true+fuel=ops.size->Inv listed a w->wpAny P .any ops Q fuel listed a w
 |0,listed,a,w,f,t,d=>by
  have s:∀ j,j<ops.size->listed.getD j false=true:=λj l=>by
   have c:∀ b∈listed.toList,true=b:=List.count_eq_length.1 (by grind)
   have x:j<listed.size:=by omega
   have:=c listed[j] (by simp)
   simp[x,←this]
  refine⟨?_,g listed a w s d⟩
  cases m:Region.ready .any ops listed with
  |nil=>rfl
  |cons j r =>
   grind[Region.ready,List.mem_cons_self,mem_ready,Array.getElem?_eq_some_iff]
 |fuel+1,listed,a,w,f,t,d=>by
  refine⟨λm=>g listed a w (e0c i f m) d,λj l=>?_⟩
  obtain⟨c,o,h,q⟩:=mem_ready.1 l
  unfold wpOp
  simp only[h]
  obtain⟨u,z⟩:=n listed a w j o f c h q d
  have y:Region.wanted o (yielded ops a.tmps)=true:=by unfold Region.wanted;rw[u]
  rw[if_pos y]
  exact .inl (Oper.wp_mono (λp A v=>W0t i n g fuel _ p A (by simpa using f) (by rw[count_set c];omega) v) z)
theorem I0a{ops:Array Oper}{listed:Array Bool}{X:List (Nat×Oper)}
  (f:∀(k:Nat) (o:Oper),ops[k]?=some o->listed.getD k false=true->∀ e∈o.after,Region.binds .any e=true->listed.getD e.on false=true)
  (p:∀ y∈X,ops[y.1]?=some y.2):∀(n i a:Nat) (q:Oper),ops[a]?=some q->listed.getD a false=true->E0i X n i q=true->listed.getD i false=true
 |0,i,a,q,h,g,j=>by
  obtain⟨e,b,c,d⟩:=U6 j
  have:=f a q h g e b c
  rwa [d]at this
 |n+1,i,a,q,h,g,j=>by
  simp only[E0i,Bool.or_eq_true,List.any_eq_true,Bool.and_eq_true]at j
  rcases j with l|⟨y,t,l,s⟩
  ·obtain⟨e,b,c,d⟩:=U6 l
   have:=f a q h g e b c
   rwa [d]at this
  ·obtain⟨e,b,c,d⟩:=U6 l
   have m:=f a q h g e b c
   rw[d]at m
   exact I0a f p n i y.1 y.2 (p y t) m s
theorem g0c{E:List (Nat×Oper)}{listed:Array Bool}{j:Nat}{o:Oper}(h:∀ e∈o.after,Region.binds .any e=true->listed.getD e.on false=true)
  (d:∀ dn r,E=dn++r->C04 r=true) {dn r:List (Nat×Oper)} (c:E=dn++r) (k:∀ p∈r,listed.getD p.1 true=false) (b:(j,o)∈r):∃ a,r=(j,o)::a:=by
 obtain⟨q,a,rfl⟩:∃ q a,r=q::a:=by
  cases r with
  |nil=>cases b
  |cons q a=>exact⟨q,a,rfl⟩
 rcases List.mem_cons.1 b with e|f
 ·grind
 ·exfalso
  obtain⟨p,i,g⟩:=T0e (q::a) (j,o) (d dn _ c) f
  grind[U6,Nat.lt_or_ge,Array.getElem?_eq_none]
theorem g0h{ops:Array Oper}{n:Nat}{fr:List (Nat×AV)}{Y:List BSt}{aj:List Own}{aY:Hp}{c:Nat}{K:List Nat}{X E F:List (Nat×Oper)}{ac:List (Nat×o6)}{EV:List (Nat×Oper)->List (Nat×Oper)->List (Nat×o6)->St->Hp->Prop}{Q:Exit->Act->World->Prop}{listed:Array Bool}{j:Nat}{o:Oper}
  (a7:∀(i j:Nat) (m bn:Oper) (d:Nat),ops.toList[i]?=some m->ops.toList[j]?=some bn->m.dst=some d->bn.dst=some d->i=j)
  (bf:∀ o∈ops.toList,∀ d,o.dst=some d->d<n) (ao:r05 P ⟨n,fr,Y,aj⟩ aY ops.toList ops.toList.length ac X E) (bt:∀ k∈K,∃ p∈E,p.1=k) (aR:∀ x∈F,x∈E) (bs:(j,o)∈E->(j,o)∈F) (bu:(F.map λp=>p.1).Nodup)
  (bR:∀ dn r,F=dn++r->(∀ p∈dn,listed.getD p.1 false=true)->(∀ p∈r,listed.getD p.1 true=false)->(j,o)∈r->∃ ab,r=(j,o)::ab)
  (aW:∀ dn ab L bx ow h,F=dn++(j,o)::ab->(∀ p∈dn,listed.getD p.1 false=true)->EV dn ((j,o)::ab) L ⟨n,fr,bx,ow⟩ h->f04 L fr o.op.operands.toList [] λT=>c8 P o ⟨n,T,bx,ow⟩ h λav st' h'=>match st' with
   |⟨_,_,B,G⟩=>T0b (c-dn.length) ow G h h'/\X0g (c-dn.length) (s0a (ops.size,K) j o) (A9 ac ⟨n,fr,Y,aj⟩ ops.toList) bx B/\Y00 av λav=>d8 B λB=>d8 G λG=>EV (dn ++ [(j,o)]) ab (E06 o.dst (.pu av) L) ⟨n,fr,B,G⟩ h')
  (aV:D0e X (X++E) (F.drop c)=true)
  (Z:listed.getD j true=false) (aB:ops[j]?=some o) (bX:listed.size=ops.size)
  (bc:∀ t,Operand.tmp t∈o.op.operands->∀(i:Nat) (m:Oper),ops.toList[i]?=some m->m.dst=some t->listed.getD i false=true)
  (bd:∀ e∈o.after,Region.binds .any e=true->listed.getD e.on false=true)
  (aX:u0m P h0 w0 ops K n fr Y aj aY c F ac EV listed a w):o.guard=none/\o.wp P a w (u0m P h0 w0 ops K n fr Y aj aY c F ac EV (listed.setIfInBounds j true)) Q:=by
 obtain⟨dn,r,L,bx,ow,h',be,oe,H,N,au,bb,an,ad,al,W,ae,R1,ap⟩:=aX
 have aC:ops.toList[j]?=some o:=by simpa using aB
 have aK:o∈ops.toList:=List.mem_of_getElem? aC
 have az:j<ops.toList.length:=(List.getElem?_eq_some_iff.1 aC).1
 have ax:j<listed.size:=by simpa [bX] using az
 have a1:(∀ p∈E,p.1≠j) -> ¬ ∀ k,k<ops.size->listed.getD k false=true∨k∈K:=λbH e=>by
  rcases e j (by simpa using az)with l|l
  ·simp[ax]at l Z
   rw[l]at Z;cases Z
  ·obtain⟨p,u,D⟩:=bt j l
   exact bH p u D
 have up:(∀ k,k<ops.size->listed.getD k false=true∨k∈K)->∀ k,k<ops.size->(listed.setIfInBounds j true).getD k false=true∨k∈K:=λe k am=>(e k am).imp (λh=>getD_set_true h) id
 obtain⟨bE,bL⟩:=ao.each j o az aC
 refine⟨bE,?_⟩
 have bp:∀ t,V3 L t≠none->∃(i:Nat) (m:Oper),ops.toList[i]?=some m/\m.dst=some t:=λt z=>by
  cases h0':V3 ac t with
  |none=>exact absurd ((R1 t).1 h0') z
  |some f=>obtain⟨i,m,_,s,O⟩:=ao.key t f h0';exact⟨i,m,s,O⟩
 have frame:∀ t,(∀ aE∈ops.toList,aE.dst≠some t)->Good ⟨n,fr,bx,ow⟩ be oe (G3 fr t) (a.tmps.getD t undef):=λt z=>by
  have g:=W.fr t
  change Good _ be oe (G3 (I4 ops.toList fr) t) _ at g
  rw[a01 z]at g
  exact Good.fr (st:=⟨n,I4 ops.toList fr,bx,ow⟩) (fr:=fr) g
 have aF:∀ t,Operand.tmp t∈o.op.operands->(∀ av,V3 L t=some (.pu av)->Good ⟨n,fr,bx,ow⟩ be oe av (a.tmps.getD t undef))/\(V3 L t=none->Good ⟨n,fr,bx,ow⟩ be oe (G3 fr t) (a.tmps.getD t undef)):=λt z=>by
  refine⟨λav a9=>?_,λbQ=>frame t λaE bS I=>?_⟩
  ·obtain⟨i,m,l,s⟩:=bp t (by rw[a9];simp)
   obtain⟨M,C,D⟩:=ap i m t (by simpa using l) s (bc t z i m l s)
   rw[a9]at C;cases C
   exact D
  ·obtain⟨i,aX,e⟩:=List.getElem_of_mem bS
   have l:ops.toList[i]?=some aE:=by rw[List.getElem?_eq_getElem aX,e]
   obtain⟨M,C,_⟩:=ap i aE t (by simpa using l) I (bc t z i aE l I)
   rw[bQ]at C;cases C
 have aa:∀ i,i≠j->∀ d,(listed.setIfInBounds j true).getD i d=listed.getD i d:=λi A d=>getD_set_ne d (Ne.symm A)
 have a2:∀ {B:List BSt} {G:List Own} {U:Hp} {be':Nat->Nat} {oe':Nat->Value} {S:Hp} {v:Value} {ak:World},Sim P h0 w0 be' oe' S ⟨n,I4 ops.toList fr,B,G⟩ U a ak->Sim P h0 w0 be' oe' S ⟨n,I4 ops.toList fr,B,G⟩ U (a.put o.dst v) ak:=by
  intro B G U be' oe' S v ak s1
  cases I:o.dst with
  |none=>exact s1
  |some d =>
   have u:=s1.put (d:=d) (av := .dead) (v:=v) (bf o aK d I) trivial
   refine u.refr (fr:=I4 ops.toList fr) λt=>?_
   have g:=u.fr t
   change Good _ _ _ (G3 ((d,.dead)::I4 ops.toList fr) t) _ at g
   rw[Y3]at g
   split at g
   ·rename_i e
    subst e
    rw[b02 aK I]
    trivial
   ·exact g
 have a3:∀(v:Value) (i:Nat) (m:Oper) (d:Nat),ops[i]?=some m->m.dst=some d->i≠j->(a.put o.dst v).tmps.getD d undef=a.tmps.getD d undef:=λv i m d l s A=>by
  cases I:o.dst with
  |none=>rfl
  |some a5 =>
   have ag:a5≠d:=λe=>by subst e;exact A (a7 i j m o a5 (by simpa using l) aC s I)
   simp[Act.put,Array.getElem?_setIfInBounds_ne ag]
 have a4:∀(v:Value) (d:Nat),o.dst=some d->(a.put o.dst v).tmps.getD d undef=v:=λv d I=>by
  have az:d<a.tmps.size:=by rw[W.siz];exact bf o aK d I
  rw[I]
  simp[Act.put,az]
 have aS:∀(i:Nat) (m:Oper),ops[i]?=some m->(listed.setIfInBounds j true).getD i false=true->∀ e∈m.after,Region.binds .any e=true->(listed.setIfInBounds j true).getD e.on false=true:=λi m l s e aH aJ=>by
  by_cases A:i=j
  ·subst A
   rw[aB]at l;cases l
   exact getD_set_true (bd e aH aJ)
  ·rw[aa i A]at s
   exact getD_set_true (bb i m l s e aH aJ)
 rcases bL with aw|⟨aA,av,bT|⟨bG,bM⟩,a8⟩
 ·
  have bJ:(j,o)∈r:=by
   have aw:=bs aw
   rw[N]at aw
   rcases List.mem_append.1 aw with ah|ah
   ·have l:=ad _ ah
    simp[ax]at l Z
    rw[l]at Z;cases Z
   ·exact ah
  obtain⟨ab,rfl⟩:=bR dn r N ad an bJ
  have ae:=aW dn ab L bx ow h' N ad ae
  obtain⟨T,ae,aM⟩:=L01 (acc:=[]) (st:=⟨n,fr,bx,ow⟩) (stX:=⟨n,fr,bx,ow⟩) (be:=be) (oe:=oe) (val:=λt=>a.tmps.getD t undef) (λt=>trivial) (λt z=>aF t (by simpa using z)) ae
  have aZ:Sim P h0 w0 be oe H ⟨n,T,bx,ow⟩ h' a w:=W.refr (fr:=T) λt=>Good.fr (st:=⟨n,fr,bx,ow⟩) (fr:=I4 ops.toList fr) (aM t)
  refine Oper.wp_mono (λbq ak ah=>?_) (O9 aZ ae)
  obtain⟨M,⟨V,a6,B,G⟩,U,v,be',oe',S,am,rfl,s2,aN,J⟩:=ah
  obtain⟨aU,R,am⟩:=am
  rw[J02,Y01,Y01]at am
  have bP:V=n:=by
   have C:a.tmps.size=V:=s2.siz
   have D:a.tmps.size=n:=W.siz
   omega
  subst bP
  have aO:Q6 ⟨V,fr,bx,ow⟩ be oe ⟨V,fr,B,G⟩ be' oe':=⟨J.bl,J.be,J.sm⟩
  have aP:Q6 ⟨V,I4 ops.toList fr,bx,ow⟩ be oe ⟨V,I4 ops.toList fr,B,G⟩ be' oe':=⟨J.bl,J.be,J.sm⟩
  have a0:Sim P h0 w0 be' oe' S ⟨V,I4 ops.toList fr,B,G⟩ U a ak :=
   s2.refr (fr:=I4 ops.toList fr) λt=>Good.fr (st:=⟨V,I4 ops.toList fr,B,G⟩) (fr:=a6) ((W.fr t).grow aP)
  have bY:∀ d,o.dst=some d->V3 (E06 o.dst (.pu M) L) d=some (.pu M):=λd I=>by
   rw[I];show V3 ((d,.pu M)::L) d=_;rw[D00,if_pos rfl]
  have bh:∀ t,o.dst≠some t->V3 (E06 o.dst (.pu M) L) t=V3 L t:=λt z=>by
   cases I:o.dst with
   |none=>rfl
   |some d =>
    show V3 ((d,.pu M)::L) t=_
    rw[D00,if_neg λe=>z (by rw[I,e])]
  have bm:s0a (ops.size,K) j o=true->∀ k,k<ops.size->(listed.setIfInBounds j true).getD k false=true∨k∈K:=λaf k bK=>by
   by_cases hkj:k=j
   ·subst hkj;left;simp[ax]
   ·rw[aa k hkj]
    rcases t09 (show L07 K ops.size j o=true from af) k bK hkj with⟨e,aH,aJ,rfl⟩|an
    ·exact .inl (bd e aH aJ)
    ·exact .inr an
  refine⟨dn ++ [(j,o)],ab,E06 o.dst (.pu M) L,B,G,U,be',oe',S,by rw[N];simp,λay=>(by
   have b0:dn.length<c:=by simp only[List.length_append,List.length_singleton]at ay;omega
   obtain⟨C,D,ar⟩:=au (by omega)
   obtain⟨aL,bA⟩:∃ aL,c-dn.length=aL+1:=⟨c-dn.length-1,by omega⟩
   rw[bA]at aU R
   refine⟨aU.1.trans C,λb o bv=>aU.2 b o (D b o bv),?_⟩
   cases af:s0a (ops.size,K) j o with
   |true=>exact .inr (bm af)
   |false =>
    rw[af]at R
    rcases ar with ar|ar
    ·exact .inl (R.trans ar)
    ·exact .inr (up ar)),aS,λp u=>?_,λp u=>?_,?_,a2 a0,am,λt=>?_,λi m d l s O=>?_⟩
  ·have ag:p.1≠j:=λe=>by
    have bg:=bu
    rw[N,List.map_append,List.nodup_append]at bg
    have s:=bg.2.1
    rw[List.map_cons,List.nodup_cons]at s
    exact s.1 (List.mem_map.2 ⟨p,u,e⟩)
   rw[aa _ ag]
   exact an p (mC _ u)
  ·rcases List.mem_append.1 u with u|u
   ·exact getD_set_true (ad p u)
   ·simp at u
    subst u
    simp[ax]
  ·cases af:s0a (ops.size,K) j o with
   |false =>
    rw[af]at R
    rcases al with al|al
    ·left
     rw[←al]
     cases hc:c-dn.length with
     |zero=>rw[hc]at R;exact R
     |succ aL =>
      rw[hc]at R
      have R:B=bx:=R
      rw[R]
    ·exact .inr (up al)
   |true=>exact .inr (bm af)
  ·by_cases z:o.dst=some t
   ·obtain⟨_,_,aG⟩:=ao.eff (j,o) aw
    obtain⟨F,aG⟩:=aG t z
    exact⟨λe=>(by rw[aG]at e;cases e),λav e=>(by rw[aG]at e;cases e)⟩
   ·rw[bh t z]
    exact R1 t
  ·by_cases A:i=j
   ·subst A
    rw[aB]at l;cases l
    exact⟨M,bY d s,by rw[a4 v d s];exact Good.fr (st:=⟨V,a6,B,G⟩) (fr:=fr) aN⟩
   ·rw[aa _ A]at O
    obtain⟨aq,C,D⟩:=ap i m d l s O
    have bB:o.dst≠some d:=λe=>A (a7 i j m o d (by simpa using l) aC s e)
    exact⟨aq,by rw[bh d bB];exact C,by rw[a3 v i m d l s A];exact D.grow aO⟩
 ·
  have ba:k09 bx (A9 ac ⟨n,fr,Y,aj⟩ ops.toList)=k09 Y (A9 ac ⟨n,fr,Y,aj⟩ ops.toList):=al.resolve_right (a1 aA)
  have bo:∀ {av:AV} {x:Value},Good ⟨n,fr,bx,ow⟩ be oe av x->Good ⟨n,I4 ops.toList fr,bx,ow⟩ be oe av x:=λg=>Good.fr (st:=⟨n,fr,bx,ow⟩) (fr:=I4 ops.toList fr) g
  obtain⟨v,bW,br⟩:=R0o (st:=⟨n,fr,Y,aj⟩) (stX:=⟨n,I4 ops.toList fr,bx,ow⟩) W (λb1 x i off C D=>f0h ba (S0e C D aK)) bT (λt z=>⟨λav e=>bo ((aF t z).1 av ((R1 t).2 av e)),λe=>bo ((aF t z).2 ((R1 t).1 e))⟩)
  refine E7 bW ?_
  refine⟨dn,r,L,bx,ow,h',be,oe,H,N,(λay=>⟨(au ay).1,(au ay).2.1,.inl ((au ay).2.2.resolve_right (a1 aA))⟩),aS,λp u=>?_,λp u=>getD_set_true (ad p u),.inl ba,a2 W,ae,R1,λi m d l s O=>?_⟩
  ·have ag:p.1≠j:=aA p (aR _ (by rw[N];exact List.mem_append_right _ u))
   rw[aa _ ag]
   exact an p u
  ·by_cases A:i=j
   ·subst A
    rw[aB]at l;cases l
    exact⟨av,(R1 d).2 av (a8 d s),by rw[a4 v d s];exact Good.fr (st:=⟨n,I4 ops.toList fr,bx,ow⟩) (fr:=fr) br⟩
   ·rw[aa _ A]at O
    obtain⟨aq,C,D⟩:=ap i m d l s O
    exact⟨aq,C,by rw[a3 v i m d l s A];exact D⟩
 ·
  have bC:dn.length<=c:=by
   rcases Nat.lt_or_ge c dn.length with bN|bF
   ·exfalso
    obtain⟨⟨ai,q⟩,bi⟩:∃ bZ,dn[c]?=some bZ:=⟨_,List.getElem?_eq_getElem bN⟩
    have bj:(ai,q)∈dn:=List.mem_of_getElem? bi
    have bD:∃ t,F.drop c=(ai,q)::t:=by
     obtain⟨bO,D⟩:=List.getElem?_eq_some_iff.1 bi
     refine⟨(dn++r).drop (c+1),?_⟩
     rw[N,List.drop_eq_getElem_cons (by simp;omega),List.getElem_append_left bO,D]
    have bI:listed.getD j false=false:=by simp[ax]at Z ⊢;exact Z
    have bU:listed.getD ai false=true:=ad (ai,q) bj
    have bV:ops[ai]?=some q:=by
     have:=(ao.eff (ai,q) (aR _ (by rw[N];exact List.mem_append_left _ bj))).2.1
     simpa using this
    obtain⟨t,z⟩:=bD
    rw[z]at aV
    simp only[D0e,List.all_eq_true]at aV
    have:=I0a (X:=X++E) bb (λy aD=>by
     rcases List.mem_append.1 aD with aD|aD
     ·have aQ:=(ao.xx y aD).2;simpa using aQ
     ·have aQ:=(ao.eff y aD).2.1;simpa using aQ) 8 j ai q bV bU (aV (j,o) bG)
    rw[bI]at this;cases this
   ·exact bF
  obtain⟨rfl,bk,bz⟩:=au bC
  obtain rfl:=bz.resolve_right (a1 aA)
  obtain⟨T,aW,aM⟩:=L01 (acc:=[]) (st:=⟨n,fr,bx,ow⟩) (stX:=⟨n,fr,bx,ow⟩) (be:=be) (oe:=oe) (val:=λt=>a.tmps.getD t undef) (λt=>trivial)
   (λt z=>⟨λav e=>(aF t (by simpa using z)).1 av ((R1 t).2 av e),λe=>(aF t (by simpa using z)).2 ((R1 t).1 e)⟩) (bM h' bk)
  have aZ:Sim P h0 w0 be oe H ⟨n,T,bx,ow⟩ h' a w:=W.refr (fr:=T) λt=>Good.fr (st:=⟨n,fr,bx,ow⟩) (fr:=I4 ops.toList fr) (aM t)
  refine Oper.wp_mono (λbq ak ah=>?_) (O9 aZ aW)
  obtain⟨M,st',U,v,be',oe',S,⟨rfl,rfl,rfl⟩,rfl,s2,aN,J⟩:=ah
  have aO:Q6 ⟨n,fr,bx,ow⟩ be oe ⟨n,fr,bx,ow⟩ be' oe':=⟨J.bl,J.be,J.sm⟩
  have aP:Q6 ⟨n,I4 ops.toList fr,bx,ow⟩ be oe ⟨n,I4 ops.toList fr,bx,ow⟩ be' oe':=⟨J.bl,J.be,J.sm⟩
  have a0:Sim P h0 w0 be' oe' S ⟨n,I4 ops.toList fr,bx,ow⟩ U a ak :=
   s2.refr (fr:=I4 ops.toList fr) λt=>Good.fr (st:=⟨n,I4 ops.toList fr,bx,ow⟩) (fr:=T) ((W.fr t).grow aP)
  refine⟨dn,r,L,bx,ow,U,be',oe',S,N,λ_=>⟨rfl,bk,.inl rfl⟩,aS,λp u=>?_,λp u=>getD_set_true (ad p u),.inl rfl,a2 a0,ae,R1,λi m d l s O=>?_⟩
  ·have ag:p.1≠j:=aA p (aR _ (by rw[N];exact List.mem_append_right _ u))
   rw[aa _ ag]
   exact an p u
  ·by_cases A:i=j
   ·subst A
    rw[aB]at l;cases l
    exact⟨M,(R1 d).2 M (a8 d s),by rw[a4 v d s];exact Good.fr (st:=⟨n,T,bx,ow⟩) (fr:=fr) aN⟩
   ·rw[aa _ A]at O
    obtain⟨aq,C,D⟩:=ap i m d l s O
    exact⟨aq,C,by rw[a3 v i m d l s A];exact D.grow aO⟩
theorem J0u{ops:Array Oper}{n:Nat}{fr:List (Nat×AV)}{m:List BSt}{s:List Own}{q:Hp}{c:Nat}{g:List Nat}{X E:List (Nat×Oper)}{l:List (Nat×o6)}{K:St->Hp->Prop}{Q:Exit->Act->World->Prop}{listed:Array Bool}{j:Nat}{o:Oper}
  (A:∀(i j:Nat) (b y:Oper) (d:Nat),ops.toList[i]?=some b->ops.toList[j]?=some y->b.dst=some d->y.dst=some d->i=j)
  (M:∀ o∈ops.toList,∀ d,o.dst=some d->d<n) (z:r05 P ⟨n,fr,m,s⟩ q ops.toList ops.toList.length l X E) (B:∀ k∈g,∃ p∈E,p.1=k) (C:C04 E=true) (G:D0e X (X++E) (E.drop c)=true)
  (I:listed.getD j true=false) (N:ops[j]?=some o) (R:listed.size=ops.size)
  (D:∀ t,Operand.tmp t∈o.op.operands->∀(i:Nat) (b:Oper),ops.toList[i]?=some b->b.dst=some t->listed.getD i false=true)
  (v:∀ e∈o.after,Region.binds .any e=true->listed.getD e.on false=true)
  (H:S0o P h0 w0 ops g n fr m s q c E l K listed a w):o.guard=none/\o.wp P a w (S0o P h0 w0 ops g n fr m s q c E l K (listed.setIfInBounds j true)) Q:=by
 refine g0h A M z B (λx S=>S) id z.nd (λdn r f F O J=>?_) (λdn T L bx ow h f F u=>?_) G I N R D v H
 ·exact g0c v (λdn r f=>e03 dn r (by rw[←f];exact C)) f O J
 ·simp only[evC]at u
  have e:c-(dn ++ [(j,o)]).length=c-dn.length-1:=by simp;omega
  simp only[e]
  exact u
theorem U0e:∀ {k:Nat} {E:List (Nat×Oper)} {f:Nat×Oper} {a:List (Nat×Oper)},Y0g k E=some (f,a)->∃ A B,E=A++f::B/\a=A++B
 |_,[],f,a,h=>by simp[Y0g]at h
 |0,x::r,f,a,h=>by
  simp only[Y0g,Option.some.injEq,Prod.mk.injEq]at h
  obtain⟨rfl,rfl⟩:=h
  exact⟨[],r,rfl,rfl⟩
 |k+1,x::r,f,a,h=>by
  simp only[Y0g]at h
  split at h
  ·rename_i c d b
   simp only[Option.some.injEq,Prod.mk.injEq]at h
   obtain⟨rfl,rfl⟩:=h
   obtain⟨A,B,rfl,rfl⟩:=U0e b
   grind
  ·cases h
theorem h0h{f:Nat×Oper}:∀ {p:Nat} {E:List (Nat×Oper)},I0o f p E=true->∃ q,E[p]?=some q/\V7 f.1 q.2=true
 |_,[],h=>by simp[I0o]at h
 |0,(i,q)::r,h=>⟨(i,q),rfl,by simpa [I0o] using h⟩
 |p+1,x::r,h=>by
  obtain⟨q,a,b⟩:=h0h (E:=r) (p:=p) (by simpa [I0o] using h)
  grind
theorem q0k:∀ {X:List (Nat×Oper)},noX X=true->X = []
 | [],_=>rfl
 |_::_,h=>by simp[noX]at h
theorem e06{Y:List (Nat×Oper)}:∀(E:List (Nat×Oper)),D0e [] Y E=true
 | []=>rfl
 |_::_=>rfl
theorem o04{l:Array Bool}{j:Nat}(h:l.getD j true=false):l.getD j false=false:=by
 grind
theorem f06{listed:Array Bool}:∀ {A B dn r:List (Nat×Oper)},A++B=dn++r->(∀ p∈A,listed.getD p.1 false=true)->(∀ p∈r,listed.getD p.1 true=false)->∃ C,dn=A++C/\B=C++r
 | [],B,dn,r,h,_,_=>⟨dn,rfl,by simpa using h⟩
 |x::A,B,[],r,h,a,b=>by
  grind
 |x::A,B,y::dn,r,h,a,b=>by
  simp only[List.cons_append,List.cons.injEq]at h
  obtain⟨rfl,h⟩:=h
  obtain⟨C,d,e⟩:=f06 h (λp c=>a p (mC _ c)) b
  grind
theorem r0k{rd:List Nat}{d:Nat×List Nat}{c:Nat}{L:List (Nat×o6)}{K:St->Hp->Prop}{dn f:List (Nat×Oper)}{j:Nat}{o:Oper}{n:Nat}{fr:List (Nat×AV)}{bx:List BSt}{ow:List Own}{h:Hp}
  (i:evC rd d P (c-dn.length) ((j,o)::f) L ⟨n,fr,bx,ow⟩ h K):f04 L fr o.op.operands.toList [] λg=>c8 P o ⟨n,g,bx,ow⟩ h λav st' h'=>match st' with
   |⟨_,_,a,b⟩=>T0b (c-dn.length) ow b h h'/\X0g (c-dn.length) (s0a d j o) rd bx a/\Y00 av λav=>d8 a λa=>d8 b λb=>evC rd d P (c-(dn ++ [(j,o)]).length) f (E06 o.dst (.pu av) L) ⟨n,fr,a,b⟩ h' K:=by
 simp only[evC]at i
 have e:c-(dn ++ [(j,o)]).length=c-dn.length-1:=by simp;omega
 simp_all
def g0q(rd:List Nat)(c:Nat×List Nat)(P:Program)(m:Nat)(x:Nat×Oper)(r:List (Nat×Oper))(L:List (Nat×o6))(st:St)(h:Hp)(K:St->Hp->Prop):Prop:=match st with
 |⟨n,fr,bx,ow⟩=>f04 L fr x.2.op.operands.toList [] λd=>c8 P x.2 ⟨n,d,bx,ow⟩ h λav st' h'=>match st' with
  |⟨_,_,a,b⟩=>T0b 0 ow b h h'/\X0g 0 (s0a c x.1 x.2) rd bx a/\Y00 av λav=>d8 a λa=>d8 b λb=>Z0j rd c P m r (E06 x.2.dst (.pu av) L) ⟨n,fr,a,b⟩ h' K
theorem p0d{x:Nat×Oper}:∀ {r:List (Nat×Oper)},(∀ y∈r,V7 y.1 x.2=false)->F0i x r=true
 | [],_=>rfl
 |y::r,h=>by
  simp only[F0i,Bool.and_eq_true]
  exact⟨by rw[h y mS];rfl,p0d λz a=>h z (mC _ a)⟩
theorem w0n{f:(Nat×Oper)->List (Nat×Oper)->Prop}{x:Nat×Oper}:∀ {B C A:List (Nat×Oper)},(∀ y∈C++A++B,V7 y.1 x.2=false)->m0m f (U0b C (A++x::B))->f x (C++A++B)
 |B,C,[],a,h=>by
  simp only[List.nil_append,U0b,m0m]at h
  rw[p0d (by simpa using a)]at h
  simpa using h.1
 |B,C,y::A,a,h=>by
  simp only[List.cons_append,U0b,m0m]at h
  have b:m0m f (U0b (C ++ [y]) (A++x::B)):=by
   split at h
   ·exact h.2
   ·exact h
  have:=w0n (A:=A) (C:=C ++ [y]) (by simpa using a) b
  simpa using this
theorem p0s{rd:List Nat}{a:Nat×List Nat}{m:Nat}{L:List (Nat×o6)}{st:St}{h:Hp}{K:St->Hp->Prop}{j:Nat}{o:Oper}{A B:List (Nat×Oper)}(c:∀ y∈A++B,V7 y.1 o=false)
  (b:Z0j rd a P (m+1) (A++(j,o)::B) L st h K):g0q rd a P m (j,o) (A++B) L st h K:=by
 obtain⟨n,fr,bx,ow⟩:=st
 simp only[Z0j]at b
 have:=w0n (C:=[]) (x:=(j,o)) (by simpa using c) b
 exact this
theorem h0q{a b:Nat}(h:a≠b):Nat.beq a b=false:=by
 cases e:Nat.beq a b
 ·rfl
 ·exact absurd (Nat.eq_of_beq_eq_true e) h
theorem U0i:∀(l:List (Nat×Oper)),I0g l=l.length
 | []=>rfl
 |_::r=>by rw[I0g,U0i r];rfl
theorem i0q{f:Nat×Oper}{rd:List Nat}{N:Nat×List Nat}{K:St->Hp->Prop}{h:Hp}{st:St}{L:List (Nat×o6)}:∀ {p:Nat} {E:List (Nat×Oper)},f0s f rd N P p E L st h K->evC rd N P 0 (f::E) L st h K
 |0,_,h=>h
 |_+1,_,h=>h.1
theorem X0t{ops:Array Oper}{n:Nat}{fr:List (Nat×AV)}{bx:List BSt}{ow:List Own}{q:Hp}{c:Nat}{y:List Nat}{X E F:List (Nat×Oper)}{d:List (Nat×o6)}{K:St->Hp->Prop}{R:Act->World->Prop}{listed:Array Bool}
  (v:r05 P ⟨n,fr,bx,ow⟩ q ops.toList ops.toList.length d X E) (C:∀ x∈F,x∈E)
  (D:∀ a w st h be oe H,K st h->Sim P h0 w0 be oe H st h a w->R a w) (I:∀ j,j<ops.size->listed.getD j false=true)
  (G:S0o P h0 w0 ops y n fr bx ow q c F d K listed a w):R a w:=by
  obtain⟨dn,r,L,bx,O,h',be,oe,H,B,_,_,J,T,_,u,o,R1,z⟩:=G
  have M:r = []:=by
   cases r with
   |nil=>rfl
   |cons p Y =>
    have e:=J p mS
    have k:=(v.eff p (C _ (by rw[B];simp))).1
    grind
  subst M
  simp only[evC,Y01]at o
  refine D a w _ h' be oe H o (u.refr (fr:=X0j L fr) λt=>?_)
  rw[f0c]
  have N:∀ t,V3 L t≠none->∃(i:Nat) (b:Oper),ops[i]?=some b/\b.dst=some t/\i<ops.size:=λt W=>by
   cases h0':V3 d t with
   |none=>grind
   |some f =>
    obtain⟨i,b,e,k,m⟩:=v.key t f h0'
    grind
  cases hL:V3 L t with
  |none =>
   have U:∀ s∈ops.toList,s.dst≠some t:=λs V S=>by
    grind[List.getElem_of_mem]
   have g:=u.fr t
   grind[Good,G3,I4,a01]
  |some f =>
   cases f with
   |ef F=>trivial
   |pu av =>
    obtain⟨i,b,e,k,m⟩:=N t (by rw[hL];simp)
    obtain⟨Q,l,A⟩:=z i b t e k (I i m)
    rw[hL]at l;cases l
    exact Good.fr (st:=⟨n,fr,bx,O⟩) (fr:=I4 ops.toList fr) A
theorem s0k{ops:Array Oper}{st:St}{K:St->Hp->Prop}{Q:Exit->Act->World->Prop}{R:Act->World->Prop}(bq:Sim P h0 w0 be oe H st h a w)(aq:w02 st.n ops.toList=true)
  (T:v03 P st h ops.toList 0 [] [] [] λL X E=>evD (A9 L st ops.toList) ops.size P X E L st h K)
  (a0:∀ a w st h be oe H,K st h->Sim P h0 w0 be oe H st h a w->R a w) :
  ∃ Inv:Array Bool->Act->World->Prop,(∀(k:Nat) (o:Oper),ops.toList[k]?=some o->∀ e∈o.after,Region.binds .any e=true->e.on<k) /\
   (∀ listed a w j o,listed.size=ops.size->listed.getD j true=false->ops[j]?=some o->(∀ e∈o.after,Region.binds .any e=true->listed.getD e.on false=true)->Inv listed a w->o.guard=none/\o.wp P a w (Inv (listed.setIfInBounds j true)) Q) /\
   (∀ listed a w,(∀ j,j<ops.size->listed.getD j false=true)->Inv listed a w->R a w)/\Inv (Array.replicate ops.size false) a w:=by
 simp only[w02,Bool.and_eq_true]at aq
 obtain⟨⟨bu,bv⟩,bz⟩:=aq
 obtain⟨ax,ah⟩:=O04 bu
 have aN:∀(k:Nat) (o:Oper),ops.toList[k]?=some o->∀ e∈o.after,Region.binds .any e=true->e.on<k:=λk o a6 e a3 aq=>by
  have:=x03 bv k o a6 e a3 aq
  omega
 have bf:=N06 bz
 obtain⟨U,X,E,ai,N⟩:=s05 (ops:=ops.toList) ah (λj o t i am u v D bC=>by
  obtain⟨e,a3,aq,rfl⟩:=bf o (List.mem_of_getElem? u) t v i am D bC
  exact aN j o u e a3 aq) ops.toList 0 [] [] [] (λj=>by simp) ⟨λt f h=>(by cases h),λi am d G=>by omega,λj o b4=>by omega,λp m=>(by cases m),by simp,λp m=>(by cases m)⟩ T
 obtain⟨n,fr,bx,ow⟩:=st
 have ap:∀(listed:Array Bool) (j:Nat) (o:Oper),ops[j]?=some o->(∀ e∈o.after,Region.binds .any e=true->listed.getD e.on false=true)->∀ t,Operand.tmp t∈o.op.operands->∀(i:Nat) (am:Oper),ops.toList[i]?=some am->am.dst=some t->listed.getD i false=true:=λlisted j o v D t bQ i am bK aB=>by
  obtain⟨e,au,aw,rfl⟩:=bf o (List.mem_of_getElem? (i:=j) (by simpa using v)) t bQ i am bK aB
  exact D e au aw
 have init:∀(c:Nat) (F:List (Nat×Oper)) (EV:List (Nat×Oper)->List (Nat×Oper)->List (Nat×o6)->St->Hp->Prop),(∀ x∈F,x∈E)->EV [] F U ⟨n,fr,bx,ow⟩ h->u0m P h0 w0 ops (V08 E) n fr bx ow h c F U EV (Array.replicate ops.size false) a w:=λc F EV bF aj=>by
  refine⟨[],F,U,bx,ow,h,be,oe,H,rfl,λ_=>⟨rfl,λ_ _ h=>h,.inl rfl⟩,λj o u v=>by(simp[Array.getElem?_replicate]at v;split at v<;>cases v),λp m=>?_,λp m=>(by cases m),.inl rfl,bq.refr (fr:=I4 ops.toList fr) λt=>?_,aj,λt=>⟨id,λav=>id⟩,λj o d u v D=>?_⟩
  ·have:=(N.eff p (bF p m)).1
   have v:p.1<ops.size:=by simpa using this
   simp[v]
  ·by_cases b:∃ o∈ops.toList,o.dst=some t
   ·obtain⟨o,u,v⟩:=b
    rw[b02 u v]
    trivial
   ·rw[a01 λo bM ai=>b ⟨o,bM,ai⟩]
    exact bq.fr t
  ·simp[Array.getElem?_replicate]at D
   split at D<;>cases D
 rcases ai with⟨c,⟨aP,bH⟩,aj⟩|⟨k,p,ai⟩
 ·refine⟨S0o P h0 w0 ops (V08 E) n fr bx ow h c E U K,aN,(λlisted a w j o aa u v D G=>J0u ah ax N (λ_=>P04) aP bH u v aa (ap listed j o v D) D G),(λlisted a w ak G=>X0t N (λx b=>b) a0 ak G),init c E _ (λx b=>b) aj⟩
 ·split at ai
  ·rename_i f b3 a6
   obtain⟨⟨a1,aP,bJ⟩,aj⟩:=ai
   obtain rfl:=q0k a1
   obtain⟨A,B,rfl,rfl⟩:=U0e a6
   obtain⟨q,ay,bN⟩:=h0h bJ
   have bI:f∈A++f::B:=by simp
   have bg:=N.eff f bI
   have a4:ops[f.1]?=some f.2:=by simpa using bg.2.1
   have bj:f.1<ops.size:=by simpa using bg.1
   have a9:∀ x∈A++B,x∈A++f::B:=λx b=>by
    rcases List.mem_append.1 b with b|b
    ·exact List.mem_append_left _ b
    ·exact List.mem_append_right _ (mC _ b)
   have bR:((A++B).map λp=>p.1).Nodup:=by
    have:=N.nd
    rw[List.map_append,List.nodup_append]at this ⊢
    obtain⟨bp,ba,bb⟩:=this
    rw[List.map_cons,List.nodup_cons]at ba
    exact⟨bp,ba.2,λx b y al=>bb x b y (by rw[List.map_cons];exact mC _ al)⟩
   have perm:∀ I J,A++B=I++J->((I++f::J).map λp=>p.1).Nodup:=λI J e=>by
    have u:(A++f::B).Perm (I++f::J):=List.perm_middle.trans ((List.Perm.cons f (by rw[e])).trans List.perm_middle.symm)
    exact(u.map _).nodup N.nd
   have aE:∀ I J,A++B=I++J->∀ x,x∈I++f::J↔x∈A++f::B:=λI J e x=>by
    have u:x∈A++B↔x∈I++J:=by rw[e]
    simp only[List.mem_append,List.mem_cons]at u ⊢
    constructor
    ·rintro(h|h|h)
     ·rcases u.2 (.inl h)with h|h
      ·exact .inl h
      ·exact .inr (.inr h)
     ·exact .inr (.inl h)
     ·rcases u.2 (.inr h)with h|h
      ·exact .inl h
      ·exact .inr (.inr h)
    ·rintro(h|h|h)
     ·rcases u.1 (.inl h)with h|h
      ·exact .inl h
      ·exact .inr (.inr h)
     ·exact .inr (.inl h)
     ·rcases u.1 (.inr h)with h|h
      ·exact .inl h
      ·exact .inr (.inr h)
   let rd:=A9 U ⟨n,fr,bx,ow⟩ ops.toList
   let ab:List (Nat×Oper)->List (Nat×Oper)->List (Nat×o6)->St->Hp->Prop:=λdn r L st h=>f0s f rd (ops.size,V08 (A++f::B)) P (p-dn.length) r L st h K
   refine⟨λlisted a w=>(listed.getD f.1 true=false/\u0m P h0 w0 ops (V08 (A++f::B)) n fr bx ow h 0 (A++B) U ab listed a w) ∨
    (listed.getD f.1 false=true/\∃ I J,A++B=I++J/\(∀ p∈I,listed.getD p.1 false=true)/\S0o P h0 w0 ops (V08 (A++f::B)) n fr bx ow h 0 (I++f::J) U K listed a w),aN,(λlisted a w j o aa u v D G=>?_),(λlisted a w ak G=>?_),.inl ⟨by simp[bj],init 0 (A++B) ab a9 aj⟩⟩
   ·have a5:j<listed.size:=by rw[aa];exact(Array.getElem?_eq_some_iff.1 v).1
    have a8:∀ {x:Nat},listed.getD x false=true->(listed.setIfInBounds j true).getD x false=true:=λh=>getD_set_true h
    rcases G with⟨hf,G⟩|⟨hf,I,J,s,a2,G⟩
    ·have bh:=o04 hf
     by_cases aR:j=f.1
     ·
      subst aR
      rw[a4]at v;cases v
      obtain⟨dn,r,L,ao,az,h',be',oe',aA,s,aF,an,af,Z,aG,aH,ag,aJ,aK⟩:=G
      have aB:S0o P h0 w0 ops (V08 (A++f::B)) n fr bx ow h 0 (dn++f::r) U K listed a w :=
       ⟨dn,f::r,L,ao,az,h',be',oe',aA,rfl,aF,an,λp m=>by
        rcases List.mem_cons.1 m with rfl|m
        ·exact hf
        ·exact af p m,Z,aG,aH,by show evC _ _ _ (0-dn.length) _ _ _ _ _;rw[Nat.zero_sub];exact i0q ag,aJ,aK⟩
      have:=g0h (F:=dn++f::r) (j:=f.1) (o:=f.2) (Q:=Q) ah ax N (λ_=>P04) (λx b=>(aE dn r s x).1 b) (λb=>(aE dn r s _).2 b) (perm dn r s) (λM Y e S O ac=>by
       obtain⟨C,W,V⟩:=f06 (listed:=listed) e Z O
       cases C with
       |nil=>exact⟨r,by simpa using V.symm⟩
       |cons z C =>
        exfalso
        simp only[List.cons_append,List.cons.injEq]at V
        have:=S f (by rw[W,V.1];simp)
        rw[bh]at this;cases this) (λdn Y L bx ow h s ar T=>r0k T) (e06 _) u a4 aa (ap listed f.1 f.2 a4 D) D aB
      exact⟨this.1,Oper.wp_mono (λaL aU b => .inr ⟨by simp[a5],dn,r,s,λp m=>a8 (Z p m),b⟩) this.2⟩
     ·have bL:(j,o)≠f:=λe=>aR (by rw[←e])
      have bG:∀(j:Nat) (o:Oper),ops[j]?=some o->listed.getD j false=true->∀ e∈o.after,Region.binds .any e=true->listed.getD e.on false=true:=by
       obtain⟨_,_,_,_,_,_,_,_,_,_,_,an,_⟩:=G
       exact an
      have:=g0h (F:=A++B) (Q:=Q) (EV:=ab) ah ax N (λ_=>P04) a9 (λb=>by
       rcases List.mem_append.1 b with b|b
       ·exact List.mem_append_left _ b
       ·rcases List.mem_cons.1 b with b|b
        ·exact absurd b bL
        ·exact List.mem_append_right _ b) bR (λdn r s ar bo aC=>g0c D (λdn r s=>e03 dn r (by rw[←s];exact aP)) s bo aC) (λdn Y L aM aS h s ar T=>by
       have b5:dn.length<p:=by
        rcases Nat.lt_or_ge dn.length p with g|g
        ·exact g
        ·exfalso
         have bi:listed.getD f.1 false=true:=by
          rw[s]at ay
          obtain⟨e,au,aw,aQ⟩:=U6 bN
          rcases Nat.lt_or_ge p dn.length with O|O
          ·rw[List.getElem?_append_left O]at ay
           have bn:q∈dn:=List.mem_of_getElem? ay
           have:=(N.eff q (a9 q (by rw[s];exact List.mem_append_left _ bn))).2.1
           have:=bG q.1 q.2 (by simpa using this) (ar q bn) e au aw
           rwa [aQ]at this
          ·have W:p=dn.length:=by omega
           rw[W,List.getElem?_append_right (Nat.le_refl _)]at ay
           simp at ay
           subst ay
           have:=D e au aw
           rwa [aQ]at this
         rw[bh]at bi;cases bi
       obtain⟨bc,bl⟩:∃ bc,p-dn.length=bc+1:=⟨p-dn.length-1,by omega⟩
       have W:p-(dn ++ [(j,o)]).length=bc:=by simp;omega
       simp only[ab,bl,W,Nat.zero_sub]at T ⊢
       exact T.2) (e06 _) u v aa (ap listed j o v D) D G
      exact⟨this.1,Oper.wp_mono (λaL aU b => .inl ⟨by rw[getD_set_ne true aR];exact hf,b⟩) this.2⟩
    ·have aR:j≠f.1:=λe=>by
      subst e
      have:=o04 u
      rw[hf]at this;cases this
     have:=g0h (F:=I++f::J) (Q:=Q) ah ax N (λ_=>P04) (λx b=>(aE I J s x).1 b) (λb=>(aE I J s _).2 b) (perm I J s) (λM Y e S O ac=>by
      obtain⟨C,W,V⟩:=f06 (listed:=listed) (A:=I ++ [f]) (B:=J) (by simpa using e) (λp m=>by
       rcases List.mem_append.1 m with m|m
       ·exact a2 p m
       ·simp at m;rw[m];exact hf) O
      exact g0c (E:=Y) (dn:=[]) D (λdn bU ae=>e03 dn bU (by rw[←ae];exact e03 (I++C) Y (by rw[List.append_assoc,←V,←s];exact aP))) rfl O ac) (λdn Y L bx ow h s ar T=>r0k T) (e06 _) u v aa (ap listed j o v D) D G
     exact⟨this.1,Oper.wp_mono (λaL aU b => .inr ⟨a8 hf,I,J,s,λp m=>a8 (a2 p m),b⟩) this.2⟩
   ·rcases G with⟨hf,G⟩|⟨hf,I,J,s,a2,G⟩
    ·have:=ak f.1 bj
     rw[o04 hf]at this;cases this
    ·exact X0t N (λx b=>(aE I J s x).1 b) a0 ak G
  ·obtain⟨a1,aj⟩:=ai
   obtain rfl:=q0k a1
   let ab:List (Nat×Oper)->List (Nat×Oper)->List (Nat×o6)->St->Hp->Prop:=λ_ r L st h=>Z0j (A9 U ⟨n,fr,bx,ow⟩ ops.toList) (ops.size,V08 E) P (I0g r) r L st h K
   refine⟨λlisted a w=>∃ F,(∀ x,x∈F↔x∈E)/\(F.map λp=>p.1).Nodup/\u0m P h0 w0 ops (V08 E) n fr bx ow h 0 F U ab listed a w,aN,(λlisted a w j o aa u v D G=>?_),(λlisted a w ak G=>?_),E,λx=>Iff.rfl,N.nd,init 0 E ab (λx b=>b) aj⟩
   ·obtain⟨F,ad,aO,G⟩:=G
    by_cases hjE:(j,o)∈E
    ·obtain⟨dn,r,L,ao,az,h',be',oe',aA,s,aF,an,af,Z,aG,aH,ag,aJ,aK⟩:=G
     have a5:j<listed.size:=by rw[aa];exact(Array.getElem?_eq_some_iff.1 v).1
     have aC:(j,o)∈r:=by
      have:=(ad (j,o)).2 hjE
      rw[s]at this
      rcases List.mem_append.1 this with b|b
      ·have S:=Z _ b
       have O:=o04 u
       rw[O]at S;cases S
      ·exact b
     obtain⟨A,B,rfl⟩:=List.append_of_mem aC
     have bm:(dn++(j,o)::(A++B)).Perm F:=by
      rw[s]
      exact List.Perm.append_left dn List.perm_middle.symm
     have aY:∀ x,x∈dn++(j,o)::(A++B)↔x∈E:=λx=>(bm.mem_iff).trans (ad x)
     have aZ:((dn++(j,o)::(A++B)).map λp=>p.1).Nodup:=(bm.map _).nodup_iff.2 aO
     have bO:∀ y∈A++B,V7 y.1 o=false:=λy al=>by
      cases hc:V7 y.1 o with
      |false=>rfl
      |true =>
       obtain⟨e,au,aw,aQ⟩:=U6 hc
       have S:=D e au aw
       have O:=o04 (af y (by
        rcases List.mem_append.1 al with al|al
        ·exact List.mem_append_left _ al
        ·exact List.mem_append_right _ (mC _ al)))
       rw[aQ,O]at S;cases S
     let aW:List (Nat×Oper)->List (Nat×Oper)->List (Nat×o6)->St->Hp->Prop:=λd r L st h=>match Nat.beq d.length dn.length with
      |true=>g0q (A9 U ⟨n,fr,bx,ow⟩ ops.toList) (ops.size,V08 E) P (I0g (A++B)) (j,o) (A++B) L st h K
      |false=>ab d r L st h
     have aB:u0m P h0 w0 ops (V08 E) n fr bx ow h 0 (dn++(j,o)::(A++B)) U aW listed a w :=
      ⟨dn,(j,o)::(A++B),L,ao,az,h',be',oe',aA,rfl,aF,an,λp m=>af p (by
       rcases List.mem_cons.1 m with rfl|m
       ·simp
       ·rcases List.mem_append.1 m with m|m
        ·exact List.mem_append_left _ m
        ·exact List.mem_append_right _ (mC _ m)),Z,aG,aH,by
       show(match Nat.beq dn.length dn.length with|true=>_|false=>_:Prop)
       rw[Nat.beq_refl]
       refine p0s (st:=⟨n,fr,ao,az⟩) bO ?_
       have e:I0g (A++(j,o)::B)=I0g (A++B)+1:=by rw[U0i,U0i];simp;omega
       have ag:Z0j _ _ _ (I0g (A++(j,o)::B)) _ _ _ _ _:=ag
       rw[e]at ag
       exact ag,aJ,aK⟩
     have:=g0h (F:=dn++(j,o)::(A++B)) (EV:=aW) (Q:=Q) ah ax N (λ_=>P04) (λx b=>(aY x).1 b) (λb=>(aY _).2 b) aZ (λM Y e S O ac=>by
      obtain⟨C,W,V⟩:=f06 (listed:=listed) e Z O
      cases C with
      |nil=>exact⟨A++B,by simpa using V.symm⟩
      |cons z C =>
       exfalso
       simp only[List.cons_append,List.cons.injEq]at V
       have:=S (j,o) (by rw[W,V.1];simp)
       rw[o04 u]at this;cases this) (λM Y L aM aS h e S T=>by
      obtain⟨C,W,V⟩:=f06 (listed:=listed) (A:=dn) (B:=(j,o)::(A++B)) e Z (λp m=>by
       have b:p∈dn++(j,o)::(A++B):=by rw[e];exact List.mem_append_right _ m
       rcases List.mem_cons.1 m with rfl|bl
       ·exact u
       ·rcases List.mem_append.1 b with b|b
        ·exfalso
         have bk:=aZ
         rw[e,List.map_append,List.nodup_append]at bk
         obtain⟨bp,ba,bb⟩:=bk
         have aD:dn.length<=M.length∨M.length<dn.length:=Nat.lt_or_ge M.length dn.length |>.symm
         rcases aD with aD|aD
         ·have:p∈M:=by
           have ae:dn=M.take dn.length:=by
            have:=congrArg (List.take dn.length) e
            rw[List.take_append_of_le_length (Nat.le_refl _),List.take_length,List.take_append_of_le_length aD]at this
            exact this
           rw[ae]at b;exact List.mem_of_mem_take b
          exact bb p.1 (List.mem_map.2 ⟨p,this,rfl⟩) p.1 (List.mem_map.2 ⟨p,m,rfl⟩) rfl
         ·have:(j,o)∈dn:=by
           have ae:=congrArg (λl=>l[M.length]?) e
           simp only[List.getElem?_append_left aD,List.getElem?_append_right (Nat.le_refl _),Nat.sub_self,List.getElem?_cons_zero]at ae
           exact List.mem_of_getElem? ae
          have ac:=Z _ this
          rw[o04 u]at ac;cases ac
        ·exact af p (by
          rcases List.mem_cons.1 b with rfl|b
          ·simp
          ·rcases List.mem_append.1 b with b|b
           ·exact List.mem_append_left _ b
           ·exact List.mem_append_right _ (mC _ b)))
      have bD:C = []:=by
       cases C with
       |nil=>rfl
       |cons z C =>
        exfalso
        simp only[List.cons_append,List.cons.injEq]at V
        have:=S (j,o) (by rw[W,V.1];simp)
        rw[o04 u]at this;cases this
      subst bD
      simp only[List.append_nil]at W
      subst W
      have ae:Y=A++B:=by simpa using V.symm
      subst ae
      have T:(match Nat.beq M.length M.length with|true=>_|false=>_:Prop):=T
      rw[Nat.beq_refl]at T
      have a7:Nat.beq (M ++ [(j,o)]).length M.length=false:=by
       rw[List.length_append,List.length_singleton]
       exact h0q (by omega)
      have bE:aW (M ++ [(j,o)]) (A++B)=λL st h=>Z0j (A9 U ⟨n,fr,bx,ow⟩ ops.toList) (ops.size,V08 E) P (I0g (A++B)) (A++B) L st h K:=by
       funext L st h
       show(match Nat.beq (M ++ [(j,o)]).length M.length with|true=>_|false=>_:Prop)=_
       rw[a7]
      rw[bE]
      simp only[Nat.zero_sub]
      exact T) (e06 _) u v aa (ap listed j o v D) D aB
     refine⟨this.1,Oper.wp_mono (λaL aU b=>?_) this.2⟩
     obtain⟨aX,bV,bt,aM,aS,bB,bA,bS,bs,bd,bW,bX,br,bY,bZ,b0,aV,b1,b2⟩:=b
     refine⟨dn++(j,o)::(A++B),aY,aZ,aX,bV,bt,aM,aS,bB,bA,bS,bs,bd,bW,bX,br,bY,bZ,b0,?_,b1,b2⟩
     have a7:Nat.beq aX.length dn.length=false:=by
      refine h0q λe=>?_
      obtain⟨b6,bT⟩:=List.append_inj bd e.symm
      have:=br (j,o) (by rw[←bT];simp)
      simp[a5]at this
     have aV:(match Nat.beq aX.length dn.length with|true=>_|false=>_:Prop):=aV
     rw[a7]at aV
     exact aV
    ·have:=g0h (F:=F) (EV:=ab) (Q:=Q) ah ax N (λ_=>P04) (λx b=>(ad x).1 b) (λb=>absurd b hjE) aO (λdn r s ar bo aC=>absurd ((ad _).1 (by rw[s];exact List.mem_append_right _ aC)) hjE)
      (λdn Y L aM aS h s ar T=>absurd ((ad (j,o)).1 (by rw[s];simp)) hjE) (e06 _) u v aa (ap listed j o v D) D G
     exact⟨this.1,Oper.wp_mono (λaL aU b=>⟨F,ad,aO,b⟩) this.2⟩
   ·obtain⟨F,ad,aO,dn,r,L,ao,az,h',be',oe',aA,s,aF,an,af,Z,aG,aH,ag,aJ,aK⟩:=G
    have bP:r = []:=by
     cases r with
     |nil=>rfl
     |cons p Y =>
      have S:=af p mS
      have O:=(N.eff p ((ad _).1 (by rw[s];simp))).1
      have ac:=ak p.1 (by simpa using O)
      rw[o04 S]at ac;cases ac
    subst bP
    exact X0t (c:=0) (F:=F) N (λx b=>(ad x).1 b) a0 ak ⟨dn,[],L,ao,az,h',be',oe',aA,s,aF,an,af,Z,aG,aH,ag,aJ,aK⟩
theorem T0o{ops:Array Oper}{st:St}{K:St->Hp->Prop}{Q:Exit->Act->World->Prop}(j:Sim P h0 w0 be oe H st h a w)(g:w02 st.n ops.toList=true)
  (i:v03 P st h ops.toList 0 [] [] [] λL X E=>evD (A9 L st ops.toList) ops.size P X E L st h K)
  (f:∀ a w st h be oe H,K st h->Sim P h0 w0 be oe H st h a w->Q .normal a w):wpAny P .any ops Q ops.size (Array.replicate ops.size false) a w:=by
 obtain⟨Inv,b,c,d,e⟩:=s0k (Q:=Q) (R:=λa w=>Q .normal a w) j g i f
 exact W0t (Inv:=Inv) b c d ops.size _ a w (by simp) (by simp[List.count_replicate]) e
theorem J0a{L l:Array Bool}{x:Bool}(h:L.toList=l.toList ++ [x]){j:Nat}(a:j<l.size)(b:Bool):L.getD j b=l.getD j b:=by
 rw[Array.getD_eq_getD_getElem?,Array.getD_eq_getD_getElem?,←Array.getElem?_toList,←Array.getElem?_toList,h,List.getElem?_append_left (by simpa using a)]
theorem U0o{L l:Array Bool}{x:Bool}(h:L.toList=l.toList ++ [x])(b:Bool):L.getD l.size b=x:=by
 rw[Array.getD_eq_getD_getElem?,←Array.getElem?_toList,h,List.getElem?_append_right (by simp)];simp
theorem K0u{ops ops0:Array Oper}{o:Oper}{Q:Exit->Act->World->Prop}{Inv:Array Bool->Act->World->Prop}{a:Act}{w:World}(t:ops.toList=ops0.toList ++ [o])
  (q:∀(k:Nat) (o:Oper),ops.toList[k]?=some o->∀ e∈o.after,Region.binds .any e=true->e.on<k)
  (B:o.guard=none) (G:∀ k,k<ops0.size->∃ e∈o.after,Region.binds .any e=true/\e.on=k)
  (I:∀ listed a w j o,listed.size=ops0.size->listed.getD j true=false->ops0[j]?=some o->(∀ e∈o.after,Region.binds .any e=true->listed.getD e.on false=true)->Inv listed a w->o.guard=none/\o.wp P a w (Inv (listed.setIfInBounds j true)) Q)
  (A:∀ listed a w,(∀ j,j<ops0.size->listed.getD j false=true)->Inv listed a w->o.wp P a w (λa w=>Q .normal a w) Q)
  (h0:Inv (Array.replicate ops0.size false) a w):wpAny P .any ops Q ops.size (Array.replicate ops.size false) a w:=by
 have M:ops.size=ops0.size+1:=by
  have:=congrArg List.length t
  simpa using this
 refine W0t (Inv:=λL a w=>(∃ l:Array Bool,l.size=ops0.size/\L.toList=l.toList ++ [false]/\Inv l a w)∨((∀ j,j<ops.size->L.getD j false=true)/\Q .normal a w)) q (λL a w j m J y b p d=>?_) (λL a w f d=>?_) ops.size _ a w (by simp) (by simp[List.count_replicate]) (.inl ⟨_,by simp,by grind,h0⟩)
 ·rcases d with⟨l,g,c,d⟩|⟨f,_⟩
  ·have E:j<ops.size:=(Array.getElem?_eq_some_iff.1 b).1
   by_cases hj:j<ops0.size
   ·have z:ops0[j]?=some m:=by
     rw[←Array.getElem?_toList]at b ⊢
     grind
    obtain⟨v,x⟩:=I l a w j m g (by rw[←J0a c (by omega)];exact y) z (λe i h=>by
     have:=q j m (by rw[Array.getElem?_toList];exact b) e i h
     rw[←J0a c (by omega)];exact p e i h) d
    refine⟨v,Oper.wp_mono (λu K C => .inl ⟨_,by simpa using g,?_,C⟩) x⟩
    rw[Array.toList_setIfInBounds,c,List.set_append_left _ _ (by simpa [g] using hj),Array.toList_setIfInBounds]
   ·have D:j=ops0.size:=by omega
    have H:m=o:=by
     rw[←Array.getElem?_toList,t,List.getElem?_append_right (by simp;omega)]at b
     rw[D]at b;simp at b;exact b.symm
    subst H
    have f:∀ k,k<ops0.size->l.getD k false=true:=λk s=>by
     obtain⟨e,i,h,rfl⟩:=G k s
     rw[←J0a c (by omega)];exact p e i h
    refine⟨B,Oper.wp_mono (λu K n => .inr ⟨λk s=>?_,n⟩) (A l a w f d)⟩
    by_cases hkj:k=j
    ·rw[hkj];simp[Array.getD_eq_getD_getElem?,J,E]
    ·have F:k<ops0.size:=by omega
     have:=f k F
     rw[←J0a c (by omega)]at this
     rw[Array.getD_eq_getD_getElem?,Array.getElem?_setIfInBounds_ne (by omega),←Array.getD_eq_getD_getElem?];exact this
  grind
 ·rcases d with⟨l,g,c,d⟩|⟨_,n⟩
  ·have:=f ops0.size (by omega)
   rw[←g,U0o c]at this;cases this
  ·exact n
theorem q0d{o:Oper}:∀(ops:List Oper),F0e ops=some o->ops=W00 ops ++ [o]
 | [],h=>by simp[F0e]at h
 | [x],h=>by grind[F0e,Option.some.injEq,W00]
 |x::y::r,h=>by
  simp only[F0e]at h
  have:=q0d (y::r) (by simp only[F0e];exact h)
  rw[show W00 (x::y::r)=x::W00 (y::r) by simp only[W00],List.cons_append,←this]
theorem V0o{ops:List Oper}{o:Oper}(h:R0p ops=some o):ops=W00 ops ++ [o]/\o.guard=none/\J07 (W00 ops).length (W00 ops).length o=true:=by
 unfold R0p at h
 split at h
 ·rename_i f e
  split at h
  ·rename_i d c b
   split at h
   ·rename_i a
    cases h
    simp only[Bool.and_eq_true]at a
    grind[q0d]
   ·cases h
  ·cases h
 ·cases h
end
theorem t04:∀ {L:FL} {t:Nat} {x:List (Nat×Bool)×o6},q03 L t=some x->(t,x)∈L
 | [],t,x,h=>by cases h
 |(d,y)::r,t,x,h=>by
  simp only[q03]at h
  split at h
  ·simp_all
  ·exact mC _ (t04 h)
theorem K09:∀ {L:FL} {t:Nat} {x:List (Nat×Bool)×o6},(t,x)∈L->∃ y,q03 L t=some y
 |(d,y)::r,t,x,h=>by
  simp only[q03]
  split
  ·exact⟨_,rfl⟩
  ·rename_i a
   rcases List.mem_cons.1 h with e|h
   ·simp_all
   ·exact K09 h
theorem W0o{bs:List BE}{x:BE}(e:∀ y∈bs,y.j≠x.j){j:Nat}{b:BE}(h:I02 bs j=some b):I02 (x::bs) j=some b:=by
 simp only[I02]
 split
 ·rename_i d
  obtain⟨a,c⟩:=w03 h
  simp_all
 ·exact h
abbrev Asg:=Nat->List (Nat×Bool)×Bool×o6
structure M0g (ops:List Oper) (A:Asg) (L:FL) (bs:List BE) (k:Nat):Prop where
 p1:∀ t x,(t,x)∈L->∃ i oi,i<k/\ops[i]?=some oi/\oi.dst=some t/\(A i).1=x.1/\(A i).2.2=x.2
 p2:∀ i oi d,i<k->ops[i]?=some oi->oi.dst=some d->∃ x,q03 L d=some x
 p3:∀ i,i<k->i<ops.length->cB bs (A i).1=some (A i).2.1
 p4:∀ x∈bs,x.j<k/\(∃ o,ops[x.j]?=some o/\o.dst=some x.d)/\(A x.j).1=x.ch/\(A x.j).2.2 = .pu (.val (.bool x.e))
structure Y08 (bs bs':List BE):Prop where
 c:∀ ch c,cB bs ch=some c->cB bs' ch=some c
 e:∀ j b,I02 bs j=some b->I02 bs' j=some b
theorem Y08.refl(bs:List BE):Y08 bs bs:=⟨λ_ _ h=>h,λ_ _ h=>h⟩
theorem Y08.trans{a b c:List BE}(d:Y08 a b)(f:Y08 b c):Y08 a c:=⟨λch x h=>f.c ch x (d.c ch x h),λj b h=>f.e j b (d.e j b h)⟩
def OpU(P:Program)(st:St)(h:Hp)(L:FL)(bs:List BE)(o:Oper)(ch:List (Nat×Bool))(c:Bool):o6->Prop
 | .pu av=>l09 P L bs ch o st=some av∨∀ h',Sub h h'->imp ch c (p07 L st h' ch o.op.operands.toList [] λfr=>c8 P o { st with fr:=fr } h' (n0n av { st with fr:=fr } h'))
 | .ef F=>(∀ v a b,Sub a b->F v a->F v b)/\∀ h',Sub h h'->imp ch c (p07 L st h' ch o.op.operands.toList [] λfr=>a0k P o { st with fr:=fr } h' (S0p { st with fr:=fr } h' F))
theorem j0q{d:Option Tmp}{ch:List (Nat×Bool)}{f:o6}{L:FL}{p:Nat×List (Nat×Bool)×o6}(h:p∈G09 d ch f L):(∃ s,d=some s/\p=(s,ch,f))∨p∈L:=by
 cases d with
 |none=>exact .inr h
 |some s =>
  rcases List.mem_cons.1 h with h|h
  all_goals grind
theorem k0q{i:Nat}{d:Option Tmp}{ch:List (Nat×Bool)}{av:AV}{bs:List BE}{x:BE}(h:x∈G0i i d ch av bs):(∃ s e,d=some s/\av = .val (.bool e)/\x=⟨i,s,e,ch⟩)∨x∈bs:=by
 unfold G0i at h
 grind
theorem l0q{i:Nat}{d:Option Tmp}{ch:List (Nat×Bool)}{av:AV}{bs:List BE}(f:∀ y∈bs,y.j<i):Y08 bs (G0i i d ch av bs):=by
 unfold G0i
 split
 ·split
  ·refine⟨λe c h=>t0m (λy a=>?_) h,λj b h=>W0o (λy a=>?_) h⟩<;>(grind)
  ·exact Y08.refl _
 ·exact Y08.refl _
theorem q0s(P:Program)(i:Nat)(L:FL)(bs:List BE)(st:St)(h:Hp)(K:St->Hp->Prop):evU P [] i L bs st h K=∀ h',Sub h h'->W08 h' L st.fr λfr=>K { st with fr:=fr } h':=by
 obtain⟨n,fr,bx,ow⟩:=st;rfl
theorem m0q(P:Program)(o:Oper)(l:List Oper)(i:Nat)(L:FL)(bs:List BE)(st:St)(h:Hp)(K:St->Hp->Prop)(a:evU P (o::l) i L bs st h K):
    ∃ ch c f,d00 bs o.guard=some ch/\cB bs ch=some c/\(OpU P st h L bs o ch c f/\∀ av,l09 P L bs ch o st=some av->f = .pu av)/\∃ j,j=(match f with
      | .pu av=>G0i i o.dst ch av bs
      | .ef _=>bs)/\evU P l (i+1) (G09 o.dst ch f L) j st h K:=by
  obtain⟨n,fr,bx,ow⟩:=st
  change (match d00 bs o.guard with
        |some ch=>match cB bs ch with
          |some c=>match l09 P L bs ch o ⟨n,fr,bx,ow⟩with
            |some av=>Y00 av λav=>evU P l (i+1) (G09 o.dst ch (.pu av) L) (G0i i o.dst ch av bs) ⟨n,fr,bx,ow⟩ h K
            |none=>(∃ av,(∀ h',Sub h h'->imp ch c (p07 L ⟨n,fr,bx,ow⟩ h' ch o.op.operands.toList [] λfr=>c8 P o ⟨n,fr,bx,ow⟩ h' (n0n av ⟨n,fr,bx,ow⟩ h'))) /\
                  Y00 av λav=>evU P l (i+1) (G09 o.dst ch (.pu av) L) (G0i i o.dst ch av bs) ⟨n,fr,bx,ow⟩ h K) ∨
                (∃ F:Value->Hp->Prop,(∀ v d b,Sub d b->F v d->F v b) /\
                  (∀ h',Sub h h'->imp ch c (p07 L ⟨n,fr,bx,ow⟩ h' ch o.op.operands.toList [] λfr=>a0k P o ⟨n,fr,bx,ow⟩ h' (S0p ⟨n,fr,bx,ow⟩ h' F))) /\
                  evU P l (i+1) (G09 o.dst ch (.ef F) L) bs ⟨n,fr,bx,ow⟩ h K)
          |none=>False
        |none=>False)at a
  split at a
  · rename_i ch g
    split at a
    · rename_i c e
      split at a
      · rename_i av p
        rw[J02]at a
        exact⟨ch,c,.pu av,g,e,⟨.inl p,λq h'=>by grind⟩,_,rfl,a⟩
      · rename_i s
        have k:∀(f:o6) av,l09 P L bs ch o ⟨n,fr,bx,ow⟩=some av->f = .pu av:=λf av h'=>by grind
        rcases a with⟨av,d,b⟩|⟨F,d,b,m⟩
        · rw[J02]at b
          exact⟨ch,c,.pu av,g,e,⟨.inr d,k _⟩,_,rfl,b⟩
        · exact⟨ch,c,.ef F,g,e,⟨⟨d,b⟩,k _⟩,_,rfl,m⟩
    · exact a.elim
  · exact a.elim
theorem V0e{P:Program}{ops:List Oper}{st:St}{h:Hp}{K:St->Hp->Prop}(am:∀(i j:Nat) (n Q:Oper) (d:Nat),ops[i]?=some n->ops[j]?=some Q->n.dst=some d->Q.dst=some d->i=j):
  ∀(l:List Oper) (k:Nat) (L:FL) (bs:List BE) (q:Asg),(∀ j,l[j]?=ops[k+j]?)->k+l.length=ops.length->M0g ops q L bs k->evU P l k L bs st h K ->
   ∃(A:Asg) (J:FL) (v:List BE),(∀ i,i<k->A i=q i)/\Y08 bs v/\M0g ops A J v ops.length /\
    (∀ j o,k<=j->ops[j]?=some o->∃ R C,d00 v o.guard=some (A j).1/\M0g ops A R C j/\Y08 C v/\cB C (A j).1=some (A j).2.1/\(OpU P st h R C o (A j).1 (A j).2.1 (A j).2.2/\∀ av,l09 P R C (A j).1 o st=some av->(A j).2.2 = .pu av)) /\
    (∀ h',Sub h h'->W08 h' J st.fr λfr=>K { st with fr:=fr } h')
 | [],k,L,bs,q,V,ad,g,ac=>by
  have ae:k=ops.length:=by simpa using ad
  grind[Y08.refl,q0s,List.getElem?_eq_some_iff]
 |o::l,k,L,bs,q,V,ad,g,ac=>by
  have X:ops[k]?=some o:=by simpa using (V 0).symm
  have ar:∀ j,l[j]?=ops[k+1+j]?:=λj=>by have:=V (j+1);grind
  have ae:k+1+l.length=ops.length:=by grind
  obtain⟨ch,c,f,u,ab,au,U,ap,aq⟩:=m0q P o l k L bs st h K ac
  let B:Asg:=λi=>if i=k then(ch,c,f)else q i
  have M:B k=(ch,c,f):=by simp[B]
  have Z:∀ i,i<k->B i=q i:=λi m=>by grind
  have ay:∀ y∈bs,y.j<k:=λy ax=>(g.p4 y ax).1
  have I:Y08 bs U:=by
   grind[l0q,Y08.refl]
  have aw:M0g ops B (G09 o.dst ch f L) U (k+1):=by
   refine⟨λt x a=>?_,λi n d m H O=>?_,λi m W=>?_,λx a=>?_⟩
   ·rcases j0q a with⟨ah,ag,e⟩|a
    ·grind
    ·obtain⟨i,n,s,D,E,G,al⟩:=g.p1 t x a
     grind
   ·rcases Nat.lt_or_ge i k with z|z
    ·obtain⟨x,a⟩:=g.p2 i n d z H O
     cases hd:o.dst with
     |none=>exact⟨x,a⟩
     |some ah=>exact K09 (x:=x) (mC _ (t04 a))
    ·have:i=k:=by omega
     subst this
     rw[X]at H;cases H
     rw[O]
     exact K09 mS
   ·rcases Nat.lt_or_ge i k with z|z
    ·rw[Z i z];exact I.c _ _ (g.p3 i z W)
    ·have:i=k:=by omega
     subst this
     rw[M];exact I.c _ _ ab
   ·subst ap
    cases f with
    |ef F =>
     obtain⟨s,D,E,G⟩:=g.p4 x a
     grind
    |pu av =>
     rcases k0q a with⟨ah,e,ag,an,rfl⟩|a
     ·refine⟨nS _,⟨o,X,ag⟩,by rw[M],?_⟩
      rw[M,an]
     ·obtain⟨s,D,E,G⟩:=g.p4 x a
      grind
  obtain⟨A,J,v,aa,S,ai,aj,ak⟩:=V0e am l (k+1) _ U B ar ae aw aq
  have T:A k=(ch,c,f):=by rw[aa k (nS _),M]
  have N:∀ i,i<k->A i=q i:=λi m=>by rw[aa i (Nat.lt_succ_of_lt m),Z i m]
  refine⟨A,J,v,N,I.trans S,ai,λj Q az Y=>?_,ak⟩
  rcases Nat.lt_or_ge k j with af|af
  ·exact aj j Q af Y
  ·have:j=k:=by omega
   subst this
   rw[X]at Y;cases Y
   refine⟨L,bs,?_,⟨λt x a=>?_,λi n d m H O=>g.p2 i n d m H O,λi m W=>?_,λx a=>?_⟩,I.trans S,by rw[T];exact ab,by rw[T];exact au⟩
   ·rw[T]
    cases hg:o.guard with
    |none=>rw[hg]at u;exact u
    |some p =>
     obtain⟨aA,w⟩:=p
     rw[hg]at u
     simp only[d00]at u ⊢
     split at u
     ·rename_i b ao
      rw[(I.trans S).e _ _ ao]
      exact u
     ·cases u
   ·obtain⟨i,n,s,D,E,G,al⟩:=g.p1 t x a
    grind
   ·rw[N i m];exact g.p3 i m W
   ·obtain⟨s,D,E,G⟩:=g.p4 x a
    exact⟨s,D,by rw[N _ s];exact E,by rw[N _ s];exact G⟩
section
variable {P:Program} {h0:Hp} {w0:World} {be:Nat->Nat} {oe:Nat->Value} {H:Hp} {st:St} {h:Hp} {a:Act} {w:World} {o:Oper} {K:AV->St->Hp->Prop} {Q:Exit->Act->World->Prop}
theorem t0k(i:Sim P h0 w0 be oe H st h a w){t n:Nat}{f:Array (Nat×Operand)}(m:o.op = .buildSlice t n f)(z:f.toList = [])(c:T0p P t n st h K):o.wp P a w (Nx P h0 w0 st be oe K a o.dst) Q:=by
 unfold T0p at c
 split at c
 rotate_left
 ·exact c.elim
 rename_i e u
 split at c
 rotate_left
 ·exact c.elim
 rename_i sz s k
 have l:=Nat.eq_of_beq_eq_true k
 subst l
 have p:f = #[]:=by grind
 subst p
 have v:wpS P (execOp a.eval o) h (λg h'=>∃ b,h b=none/\g = .value (.slice (some ⟨b,0,none⟩) 0 0)/\h'=h.set b (.cells #[] e (0,0))):=by
  unfold execOp;rw[m]
  refine W7 _ _ _ ?_
  simp only[Instr.buildSlice,O2,Z5 (p9 u),Z00 s,Nat.zero_mul,D3]
  rw[if_neg (by omega)]
  simp only[D3,if_true,Instr.fill,Array.map_empty,O2,newRow,newObj,wpS]
  exact λb d=>⟨b,d,rfl,by rw[show Array.range 0 = #[] from rfl,Array.map_empty]⟩
 obtain⟨g,h',A,q,⟨b,d,rfl,rfl⟩,j⟩:=G9 _ _ _ (N07 i) v
 obtain⟨y,x⟩:=i.moved j
 exact E7 q ⟨_,_,_,_,_,_,_,c b d,rfl,x,rfl,Q6.refl _ _ _⟩
theorem u0k(m:Sim P h0 w0 be oe H st h a w){t:TypeId}{p q:Operand}{as:Array Operand}{ts:Array TypeId}(J:o.op = .call { callee := .builtin .append,args:=as,argTypes:=ts })
  (E:as = #[p,q]) (M:ts = #[t,t]) (d:U0p P t p q st h K):o.wp P a w (Nx P h0 w0 st be oe K a o.dst) Q:=by
 unfold U0p at d
 split at d
 rotate_left
 ·exact d.elim
 rename_i e Y
 split at d
 rotate_left
 ·exact d.elim
 rename_i sz by_ z X O aa
 split at d
 rotate_left
 ·exact d.elim
 rename_i ab
 obtain⟨i,y,C,ae,ag⟩:=I09 X O aa
 have A:=p9 Y
 have ac:z.cells.size=i.size:=by rw[C];simpa using x02 _ _ ab
 have g:=m.rdO p
 split at d
 rotate_left
 ·exact d.elim
 rename_i n s W
 rw[W]at g
 have v:a.eval p = .slice (some ⟨n,s,none⟩) 0 0:=g
 obtain⟨b,⟨L,U,I⟩,l⟩:=J04 m (Nat.succ_pos sz) d
 have ad:i.size=sz+1:=C
 have af:i.bytes=by_+1:=ae
 rw[←C]at l
 rw[←ad]at I
 rw[←af]at L
 have R:0<i.bytes:=by grind
 have ak:b.length<=140737488355328:=Nat.le_trans (Nat.le_mul_of_pos_right _ R) L
 have V:((0+b.length:Nat):Int)<=9223372036854775807:=by omega
 have G:=b03 b (λx B=>(l.1 x B).1)
 have N:=N07 m
 by_cases hn:b = []
 ·have k:(Builtin.append_ #[t,t] o.type #[.slice (some ⟨n,s,none⟩) 0 0,a.eval q]).run P w = .ok (.slice (some ⟨n,s,none⟩) 0 0) w:=by
   subst hn
   rcases l.2 with⟨D,c,f,F⟩|⟨c,f,_⟩
   ·rw[f]
    simp[Builtin.append_,run_underlying A,sizeOf,typeInfo,y,Builtin.lenOf,Builtin.firstCells,loadCells,loadCellsFrom,storeCells]
   ·rw[f]
    simp[Builtin.append_,run_underlying A,sizeOf,typeInfo,y,Builtin.lenOf,Builtin.firstCells,storeCells]
  rw[←v]at k
  exact E7 (L02 J E M k) ⟨_,_,h,_,_,_,_,U hn,rfl,m,v,Q6.refl _ _ _⟩
 ·rcases l.2 with⟨D,cc,f,F⟩|⟨cc,f,Z⟩
  rotate_left
  ·exact absurd Z hn
  have al:0<b.length:=by
   grind
  have k:=run_append_grow (P:=P) w t o.type e i z A y ag ⟨n,s,none⟩ 0 0 [] (by simp) (λj u T=>by simp at T) D b.length cc b.flatten G F (by omega) V (growslice_fits (by omega) (by grind[V05]))
  have aj:=grownCap_ge w (0+b.length) 0 e
  have S:grownCap w (0+b.length) 0 e<=maxLen:=grownCap_le_maxLen w _ 0 e (by unfold maxLen;omega)
  rw[←f,←v]at k
  obtain⟨ai,ah⟩:=m.moved (U2.newD N (.cells ([].toArray++b.flatten.toArray++Builtin.zeroCells z.cells (grownCap w (0+b.length) 0 e-(0+b.length))) e (0,0)) rfl)
  refine E7 (L02 J E M k) ⟨_,_,_,_,_,_,_,I _ _ ⟨λx B=>l.1 x B,.inr ⟨w.heap.size,grownCap w (0+b.length) 0 e,_,?_,l02 N,rfl,by omega,S,?_,?_⟩⟩,rfl,ah,rfl,Q6.refl _ _ _⟩
  ·rw[Nat.zero_add]
  ·simp only[Array.size_append,List.size_toArray,G,size_zeroCells,ac,List.length_nil,←Nat.add_mul,Nat.zero_add]
   grind
  grind
theorem v0k(e:Sim P h0 w0 be oe H st h a w)(b:a0k P o st h K):o.wp P a w (Nx P h0 w0 st be oe K a o.dst) Q:=by
 unfold a0k at b
 split at b
 ·grind[t0k,O9]
 ·rename_i as ts d
  split at b
  ·rename_i x y t i f g
   split at b
   ·rename_i c
    have:=Nat.eq_of_beq_eq_true c
    subst this
    exact u0k e d (by grind) (by grind) b
   ·exact b.elim
  ·exact b.elim
 grind[O9]
end
section
variable {P:Program} {h0:Hp} {w0:World} {be:Nat->Nat} {oe:Nat->Value} {H:Hp} {h:Hp} {a:Act} {w:World}
def V0i(st:St)(be:Nat->Nat)(oe:Nat->Value)(h:Hp)(bs:List BE)(x:List (Nat×Bool)×o6)(v:Value):Prop:=cB bs x.1=some true->G05 st be oe h x.2 v
theorem N01{L:FL}{st:St}{h:Hp}{bs:List BE}{ch:List (Nat×Bool)}{val:Nat->Value}{K:List (Nat×AV)->Prop}(d:cB bs ch=some true):∀ {l:List Operand} {acc:List (Nat×AV)},
  (∀ t,Good st be oe (G3 acc t) (val t))->(∀ t,Operand.tmp t∈l->(∀ x,q03 L t=some x->V0i st be oe h bs x (val t))/\(q03 L t=none->Good st be oe (G3 st.fr t) (val t))) ->
  p07 L st h ch l acc K->∃ fr,K fr/\∀ t,Good st be oe (G3 fr t) (val t)
 | [],acc,c,b,a=>⟨acc,a,c⟩
 | .tmp t::r,acc,c,b,a=>by
  have j:∀ u,Operand.tmp u∈r->_:=λu i=>b u (mC _ i)
  have k:=b t mS
  have put:∀ av,Good st be oe av (val t)->∀ u,Good st be oe (G3 ((t,av)::acc) u) (val u):=λav g u=>by
   grind[Y3]
  simp only[p07]at a
  split at a
  ·rename_i n f e
   split at a
   ·rename_i m
    have hf:=k.1 _ e (H08 m d)
    cases f with
    |pu av=>exact N01 d (put av hf) j a
    |ef F=>exact N01 d (put (.val (val t)) rfl) j (a _ hf)
   ·exact a.elim
  ·rename_i e
   exact N01 d (put _ (k.2 e)) j a
 | .const v::r,acc,c,b,a=>N01 (l:=r) d c (λu i=>b u (mC _ i)) a
 | .global v::r,acc,c,b,a=>N01 (l:=r) d c (λu i=>b u (mC _ i)) a
 | .func v::r,acc,c,b,a=>N01 (l:=r) d c (λu i=>b u (mC _ i)) a
theorem i0h{st:St}{val:Nat->Value}{K:List (Nat×AV)->Prop}:∀ {L:FL} {fr:List (Nat×AV)},(∀ p∈L,p.2.1 = []->G05 st be oe h p.2.2 (val p.1)) ->
  (∀ t,(∀ x,(t,x) ∉ L)->Good st be oe (G3 fr t) (val t))->W08 h L fr K->∃ fr,K fr/\∀ t,Good st be oe (G3 fr t) (val t)
 | [],fr,b,c,a=>⟨fr,a,λt=>c t (by simp)⟩
 |(d,ch,f)::r,fr,b,c,a=>by
  have step:∀ av,Good st be oe av (val d)->W08 h r ((d,av)::fr) K->∃ fr,K fr/\∀ t,Good st be oe (G3 fr t) (val t):=λav g a =>
   i0h (L:=r) (fr:=(d,av)::fr) (λp e=>b p (mC _ e)) (λt i=>by
    grind[Y3]) a
  cases ch with
  |nil =>
   have hf:=b (d,[],f) mS rfl
   cases f with
   |pu av=>exact step av hf a
   |ef F=>exact step (.val (val d)) rfl (a _ hf)
  |cons p q =>
   refine step .dead trivial ?_
   cases f<;>exact a
theorem n0q{st:St}{L:FL}{bs:List BE}{ch:List (Nat×Bool)}{o:Oper}{av:AV}(c:l09 P L bs ch o st=some av)(z:cB bs ch=some true)
  (am:∀ t,(∀ x,q03 L t=some x->V0i st be oe h bs x (a.tmps.getD t undef))/\(q03 L t=none->Good st be oe (G3 st.fr t) (a.tmps.getD t undef))∨Operand.tmp t ∉ o.op.operands)
  (ay:∀ x∈bs,∀ y,q03 L x.d=some y->y=(x.ch,.pu (.val (.bool x.e)))) (ah:∀ x∈bs,I02 bs x.j=some x) (aw:∀ x∈bs,∃ y,q03 L x.d=some y)
  (T:∀ {fr:List (Nat×AV)},(∀ t,Good st be oe (G3 fr t) (a.tmps.getD t undef))->Sim P h0 w0 be oe H { st with fr:=fr } h a w) {Q:Exit->Act->World->Prop} :
  o.wp P a w (λE l=>∃ v be' oe' C,E=a.put o.dst v/\(∃ fr,Sim P h0 w0 be' oe' C { st with fr:=fr } h a l)/\Q6 st be oe st be' oe'/\Good st be' oe' av v) Q:=by
 have G:Sim P h0 w0 be oe H { st with fr:=[] } h a w:=T (λt=>trivial)
 have rd:∀(x:Operand) (I:List (Nat×Bool)),cB bs I=some true->(∀ t,x = .tmp t->Operand.tmp t∈o.op.operands)->Good st be oe (rdU L st I x) (a.eval x):=by
  intro x I af f
  cases x with
  |tmp t =>
   have Y:=(am t).resolve_right (λB=>B (f t rfl))
   simp only[rdU]
   split
   ·rename_i ar A e
    split
    ·rename_i O
     have:=Y.1 _ e (H08 O af)
     have g:Good st be oe A (a.tmps.getD t undef):=this
     have s:=G.rdA (Good.fr (st:=st) (fr:=[]) g)
     have p:rdA { st with fr:=[] } A=rdA st A:=by obtain⟨n,fr,bx,ow⟩:=st;cases A<;>rfl
     rw[p]at s
     exact Good.fr (st := { st with fr:=[] }) (fr:=st.fr) s
    ·trivial
   ·trivial
   ·rename_i e
    have g:=Y.2 e
    have s:=G.rdA (Good.fr (st:=st) (fr:=[]) g)
    have p:rdA { st with fr:=[] } (G3 st.fr t)=rdA st (G3 st.fr t):=by obtain⟨n,fr,bx,ow⟩:=st;cases G3 fr t<;>rfl
    rw[p]at s
    exact Good.fr (st := { st with fr:=[] }) (fr:=st.fr) s
  |const v=>exact rfl
  |global v=>trivial
  |func v=>exact rfl
 have done:∀ {v:Value},(∀ l,(execOp a.eval o).run P l = .ok (.value v) l ∨ ¬ Vis H l)->Good st be oe av v->o.wp P a w (λE l=>∃ v be' oe' C,E=a.put o.dst v/\(∃ fr,Sim P h0 w0 be' oe' C { st with fr:=fr } h a l)/\Q6 st be oe st be' oe'/\Good st be' oe' av v) Q:=λ{v} m g =>
  E7 ((m w).resolve_right λB=>B G.mv.vis) ⟨v,be,oe,H,rfl,⟨[],G⟩,Q6.refl _ _ _,g⟩
 unfold l09 at c
 split at c
 ·rename_i x f
  have g:=rd x ch z (λt e=>by rw[f];simp[Op.operands,e])
  refine done (v:=a.eval x) (λl => .inl (by unfold execOp;rw[f];rfl)) ?_
  revert c
  cases m:rdU L st ch x<;>intro c<;>first|(cases c;done)|(cases c;rw[m]at g;exact g)
 ·rename_i x f
  have g:=rd x ch z (λt e=>by rw[f];simp[Op.operands,e])
  refine done (v:=a.eval x) (λl => .inl (by unfold execOp;rw[f];rfl)) ?_
  revert c
  cases m:rdU L st ch x<;>intro c<;>first|(cases c;done)|(cases c;rw[m]at g;exact g)
 ·rename_i t x f
  have g:=rd x ch z (λt e=>by rw[f];simp[Op.operands,e])
  split at c
  ·rename_i i off m
   rw[m]at g
   split at c
   ·rename_i cs ty B
    have ao:∃ u,x = .tmp u:=by
     cases x with
     |tmp u=>exact⟨u,rfl⟩
     |const v=>simp[rdU,rdO]at m
     |global v=>simp[rdU,rdO]at m
     |func v=>simp[rdU,rdO]at m
    obtain⟨u,rfl⟩:=ao
    have ag:c8 P o { st with fr:=[(u,.box i off)] } h λS st' h'=>S=av/\st' = { st with fr:=[(u,.box i off)] }/\h'=h:=by
     have ak:rdO { st with fr:=[(u,.box i off)] } (.tmp u) = .box i off:=by
      show rdA _ (G3 [(u,AV.box i off)] u)=_
      rw[Y3,if_pos rfl]
      simp only[rdA,B]
     simp only[c8,f,ak,B]
     grind[B0e,y04,x0i,W5]
    have s1:=T (fr:=[(u,.box i off)]) (λaz=>by
     rw[Y3]
     split
     ·rename_i e;subst e;exact g
     ·trivial)
    refine Oper.wp_mono (λE l f=>?_) (O9 s1 ag)
    obtain⟨S,st',au,v,be',oe',C,⟨J,p,ac⟩,ae,s2,s,F⟩:=f
    rw[p,ac]at s2
    rw[J,p]at s
    rw[p]at F
    exact⟨v,be',oe',C,ae,⟨_,s2⟩,⟨F.bl,F.be,F.sm⟩,Good.fr (st := { st with fr:=[(u,.box i off)] }) (fr:=st.fr) s⟩
   ·cases c
  ·cases c
 ·rename_i t x k f
  have g:=rd x ch z (λt e=>by rw[f];simp[Op.operands,e])
  split at c
  ·rename_i i off K m X
   rw[m]at g
   cases c
   refine done (v:=ptr (be i) (off+K)) (λl=>?_) ⟨g.1,rfl⟩
   by_cases hvis:Vis H l
   ·exact .inl (R.run_of (R.exec_fieldAddr (H:=H) f X g.2) l hvis)
   ·exact .inr hvis
  ·rename_i sl j sz aq K m X
   rw[m]at g
   cases c
   obtain⟨b,Z,n,ab,J,p⟩:=g
   refine done (v:=ptr b (Z+(j.toNat*sz+aq)+K)) (λl=>?_) ⟨b,Z,n,ab,J,by simp[Nat.add_assoc]⟩
   grind[Vis,R.run_of,R.exec_fieldAddr]
  ·cases c
 ·rename_i aa x y f
  have g:=rd (.tmp aa) ch z (λt e=>by rw[f];cases e;simp[Op.operands])
  split at c
  ·rename_i e q O aj
   rw[O]at g
   have ad:a.eval (.tmp aa) = .bool e:=g
   split at c
   ·rename_i al
    obtain⟨ai,ax⟩:=c0c aj
    have V:=H08 al z
    have W:q.e=e:=by
     grind[rdU,bool,Go.H.rdA]
    have U:=ah q ai
    split at c
    ·rename_i bx by_ an ap
     cases c
     refine done (v := .bool (cond e bx by_)) (λl => .inl ?_) rfl
     unfold execOp;rw[f]
     simp only[ad,Sem.run_bind,asBool,Sem.run_pure,Result.andThen_ok]
     cases e with
     |true =>
      have N:cB bs ((q.j,true)::q.ch)=some true:=by
       rw[n04,U,V];simp[lit,W]
      have D:=rd x _ N (λt e=>by rw[f];simp[Op.operands,e])
      rw[an]at D
      have M:a.eval x = .bool bx:=D
      simp[M]
     |false =>
      have N:cB bs ((q.j,false)::q.ch)=some true:=by
       rw[n04,U,V];simp[lit,W]
      have D:=rd y _ N (λt e=>by rw[f];simp[Op.operands,e])
      rw[ap]at D
      have M:a.eval y = .bool by_:=D
      simp[M]
    ·cases c
   ·cases c
  ·cases c
 ·cases c
theorem Sim.untail{st:St}{t:List Own}(c:Sim P h0 w0 be oe H { st with ow:=st.ow++t } h a w)(hf:∀ u,Good st be oe (G3 st.fr u) (a.tmps.getD u undef))
  (m:∀ i cs ty,nth st.bx i=some (.live cs ty)->∃ vs,G2 st oe cs vs/\H (be i)=some (.cells vs.toArray ty (0,0))):Sim P h0 w0 be oe H st h a w:=by
 have up:∀ i o,nth st.ow i=some o->nth (st.ow++t) i=some o:=λi o b=>by
  grind[F04,List.getElem?_append_left,List.getElem?_eq_some_iff]
 refine⟨c.mv,c.sub,λi cs ty b=>⟨(c.box i cs ty b).1,m i cs ty b⟩,c.pub,λi f e sz by_ nn xs b=>c.own i f e sz by_ nn xs (up i _ b),λi f v b=>c.frz i f v (up i _ b),c.bb,
  λi j s1 e sz by_ nn xs s2 l p k n q g b d=>c.oo i j s1 e sz by_ nn xs s2 l p k n q g (up i _ b) (up j _ d),λi cs ty j s1 e sz by_ nn xs b d=>c.bo i cs ty j s1 e sz by_ nn xs b (up j _ d),c.dfr,c.siz,hf⟩
def L09(P:Program)(h0:Hp)(w0:World)(ops:Array Oper)(st:St)(h:Hp)(A:Asg)(sk:Nat->Bool)(kp:List (Nat×Value))(listed:Array Bool)(a:Act)(w:World):Prop :=
 ∃ be oe H h',Sub h h'/\Sim P h0 w0 be oe H { st with fr:=I4 ops.toList st.fr } h' a w/\(∀ p∈kp,a.tmps.getD p.1 undef=p.2) /\
  ∀ j o d,sk j=false->ops[j]?=some o->o.dst=some d->listed.getD j false=true->((A j).2.1=true->G05 st be oe h' (A j).2.2 (a.tmps.getD d undef))/\((A j).2.1=false->a.tmps.getD d undef=undef)
theorem r0s{st st':St}(t:n0m st st'):∃ r,st' = { st with ow:=st.ow++r }:=by
 obtain⟨n,fr,bx,ow⟩:=st
 obtain⟨g,b,a,h⟩:=st'
 obtain⟨c,d,e,r,f⟩:=t
 grind
theorem s0s{b:Type}{l r:List b}{i:Nat}(a:i<l.length):nth (l++r) i=nth l i:=by
 rw[F04,F04,List.getElem?_append_left a]
theorem j0h{st:St}{r:List Own}{i a:Nat}(b:stamp st i=some a):stamp { st with ow:=st.ow++r } i=some a:=by
 grind[stamp,nth,s0s,K01]
theorem v0t{ops:Array Oper}{st:St}{A:Asg}{sk:Nat->Bool}{kp:List (Nat×Value)}{bc:FL}{ai:List BE}{listed:Array Bool}{j:Nat}{o:Oper}{Q:Exit->Act->World->Prop}
  (bp:∀(i j:Nat) (f a2:Oper) (d:Nat),ops.toList[i]?=some f->ops.toList[j]?=some a2->f.dst=some d->a2.dst=some d->i=j)
  (ak:∀ o∈ops.toList,∀ d,o.dst=some d->d<st.n)
  (bo:∀(k:Nat) (o:Oper),ops.toList[k]?=some o->∀ e∈o.after,Region.binds .any e=true->e.on<k)
  (aQ:∀ o∈ops.toList,∀ t,Operand.tmp t∈o.op.operands->∀(i:Nat) (f:Oper),ops.toList[i]?=some f->f.dst=some t->∃ e∈o.after,Region.binds .any e=true/\e.on=i)
  (bC:∀ o∈ops.toList,∀ i w,o.guard=some (i,w)->V7 i o=true)
  (aq:M0g ops.toList A bc ai ops.toList.length)
  (aO:∀ j o,ops.toList[j]?=some o->∃ T D,d00 ai o.guard=some (A j).1/\M0g ops.toList A T D j/\Y08 D ai/\cB D (A j).1=some (A j).2.1/\(OpU P st h T D o (A j).1 (A j).2.1 (A j).2.2/\∀ av,l09 P T D (A j).1 o st=some av->(A j).2.2 = .pu av))
  (b8:sk j=false) (cb:∀(i:Nat) (f:Oper) (d:Nat),ops.toList[i]?=some f->f.dst=some d->sk i=true->∀ C∈ops.toList,Operand.tmp d ∉ C.op.operands)
  (bM:∀ i,sk i=true->(A i).2.2 = .pu (.val undef)) (ca:∀ p∈kp,∃(i:Nat) (f:Oper),ops.toList[i]?=some f/\f.dst=some p.1/\sk i=true)
  (aS:ops[j]?=some o) (aV:∀ e∈o.after,Region.binds .any e=true->listed.getD e.on false=true) (ag:L09 P h0 w0 ops st h A sk kp listed a w) :
  (Region.wanted o (yielded ops a.tmps)=true->o.wp P a w (L09 P h0 w0 ops st h A sk kp (listed.setIfInBounds j true)) Q) /\
  (Region.wanted o (yielded ops a.tmps)=false->L09 P h0 w0 ops st h A sk kp (listed.setIfInBounds j true) (a.put o.dst undef) w):=by
 obtain⟨be,oe,H,h',aE,ac,keep,ay⟩:=ag
 have al:ops.toList[j]?=some o:=by simpa using aS
 have aj:o∈ops.toList:=List.mem_of_getElem? al
 have aR:j<ops.toList.length:=(List.getElem?_eq_some_iff.1 al).1
 obtain⟨T,D,aa,W,bQ,ar,L,_⟩:=aO j o al
 have af:cB ai (A j).1=some (A j).2.1:=aq.p3 j aR aR
 have aY:Region.wanted o (yielded ops a.tmps)=(A j).2.1:=by
  unfold Region.wanted
  cases hg:o.guard with
  |none =>
   rw[hg]at aa
   cases hch':(A j).1 with
   |nil=>rw[hch']at af;exact oJ af
   |cons p q=>rw[hch']at aa;cases aa
  |some p =>
   obtain⟨i,aK⟩:=p
   rw[hg]at aa
   simp only[d00]at aa
   split at aa
   ·rename_i b J
    obtain⟨bG,rfl⟩:=w03 J
    obtain⟨E,⟨C,s,N⟩,an,ae⟩:=aq.p4 b bG
    have aC:listed.getD b.j false=true:=by
     obtain⟨e,R,br,am⟩:=U6 (bC o aj b.j aK hg)
     rw[←am];exact aV e R br
    have bL:sk b.j=false:=by
     cases e:sk b.j with
     |false=>rfl
     |true=>rw[bM b.j e]at ae;cases ae
    have hf:=ay b.j C b.d bL (by simpa using s) N aC
    have aP:=aq.p3 b.j E E
    rw[an]at aP
    have ab:b.d<a.tmps.size:=by rw[ac.siz];exact ak C (List.mem_of_getElem? s) b.d N
    have aG:a.tmps[b.d]?=some (if(A b.j).2.1=true then .bool b.e else undef):=by
     rw[Array.getElem?_eq_getElem ab]
     have bD:a.tmps.getD b.d undef=a.tmps[b.d]:=by simp[ab]
     cases K:(A b.j).2.1 with
     |true =>
      have:=hf.1 K
      rw[ae,bD]at this
      have I:a.tmps[b.d] = .bool b.e:=this
      rw[I];rfl
     |false =>
      grind
    have aH:yielded ops a.tmps b.j=if(A b.j).2.1=true then some b.e else none:=by
     unfold yielded
     have:ops[b.j]?=some C:=by simpa using s
     simp only[this,N,oB,aG]
     cases (A b.j).2.1<;>rfl
    have bz:(A j).1=(b.j,aK)::b.ch:=by
     grind
    rw[bz,n04,J,aP]at af
    simp only[Option.some.injEq]at af
    simp only[aH,←af]
    cases (A b.j).2.1<;>cases aK<;>cases b.e<;>rfl
   ·cases aa
 have bY:∀ i f,ops.toList[i]?=some f->∀ F,(A i).2.2 = .ef F->∀ v G I,Sub G I->F v G->F v I:=λi f au F bq=>by
  obtain⟨bZ,b2,_,_,_,_,aU,_⟩:=aO i f au
  rw[bq]at aU
  exact aU.1
 have fin:∀ {fr:List (Nat×AV)} {ad:Act} {S:World} {O:Hp} {be':Nat->Nat} {oe':Nat->Value} {M:Hp} {v:Value},Sub h' O->ad=a.put o.dst v->Sim P h0 w0 be' oe' M { st with fr:=fr } O a S ->
   Q6 st be oe st be' oe'->((A j).2.1=true->G05 st be' oe' O (A j).2.2 v)->((A j).2.1=false->v=undef)->L09 P h0 w0 ops st h A sk kp (listed.setIfInBounds j true) ad S:=by
  intro fr ad S O be' oe' M v aX Z bV ao aG bN
  subst Z
  have bm:Q6 { st with fr:=I4 ops.toList st.fr } be oe { st with fr:=I4 ops.toList st.fr } be' oe':=⟨ao.bl,ao.be,ao.sm⟩
  have s1:Sim P h0 w0 be' oe' M { st with fr:=I4 ops.toList st.fr } O a S :=
   bV.refr (fr:=I4 ops.toList st.fr) λt=>Good.fr (st := { st with fr:=I4 ops.toList st.fr }) ((ac.fr t).grow bm)
  have s2:Sim P h0 w0 be' oe' M { st with fr:=I4 ops.toList st.fr } O (a.put o.dst v) S:=by
   cases V:o.dst with
   |none=>exact s1
   |some d =>
    have aD:=s1.put (d:=d) (av := .dead) (v:=v) (ak o aj d V) trivial
    refine aD.refr (fr:=I4 ops.toList st.fr) λt=>?_
    have g:=aD.fr t
    grind[Y3,b02]
  have cm:∀ d,o.dst≠some d->(a.put o.dst v).tmps.getD d undef=a.tmps.getD d undef:=λd V=>by
   cases aB:o.dst with
   |none=>rfl
   |some U=>simp[Act.put,Array.getElem?_setIfInBounds_ne (λe=>V (by rw[aB,e]):U≠d)]
  refine⟨be',oe',M,O,λb x J=>aX b x (aE b x J),s2,λp aD=>?_,λi f d aF G I aN=>?_⟩
  ·grind
  by_cases hij:j=i
  ·subst hij
   rw[aS]at G;cases G
   have ab:d<a.tmps.size:=by rw[ac.siz];exact ak o aj d I
   have:(a.put o.dst v).tmps.getD d undef=v:=by
    rw[I]
    simp[Act.put,ab]
   rw[this]
   exact⟨aG,bN⟩
  ·have bF:listed.getD i false=true:=by rw[getD_set_ne false hij]at aN;exact aN
   have bI:∀ U,o.dst=some U->U≠d:=λU aB e=>by
    subst e
    exact hij (bp j i o f U al (by simpa using G) aB I)
   have:(a.put o.dst v).tmps.getD d undef=a.tmps.getD d undef:=by
    cases V:o.dst with
    |none=>rfl
    |some U=>simp[Act.put,Array.getElem?_setIfInBounds_ne (bI U V)]
   rw[this]
   obtain⟨ah,bR⟩:=ay i f d aF G I bF
   refine⟨λK=>?_,bR⟩
   have ah:=ah K
   cases hA:(A i).2.2 with
   |pu av=>rw[hA]at ah;exact Good.grow ao ah
   |ef F=>rw[hA]at ah;exact bY i f (by simpa using G) F hA _ _ _ aX ah
 refine⟨λbP=>?_,λbO=>?_⟩
 rotate_left
 ·have K:(A j).2.1=false:=by rw[←aY];exact bO
  exact fin (fr:=I4 ops.toList st.fr) (λ_ _ h=>h) rfl ac (Q6.refl _ _ _) (λh=>by rw[K]at h;cases h) (λ_=>rfl)
 have K:(A j).2.1=true:=by rw[←aY];exact bP
 rw[K]at ar L
 have b7:cB ai (A j).1=some true:=by rw[af,K]
 have bX:∀ t x,q03 T t=some x->V0i st be oe h' D x (a.tmps.getD t undef)∨Operand.tmp t ∉ o.op.operands:=λt x m=>by
  by_cases B:Operand.tmp t∈o.op.operands
  ·refine .inl λbB=>?_
   obtain⟨i,f,E,s,N,an,ae⟩:=W.p1 t x (t04 m)
   obtain⟨e,R,J,am⟩:=aQ o aj t B i f s N
   have aC:listed.getD i false=true:=by rw[←am];exact aV e R J
   have bA:(A i).2.1=true:=by
    have G:=aq.p3 i (List.getElem?_eq_some_iff.1 s).1 (List.getElem?_eq_some_iff.1 s).1
    rw[an,bQ.c _ _ bB]at G
    exact(oJ G).symm
   have aF:sk i=false:=by
    grind
   have:=(ay i f t aF (by simpa using s) N aC).1 bA
   rwa [ae]at this
  ·exact .inr B
 have bk:∀ t,Operand.tmp t∈o.op.operands->q03 T t=none->Good st be oe (G3 st.fr t) (a.tmps.getD t undef):=λt B bJ=>by
  have g:=ac.fr t
  have bH:G3 (I4 ops.toList st.fr) t=G3 st.fr t:=a01 λC bK V=>by
   obtain⟨i,ag,e⟩:=List.getElem_of_mem bK
   have au:ops.toList[i]?=some C:=by rw[List.getElem?_eq_getElem ag,e]
   obtain⟨bj,R,J,am⟩:=aQ o aj t B i C au V
   have ab:=bo j o al bj R J
   rw[am]at ab
   obtain⟨x,m⟩:=W.p2 i C t ab au V
   rw[bJ]at m;cases m
  rw[←bH]
  exact Good.fr (st := { st with fr:=I4 ops.toList st.fr }) (fr:=st.fr) g
 have a3:∀ t,Operand.tmp t∈o.op.operands->(∀ x,q03 T t=some x->V0i st be oe h' D x (a.tmps.getD t undef))/\(q03 T t=none->Good st be oe (G3 st.fr t) (a.tmps.getD t undef)):=λt B =>
  ⟨λx m=>(bX t x m).resolve_right λak=>ak B,bk t B⟩
 have mk:∀ {fr:List (Nat×AV)},(∀ t,Good st be oe (G3 fr t) (a.tmps.getD t undef))->Sim P h0 w0 be oe H { st with fr:=fr } h' a w:=λ{fr} g=>ac.refr (fr:=fr) λt=>Good.fr (g t)
 cases hA:(A j).2.2 with
 |pu av =>
  rw[hA]at L
  rcases L with L|L
  ·refine Oper.wp_mono (λad S m=>?_) (n0q (be:=be) (oe:=oe) (H:=H) (h:=h') L ar (λt=>?_) (λx m y aH=>?_) (λx m=>?_) (λx m=>?_) mk)
   ·obtain⟨v,be',oe',M,Z,⟨fr,s2⟩,Y,s⟩:=m
    exact fin (λ_ _ h=>h) Z s2 Y (λ_=>by rw[hA];exact s) (λh=>by rw[K]at h;cases h)
   ·grind
   ·obtain⟨E,⟨C,s,N⟩,an,ae⟩:=W.p4 x m
    obtain⟨i,f,a0,a1,cd,ce,cf⟩:=W.p1 x.d y (t04 aH)
    grind
   ·have aJ:∀(l:List BE),x∈l->∃ b,I02 l x.j=some b:=by
     intro l
     induction l with
     |nil=>intro h;cases h
     |cons z l aZ =>
      intro h
      simp only[I02]
      split
      ·exact⟨_,rfl⟩
      grind[absurd,Nat.ne_of_beq_eq_false]
    obtain⟨b,J⟩:=aJ D m
    obtain⟨bu,bt⟩:=w03 J
    obtain⟨_,⟨cg,aw,aL⟩,aM,ax⟩:=W.p4 b bu
    obtain⟨_,⟨ci,bf,bg⟩,bh,bi⟩:=W.p4 x m
    rw[bt]at aw aM ax
    rw[bf]at aw;cases aw
    rw[bg]at aL
    rw[bi]at ax
    have b4:x.d=b.d:=by simpa using aL
    have b5:x.ch=b.ch:=bh.symm.trans aM
    have b6:x.e=b.e:=by simpa using ax
    rw[J]
    obtain⟨b3,b1,be',b0⟩:=b
    obtain⟨ct,cq,cr,cp⟩:=x
    grind
   ·obtain⟨E,⟨C,s,N⟩,_,_⟩:=W.p4 x m
    exact W.p2 x.j C x.d E s N
  ·obtain⟨fr,R,g⟩:=N01 (acc:=[]) (be:=be) (oe:=oe) (val:=λt=>a.tmps.getD t undef) ar (λt=>trivial) (λt B=>a3 t (by simpa using B)) (T07 (bs:=D) (L h' aE) rfl)
   refine Oper.wp_mono (λad S m=>?_) (O9 (mk g) R)
   obtain⟨bd,st',O,v,be',oe',M,⟨rfl,rfl,rfl⟩,Z,s2,s,Y⟩:=m
   exact fin (λ_ _ h=>h) Z s2 ⟨Y.bl,Y.be,Y.sm⟩ (λ_=>by rw[hA];exact Good.fr (st := { st with fr:=fr }) (fr:=st.fr) s) (λh=>by rw[K]at h;cases h)
 |ef F =>
  rw[hA]at L
  obtain⟨_,L⟩:=L
  obtain⟨fr,R,g⟩:=N01 (acc:=[]) (be:=be) (oe:=oe) (val:=λt=>a.tmps.getD t undef) ar (λt=>trivial) (λt B=>a3 t (by simpa using B)) (T07 (bs:=D) (L h' aE) rfl)
  refine Oper.wp_mono (λad S m=>?_) (v0k (mk g) R)
  obtain⟨bd,st',O,v,be',oe',M,bE,Z,s2,s,Y⟩:=m
  obtain⟨ck,I,⟨B,a0,a1⟩,ba,bn⟩:=K02 s2 s bE
  obtain⟨r,rfl⟩:=r0s B
  have ap:Q6 st be oe st be' oe':=by
   have aA:=Y.trans bn
   refine⟨aA.bl,aA.be,λi a9 aW=>?_⟩
   obtain⟨s1,a4,cj,a5⟩:=aA.sm i a9 aW
   have a6:stamp { n:=st.n,fr:=fr,bx:=st.bx,ow:=st.ow++r } i=some a9:=j0h (st := { st with fr:=fr }) aW
   grind
  have bv:∀ i cs ty,nth st.bx i=some (.live cs ty)->∃ vs,G2 { st with fr:=fr } oe' cs vs/\M (be' i)=some (.cells vs.toArray ty (0,0)):=λi cs ty ag=>by
   obtain⟨_,X,a4,_⟩:=ac.box i cs ty ag
   obtain⟨_,vs,a5,a6⟩:=ba.box i cs ty ag
   refine⟨vs,?_,a6⟩
   have aJ:∀(cs:List N5) (X vs:List Value),G2 { st with fr:=I4 ops.toList st.fr } oe cs X->G2 { n:=st.n,fr:=fr,bx:=st.bx,ow:=st.ow++r } oe' cs vs->G2 { st with fr:=fr } oe' cs vs:=by
    intro cs
    induction cs with
    |nil=>intro X vs _ g;cases vs with
     |nil=>trivial
     |cons v vs=>exact g.elim
    |cons c cs aZ =>
     intro X vs az E
     cases X with
     |nil=>exact az.elim
     |cons cn X =>
      cases vs with
      |nil=>exact E.elim
      |cons co vs =>
       refine⟨?_,aZ X vs az.2 E.2⟩
       cases c with
       |val x=>exact E.1
       |own k s1 =>
        obtain⟨bb,a7,_,_⟩:=az.1
        obtain⟨cl,a8,bS,bT⟩:=E.1
        have bU:stamp { n:=st.n,fr:=fr,bx:=st.bx,ow:=st.ow++r } k=some bb:=j0h (st := { st with fr:=fr }) a7
        rw[bU]at a8
        cases a8
        exact⟨bb,a7,bS,bT⟩
   exact aJ cs X vs a4 a5
  have bW:Sim P h0 w0 be' oe' M { st with fr:=fr } I a S:=Sim.untail (st := { st with fr:=fr }) (t:=r) ba (λu=>Good.grow (st := { st with fr:=fr }) (st' := { st with fr:=fr }) ⟨ap.bl,ap.be,ap.sm⟩ (Good.fr (g u))) bv
  exact fin (fr:=fr) a0 Z bW ap (λ_=>by rw[hA];exact a1) (λh=>by rw[K]at h;cases h)
theorem L09.start{ops:Array Oper}{st:St}{A:Asg}{sk:Nat->Bool}(f:Sim P h0 w0 be oe H st h a w):L09 P h0 w0 ops st h A sk [] (Array.replicate ops.size false) a w:=by
 refine⟨be,oe,H,h,λ_ _ h=>h,f.refr (fr:=I4 ops.toList st.fr) λt=>?_,λp k=>(by cases k),λj o d _ c e b=>?_⟩
 ·by_cases hx:∃ o∈ops.toList,o.dst=some t
  ·obtain⟨o,c,e⟩:=hx
   rw[b02 c e]
   trivial
  ·rw[a01 λo i g=>hx ⟨o,i,g⟩]
   exact f.fr t
 ·simp[Array.getElem?_replicate]at b
  split at b<;>cases b
theorem x0n{ops:Array Oper}{st:St}{A:Asg}{sk:Nat->Bool}{kp:List (Nat×Value)}{q:FL}{D:List BE}{K:St->Hp->Prop}{listed:Array Bool}
  (T:∀ i,sk i=true->(A i).2.2 = .pu (.val undef)) (Y:∀(i j:Nat) (b B:Oper) (d:Nat),ops.toList[i]?=some b->ops.toList[j]?=some B->b.dst=some d->B.dst=some d->i=j)
  (c:M0g ops.toList A q D ops.toList.length) (N:∀ h',Sub h h'->W08 h' q st.fr λfr=>K { st with fr:=fr } h') (ab:∀ j,j<ops.size->listed.getD j false=true)
  (f:L09 P h0 w0 ops st h A sk kp listed a w):∃ be oe H h' fr,K { st with fr:=fr } h'/\Sim P h0 w0 be oe H { st with fr:=I4 ops.toList st.fr } h' a w/\(∀ p∈kp,a.tmps.getD p.1 undef=p.2) /\
   ∀ t,(∀(i:Nat) (b:Oper),ops.toList[i]?=some b->b.dst=some t->sk i=false)->Good st be oe (G3 fr t) (a.tmps.getD t undef):=by
 obtain⟨be,oe,H,h',S,W,keep,X⟩:=f
 have M:∀ t,(∃(i:Nat) (b:Oper),ops.toList[i]?=some b/\b.dst=some t/\sk i=true) ∨ ¬ ∃(i:Nat) (b:Oper),ops.toList[i]?=some b/\b.dst=some t/\sk i=true:=λt=>Classical.em _
 have l:∃ val:Nat->Value,∀ t,((∃(i:Nat) (b:Oper),ops.toList[i]?=some b/\b.dst=some t/\sk i=true)->val t=undef)/\((¬ ∃(i:Nat) (b:Oper),ops.toList[i]?=some b/\b.dst=some t/\sk i=true)->val t=a.tmps.getD t undef) :=
  Classical.axiomOfChoice (r:=λt v=>((∃(i:Nat) (b:Oper),ops.toList[i]?=some b/\b.dst=some t/\sk i=true)->v=undef)/\((¬ ∃(i:Nat) (b:Oper),ops.toList[i]?=some b/\b.dst=some t/\sk i=true)->v=a.tmps.getD t undef)) λt=>by
   rcases M t with h|h
   ·exact⟨undef,λ_=>rfl,λn=>absurd h n⟩
   grind
 obtain⟨val,l⟩:=l
 obtain⟨fr,aa,g⟩:=i0h (st:=st) (be:=be) (oe:=oe) (val:=val) (λp R J=>by
  obtain⟨t,x⟩:=p
  obtain⟨i,b,h0,E,F,G,I⟩:=c.p1 t x R
  cases hsk:sk i with
  |true =>
   have e:=(l t).1 ⟨i,b,E,F,hsk⟩
   have s:=T i hsk
   rw[I]at s
   show G05 st be oe h' x.2 (val t)
   rw[s,e];exact rfl
  |false =>
  have u : ¬ ∃(i:Nat) (b:Oper),ops.toList[i]?=some b/\b.dst=some t/\sk i=true:=λ⟨k,C,o,z,U⟩=>by
   grind
  have Z:(A i).2.1=true:=by
   have:=c.p3 i h0 h0
   rw[G,show x.1 = [] from J]at this
   exact(oJ this).symm
  grind) (λt y=>by
  have u : ¬ ∃(i:Nat) (b:Oper),ops.toList[i]?=some b/\b.dst=some t/\sk i=true:=λ⟨k,C,o,z,U⟩=>by
   obtain⟨x,m⟩:=c.p2 k C t (List.getElem?_eq_some_iff.1 o).1 o z
   exact y x (t04 m)
  rw[(l t).2 u]
  have O:G3 (I4 ops.toList st.fr) t=G3 st.fr t:=a01 λV Q L=>by
   obtain⟨i,f,e⟩:=List.getElem_of_mem Q
   obtain⟨x,m⟩:=c.p2 i V t f (by rw[List.getElem?_eq_getElem f,e]) L
   exact y x (t04 m)
  have:=W.fr t
  rw[O]at this
  exact Good.fr (st := { st with fr:=I4 ops.toList st.fr }) (fr:=st.fr) this) (N h' S)
 grind
theorem P06:∀ {l:List Oper},h0e l=true->∀ o∈l,∀ i w,o.guard=some (i,w)->V7 i o=true
 | [],h,o,a=>by cases a
 |y::r,h,o,a=>by
  simp only[h0e,Bool.and_eq_true]at h
  rcases List.mem_cons.1 a with rfl|a
  ·grind
  ·exact P06 h.2 o a
theorem L0u{ops:Array Oper}{Q:Exit->Act->World->Prop}{Inv:Array Bool->Act->World->Prop}(hB:∀(k:Nat) (o:Oper),ops.toList[k]?=some o->∀ e∈o.after,Region.binds .any e=true->e.on<k)
  (hstep:∀ listed a w j o,ops[j]?=some o->(∀ e∈o.after,Region.binds .any e=true->listed.getD e.on false=true)->Inv listed a w ->
   (Region.wanted o (yielded ops a.tmps)=true->o.wp P a w (Inv (listed.setIfInBounds j true)) Q)/\(Region.wanted o (yielded ops a.tmps)=false->Inv (listed.setIfInBounds j true) (a.put o.dst undef) w))
  (hQ:∀ listed a w,(∀ j,j<ops.size->listed.getD j false=true)->Inv listed a w->Q .normal a w) :
  ∀(fuel:Nat) (listed:Array Bool) (a:Act) (w:World),listed.size=ops.size->listed.toList.count true+fuel=ops.size->Inv listed a w->wpAny P .any ops Q fuel listed a w
 |0,listed,a,w,hsz,hc,hi=>by
  have hall':∀ j,j<ops.size->listed.getD j false=true:=λj hj=>by
   have h1:∀ b∈listed.toList,true=b:=List.count_eq_length.1 (by grind)
   have hlt:j<listed.size:=by omega
   have:=h1 listed[j] (by simp)
   simp[hlt,←this]
  refine⟨?_,hQ listed a w hall' hi⟩
  simp_all[Region.ready,List.mem_cons_self,mem_ready,Array.getElem?_eq_some_iff]
 |fuel+1,listed,a,w,hsz,hc,hi=>by
  refine⟨λhr=>hQ listed a w (e0c hB hsz hr) hi,λj hj=>?_⟩
  obtain⟨h1,o,h2,h3⟩:=mem_ready.1 hj
  unfold wpOp
  simp only[h2]
  obtain⟨ht,hf⟩:=hstep listed a w j o h2 h3 hi
  have next:∀ a' w',Inv (listed.setIfInBounds j true) a' w'->wpAny P .any ops Q fuel (listed.setIfInBounds j true) a' w':=λa' w' hi'=>L0u hB hstep hQ fuel _ a' w' (by simpa using hsz) (by rw[count_set h1];omega) hi'
  cases hw:Region.wanted o (yielded ops a.tmps)with
  |true =>
   rw[if_pos rfl]
   exact .inl (Oper.wp_mono next (ht hw))
  |false =>
   grind
theorem w0t{ops:Array Oper}{Q:Exit->Act->World->Prop}{Inv:Array Bool->Act->World->Prop}(hB:∀(k:Nat) (o:Oper),ops.toList[k]?=some o->∀ e∈o.after,Region.binds .any e=true->e.on<k)
  (hstep:∀ listed a w j o,ops[j]?=some o->(∀ e∈o.after,Region.binds .any e=true->listed.getD e.on false=true)->Inv listed a w ->
   (Region.wanted o (yielded ops a.tmps)=true->o.wp P a w (Inv (listed.setIfInBounds j true)) Q)/\(Region.wanted o (yielded ops a.tmps)=false->Inv (listed.setIfInBounds j true) (a.put o.dst undef) w))
  (hQ:∀ listed a w,(∀ j,j<ops.size->listed.getD j false=true)->Inv listed a w->Q .normal a w) :
  ∀(l:List Oper) (k:Nat) (listed:Array Bool) (a:Act) (w:World),(∀ j,l[j]?=ops.toList[k+j]?)->k+l.length=ops.size->listed.size=ops.size->(∀ j,j<k->listed.getD j false=true)->Inv listed a w->wpList P ops Q l a w
 | [],k,listed,a,w,hl,hk,hsz,hp,hi=>hQ listed a w (λj hj=>hp j (by simp at hk;omega)) hi
 |o::l,k,listed,a,w,hl,hk,hsz,hp,hi=>by
  have ho:ops.toList[k]?=some o:=by simpa using (hl 0).symm
  have hl':∀ j,l[j]?=ops.toList[k+1+j]?:=λj=>by have:=hl (j+1);grind
  obtain⟨ht,hf⟩:=hstep listed a w k o (by simpa using ho) (λe he hb=>hp _ (hB k o ho e he hb)) hi
  have next:∀ a' w',Inv (listed.setIfInBounds k true) a' w'->wpList P ops Q l a' w':=λa' w' hi' =>
   w0t hB hstep hQ l (k+1) _ a' w' hl' (by grind) (by simpa using hsz) (λj hj=>by
    by_cases e:k=j
    ·subst e
     have:k<listed.size:=by grind
     simp[this]
    ·rw[getD_set_ne false e];exact hp j (by omega)) hi'
  unfold wpList
  cases hw:Region.wanted o (yielded ops a.tmps)with
  |true =>
   rw[if_pos rfl]
   exact .inl (Oper.wp_mono next (ht hw))
  |false =>
   grind
theorem w0k{ops:Array Oper}{st:St}{K:St->Hp->Prop}{Q:Exit->Act->World->Prop}(hb:E03 st.n ops.toList=true)(he:evU P ops.toList 0 [] [] st h K)
  (hQ:∀ a w st h be oe H,K st h->Sim P h0 w0 be oe H st h a w->Q .normal a w) :
  (∀ {be:Nat->Nat} {oe:Nat->Value} {H:Hp} {a:Act} {w:World},Sim P h0 w0 be oe H st h a w->wpAny P .any ops Q ops.size (Array.replicate ops.size false) a w) /\
  (∀ {be:Nat->Nat} {oe:Nat->Value} {H:Hp} {a:Act} {w:World},Sim P h0 w0 be oe H st h a w->wpList P ops Q ops.toList a w):=by
 simp only[E03,w02,Bool.and_eq_true]at hb
 obtain⟨⟨⟨b1,b2⟩,b3⟩,b4⟩:=hb
 obtain⟨hn,hD⟩:=O04 b1
 have hB:∀(k:Nat) (o:Oper),ops.toList[k]?=some o->∀ e∈o.after,Region.binds .any e=true->e.on<k:=λk o hk e he' hb=>by
  have:=x03 b2 k o hk e he' hb
  omega
 have hdep:=N06 b3
 have hgd:=P06 b4
 obtain⟨A,Lf,Bf,_,_,hP,hall,hfin⟩:=V0e (ops:=ops.toList) hD ops.toList 0 [] [] (λ_=>([],true,.pu .dead)) (λj=>by simp) (by simp)
  ⟨λt x h=>(by cases h),λi oi d hi=>by omega,λi hi=>by omega,λx hx=>(by cases hx)⟩ he
 have step:∀ listed a w j o,ops[j]?=some o->(∀ e∈o.after,Region.binds .any e=true->listed.getD e.on false=true)->L09 P h0 w0 ops st h A (λ_=>false) [] listed a w ->
   (Region.wanted o (yielded ops a.tmps)=true->o.wp P a w (L09 P h0 w0 ops st h A (λ_=>false) [] (listed.setIfInBounds j true)) Q)/\(Region.wanted o (yielded ops a.tmps)=false->L09 P h0 w0 ops st h A (λ_=>false) [] (listed.setIfInBounds j true) (a.put o.dst undef) w) :=
  λlisted a w j o h1 h2 h3=>v0t hD hn hB hdep hgd hP (λj o ho=>hall j o (Nat.zero_le _) ho) rfl (λ_ _ _ _ _ h=>nomatch h) (λ_ h=>nomatch h) (λ_ hp=>nomatch hp) h1 h2 h3
 have done:∀ listed a w,(∀ j,j<ops.size->listed.getD j false=true)->L09 P h0 w0 ops st h A (λ_=>false) [] listed a w->Q .normal a w:=λlisted a w hl hi=>by
  obtain⟨be,oe,H,h',fr,hk,s,_,g⟩:=x0n (sk:=λ_=>false) (λ_ h=>nomatch h) hD hP hfin hl hi
  exact hQ a w _ h' be oe H hk (s.refr (fr:=fr) λt=>Good.fr (g t λ_ _ _ _=>rfl))
 refine⟨λs=>?_,λs=>?_⟩
 ·exact L0u hB step done ops.size _ _ _ (by simp) (by simp[List.count_replicate]) (L09.start s)
 ·exact w0t hB step done ops.toList 0 _ _ _ (λj=>by simp) (by simp) (by simp) (λj hj=>by omega) (L09.start s)
end
def M03(H:Hp):List (Nat×Obj)->Hp
 | []=>H
 |p::l=>(M03 H l).set p.1 p.2
theorem y03{H:Hp}{b:Nat}:∀ {l:List (Nat×Obj)},(∀ p∈l,p.1≠b)->M03 H l b=H b
 | [],_=>rfl
 |p::l,h=>by
  rw[M03,Hp.set_other _ _ λe=>h p mS e.symm]
  exact y03 λq a=>h q (mC _ a)
theorem Q04{H:Hp}:∀ {l:List (Nat×Obj)},(l.map λp=>p.1).Nodup->∀ {p:Nat×Obj},p∈l->M03 H l p.1=some p.2
 | [],_,p,h=>nomatch h
 |q::l,a,p,h=>by
  rw[List.map_cons,List.nodup_cons]at a
  rcases List.mem_cons.1 h with rfl|h
  ·exact Hp.set_same _ _ _
  ·rw[M03,Hp.set_other _ _ λe=>a.1 (List.mem_map.2 ⟨p,h,e⟩)]
   exact Q04 a.2 h
theorem W07{H:Hp}{l:List (Nat×Obj)}(b:Nat):(∃ p∈l,p.1=b)∨∀ p∈l,p.1≠b:=by
 grind
theorem W0e{a H:Hp}{f w:World}{l:List (Nat×Obj)}(k:Vis (M03 a l) f)(i:∀ p∈l,a p.1=none/\p.1<f.heap.size)(g:(l.map λp=>p.1).Nodup)(m:U2 a f H w):
  U2 (M03 a l) f (M03 H l) w:=by
 refine⟨m.os,m.tape,m.output,m.size,λb e j=>?_,λb o c=>?_,λb e=>?_,m.fz,m.dn⟩
 ·rcases W07 (H:=a) (l:=l) b with⟨p,d,rfl⟩|c
  ·grind[Q04]
  ·rw[y03 c]at j;exact m.keep b e j
 ·rcases W07 (H:=a) (l:=l) b with⟨p,d,rfl⟩|h
  ·rw[Q04 g d]at c;cases c
   rw[m.keep p.1 (i p d).2 (i p d).1]
   exact k p.1 _ (Q04 g d)
  ·rw[y03 h]at c;exact m.vis b o c
 ·rcases W07 (H:=a) (l:=l) b with⟨p,d,rfl⟩|h
  ·grind[Q04]
  ·rw[y03 h]at e ⊢
   exact m.fresh b e
section
variable {P:Program} {h0:Hp} {w0:World} {be:Nat->Nat} {oe:Nat->Value} {H:Hp} {h:Hp} {a:Act} {w:World}
theorem Sim.base{st:St}(b:Sim P h0 w0 be oe H st h a w){c:Hp}{e d:World}(m:U2 c e H d):Sim P c e be oe H st h a d :=
 ⟨m,b.sub,b.box,b.pub,b.own,b.frz,b.bb,b.oo,b.bo,b.dfr,b.siz,b.fr⟩
theorem Sim.more{st:St}(c:Sim P h0 w0 be oe H st h a w){l:List (Nat×Obj)}(v:∀ p∈l,H p.1=none){j:Hp}{n:World}(m:U2 j n (M03 H l) w):Sim P j n be oe (M03 H l) st h a w:=by
 have keep:∀ b,H b≠none->M03 H l b=H b:=λb d=>y03 λp x e=>d (by grind)
 refine⟨m,λb o d=>by rw[keep b (by rw[c.sub b o d];simp)];exact c.sub b o d,λi cs ty f=>?_,c.pub,λi k e sz by_ nn xs f=>?_,c.frz,c.bb,c.oo,c.bo,c.dfr,c.siz,c.fr⟩
 ·obtain⟨s,vs,t,u⟩:=c.box i cs ty f
  grind
 ·refine(c.own i k e sz by_ nn xs f).keep λg q=>?_
  obtain⟨y,_,_,_,z⟩:=(c.own i k e sz by_ nn xs f).block q
  grind
theorem Sim.claim{st:St}(c:Sim P h0 w0 be oe H st h a w){cs:List N5}{vs:List Value}{t:TypeId}{b:Nat}(D:G2 st oe cs vs)(C:H b=some (.cells vs.toArray t (0,0)))(E:h b=none)
  (J:∀ i cs ty,nth st.bx i=some (.live cs ty)->be i≠b) (K:∀ i s e sz by_ nn xs g,nth st.ow i=some ⟨s,.live e sz by_ nn xs⟩->(oe i).ownBlock=some g->g≠b) :
  let be':=λj=>if j=st.bx.length then b else be j
  let st':St := { st with bx:=st.bx ++ [.live cs t] }
  Sim P h0 w0 be' oe H st' h a w/\Q6 st be oe st' be' oe:=by
 intro be' st'
 have l:Q6 st be oe st' be' oe:=by
  refine⟨by simp[st'],λi d=>?_,λi c F=>⟨c,F,Nat.le_refl _,λ_=>rfl⟩⟩
  grind
 have m:∀ i cs ty,nth st.bx i=some (.live cs ty)->be' i=be i:=λi cs ty d=>by simp[be',Nat.ne_of_lt (K01 d)]
 have k:∀ i x,nth st'.bx i=some x->(i=st.bx.length/\x = .live cs t)∨(i≠st.bx.length/\nth st.bx i=some x):=by
  grind[k02]
 refine⟨⟨c.mv,c.sub,?_,?_,c.own,c.frz,?_,c.oo,?_,c.dfr,c.siz,λt=>(c.fr t).grow l⟩,l⟩
 ·intro i cs' ty d
  rcases k i _ d with⟨rfl,e⟩|⟨e,f⟩
  ·cases e
   exact⟨by simp[be',E],vs,D.grow l,by simp[be',C]⟩
  ·obtain⟨z,I,A,B⟩:=c.box i cs' ty f
   rw[m i cs' ty f]
   exact⟨z,I,A.grow l,B⟩
 ·intro i u d
  rcases k i _ d with⟨_,e⟩|⟨e,f⟩
  ·cases e
  ·simp[be',e,c.pub i u f]
 ·intro i j v G L M d o e
  rcases k i _ d with⟨rfl,n⟩|⟨n,f⟩<;>rcases k j _ o with⟨rfl,y⟩|⟨y,q⟩
  ·rfl
  ·grind
  ·grind
  ·rw[m i _ _ f,m j _ _ q]at e;exact c.bb i j _ _ _ _ f q e
 ·intro i v G j s e sz by_ nn xs d o p
  rcases k i _ d with⟨rfl,n⟩|⟨n,f⟩
  ·grind
  ·rw[m i _ _ f]at p;exact c.bo i _ _ j _ _ _ _ _ _ f o p
def K0a(a:Act)(d:Nat):Nat:=match a.tmps.getD d undef with
 | .pointer (some ⟨b,_,_⟩)=>b
 |_=>0
theorem g06{a:Act}{d b:Nat}(e:a.tmps.getD d undef=ptr b 0):K0a a d=b:=by
 unfold K0a;rw[e];rfl
def i0v(P:Program)(H h:Hp)(a:Act)(n:Nat)(o:Oper):Prop:=D04 o=true->∃ d t z,o.op = .alloc t/\o.dst=some d/\d<n/\K00 P t=some z/\a.tmps.getD d undef=ptr (K0a a d) 0/\H (K0a a d)=some (.cells z.cells t (0,0))/\h (K0a a d)=none
def j0v(a:Act)(o c:Oper):Prop:=D04 o=true->D04 c=true->∀ d b,o.dst=some d->c.dst=some b->K0a a d≠K0a a b
theorem W0i{st:St}{h:Hp}{d:Nat}:G07 ⟨st,h,[],[]⟩ d=false:=rfl
theorem v0m{K:St->Hp->Prop}{fd:List (Nat×AV)}:∀(l:List Oper) (st:St) (be:Nat->Nat),Sim P h0 w0 be oe H { st with fr:=fd } h a w ->
  (∀ t,(∀ o∈l,D04 o=true->o.dst≠some t)->Good st be oe (G3 st.fr t) (a.tmps.getD t undef))->(∀ o∈l,i0v P H h a st.n o)->l.Pairwise (j0v a) ->
  (∀ i cs ty,nth st.bx i=some (.live cs ty)->∀ o∈l,D04 o=true->∀ d,o.dst=some d->be i≠K0a a d) ->
  (∀ i k e sz by_ nn xs g,nth st.ow i=some ⟨k,.live e sz by_ nn xs⟩->(oe i).ownBlock=some g->∀ o∈l,D04 o=true->∀ d,o.dst=some d->g≠K0a a d) ->
  doA (K03 P) l st h K->∃ st' be',K st' h/\Sim P h0 w0 be' oe H st' h a w
 | [],st,be,x,q,_,_,_,_,j=>⟨st,be,j,x.refr (fr:=st.fr) λt=>Good.fr (st:=st) (q t λo p=>nomatch p)⟩
 |o::l,st,be,x,q,y,s,A,p,j=>by
  rw[List.pairwise_cons]at s
  have j:(match D04 o with
   |true=>K03 P o st h λst h=>doA (K03 P) l st h K
   |false=>doA (K03 P) l st h K):=j
  cases hal:D04 o with
  |false =>
   rw[hal]at j
   exact v0m l st be x (λt T=>q t λc b F=>by
    grind) (λc b=>y c (mC _ b)) s.2 (λi cs ty f c b=>A i cs ty f c (mC _ b)) (λi k e sz by_ nn xs g f m c b=>p i k e sz by_ nn xs g f m c (mC _ b)) j
  |true =>
   rw[hal]at j
   obtain⟨d,t,z,N,v,V,O,Q,B,R⟩:=y o mS hal
   simp only[K03,c8,N,O,S0b,v,A0e,W0i]at j
   have J:Nat.blt d (st.withBx (st.bx ++ [.live (vals z.cells.toList) t])).n=true:=by
    grind
   simp only[J]at j
   obtain⟨n,fr,bx,ow⟩:=st
   have M:doA (K03 P) l ⟨n,(d,.box bx.length 0)::fr,bx ++ [.live (vals z.cells.toList) t],ow⟩ h K:=j
   have I:z.cells=z.cells.toList.toArray:=by simp
   rw[I]at B
   obtain⟨s2,E⟩:=x.claim (G2.vals _ oe _) B R (λi cs ty f=>A i cs ty f o mS hal d v) (λi k e sz by_ nn xs g f m=>p i k e sz by_ nn xs g f m o mS hal d v)
   refine v0m l ⟨n,(d,.box bx.length 0)::fr,bx ++ [.live (vals z.cells.toList) t],ow⟩ _ s2 (λu U=>?_) (λc b=>y c (mC _ b)) s.2 (λi cs ty f c b G C L=>?_) (λi k e sz by_ nn xs g f m c b=>p i k e sz by_ nn xs g f m c (mC _ b)) M
   ·show Good _ _ _ (G3 ((d,.box bx.length 0)::fr) u) _
    rw[Y3]
    split
    ·rename_i e
     subst e
     refine⟨by simp,?_⟩
     rw[Q];simp
    ·rename_i e
     have D:=q u λc b F S=>by
      grind
     exact Good.fr (st:=⟨n,fd,bx ++ [.live (vals z.cells.toList) t],ow⟩) (Good.grow E (Good.fr (st:=⟨n,fr,bx,ow⟩) (fr:=fd) D))
   ·simp only[k02]at f
    split at f
    ·rename_i e
     subst e
     simp only[if_pos]
     exact s.1 c b hal G d C v L
    grind
theorem t05{d:Nat}:∀ {l:List Operand},K07 d l=false->Operand.tmp d ∉ l
 | [],_,h=>nomatch h
 |x::r,a,h=>by
  rcases List.mem_cons.1 h with e|b
  ·subst e
   simp[K07]at a
  ·cases x<;>simp only[K07,Bool.or_eq_false_iff]at a
   ·exact t05 a.2 b
   all_goals exact t05 a b
theorem r0d{d:Nat}:∀ {l:List Oper},E0e d l=false->∀ o∈l,Operand.tmp d ∉ o.op.operands
 | [],_,o,h=>nomatch h
 |y::r,a,o,h=>by
  simp only[E0e,Bool.or_eq_false_iff]at a
  rcases List.mem_cons.1 h with rfl|h
  ·exact λb=>t05 a.1 (by simpa using b)
  ·exact r0d a.2 o h
theorem x0k{all:List Oper}:∀ {l:List Oper},okA P all l=true->∀ o∈l,D04 o=true->∃ t d z,o.op = .alloc t/\o.guard=none/\o.dst=some d/\K00 P t=some z/\∀ c∈all,Operand.tmp d ∉ c.op.operands
 | [],_,o,h,_=>nomatch h
 |y::r,a,o,h,b=>by
  simp only[okA,Bool.and_eq_true]at a
  rcases List.mem_cons.1 h with rfl|h
  ·grind[D04,r0d]
  ·exact x0k a.2 o h b
theorem y0k{o:Oper}(h:D04 o=false):p00 o=o:=by
 grind[p00,D04]
theorem s8(o:Oper):(p00 o).dst=o.dst:=by unfold p00;split<;>rfl
theorem z0k(o:Oper):(p00 o).after=o.after:=by unfold p00;split<;>rfl
theorem A0k(o:Oper):(p00 o).guard=o.guard:=by unfold p00;split<;>rfl
theorem t8:∀(l:List Oper) (i:Nat),(Y5 l)[i]?=(l[i]?).map p00
 | [],i=>by simp[Y5]
 |o::r,0=>by simp[Y5]
 |o::r,i+1=>by simp[Y5,t8 r i]
theorem k0h:∀(l:List Oper),(Y5 l).length=l.length
 | []=>rfl
 |o::r=>by simp[Y5,k0h r]
theorem B0k{o:Oper}{d:Nat}(h:Operand.tmp d∈(p00 o).op.operands):Operand.tmp d∈o.op.operands:=by
 grind[D04,y0k,p00,Op.operands]
abbrev k0v:=List (Nat×Nat×Obj)
def skA(a:List Oper)(i:Nat):Bool:=match a[i]? with
 |some o=>D04 o
 |none=>false
def h0c(P:Program)(h0:Hp)(w0:World)(e:List Oper)(st:St)(h:Hp)(A:Asg)(listed:Array Bool)(a:Act)(w:World):Prop :=
 ∃(c:k0v) (f:Hp) (g:World),U2 h0 w0 (M03 f (c.map λp=>p.2)) g/\(∀ p∈c,f p.2.1=none/\p.2.1<g.heap.size)/\((c.map λp=>p.2).map λp=>p.1).Nodup /\
  L09 P f g (Y5 e).toArray st h A (skA e) (c.map λp=>(p.1,ptr p.2.1 0)) listed a w /\
  (∀(j:Nat) (o:Oper) t d z,e[j]?=some o->o.op = .alloc t->o.dst=some d->K00 P t=some z->listed.getD j false=true->∃ b,(d,b,Obj.cells z.cells t (0,0))∈c) /\
  ∀ p∈c,∃(j:Nat) (o:Oper),e[j]?=some o/\D04 o=true/\o.dst=some p.1/\listed.getD j false=true
theorem h0c.start{f:List Oper}{st:St}{A:Asg}{m:Nat}(g:Sim P h0 w0 be oe H st h a w):h0c P h0 w0 f st h A (Array.replicate m false) a w:=by
 refine⟨[],H,w,g.mv,λp b=>(by cases b),by simp,?_,λj o t d z _ _ _ _ e=>?_,λp b=>(by cases b)⟩
 ·have l:Sim P H w be oe H st h a w:=g.base (U2.refl g.mv.vis)
  refine⟨be,oe,H,h,λ_ _ h=>h,l.refr (fr:=I4 (Y5 f) st.fr) λt=>?_,λp b=>(by cases b),λj o d _ i k c=>?_⟩
  ·by_cases hx:∃ o∈Y5 f,o.dst=some t
   ·obtain⟨o,i,k⟩:=hx
    rw[b02 i k]
    trivial
   ·rw[a01 λo q n=>hx ⟨o,q,n⟩]
    exact l.fr t
  ·simp[Array.getElem?_replicate]at c
   split at c<;>cases c
 ·simp[Array.getElem?_replicate]at e
  split at e<;>cases e
theorem x0t{f:List Oper}{st:St}{A:Asg}{aq:FL}{X:List BE}{listed:Array Bool}{j:Nat}{o:Oper}{Q:Exit->Act->World->Prop}
  (ab:∀(i j:Nat) (l an:Oper) (d:Nat),(Y5 f)[i]?=some l->(Y5 f)[j]?=some an->l.dst=some d->an.dst=some d->i=j)
  (ac:∀ o∈Y5 f,∀ d,o.dst=some d->d<st.n)
  (ay:∀(k:Nat) (o:Oper),(Y5 f)[k]?=some o->∀ e∈o.after,Region.binds .any e=true->e.on<k)
  (aE:∀ o∈Y5 f,∀ t,Operand.tmp t∈o.op.operands->∀(i:Nat) (l:Oper),(Y5 f)[i]?=some l->l.dst=some t->∃ e∈o.after,Region.binds .any e=true/\e.on=i)
  (aF:∀ o∈Y5 f,∀ i w,o.guard=some (i,w)->V7 i o=true)
  (az:M0g (Y5 f) A aq X (Y5 f).length)
  (aB:∀ j o,(Y5 f)[j]?=some o->∃ Y I,d00 X o.guard=some (A j).1/\M0g (Y5 f) A Y I j/\Y08 I X/\cB I (A j).1=some (A j).2.1/\(OpU P st h Y I o (A j).1 (A j).2.1 (A j).2.2/\∀ av,l09 P Y I (A j).1 o st=some av->(A j).2.2 = .pu av))
  (aS:∀(i:Nat) (l:Oper) (d:Nat),(Y5 f)[i]?=some l->l.dst=some d->skA f i=true->∀ ae∈Y5 f,Operand.tmp d ∉ ae.op.operands)
  (aQ:∀ i,skA f i=true->(A i).2.2 = .pu (.val undef)) (aA:∀ o∈f,D04 o=true->∃ t d z,o.op = .alloc t/\o.guard=none/\o.dst=some d/\K00 P t=some z/\∀ ae∈f,Operand.tmp d ∉ ae.op.operands)
  (a5:listed.getD j true=false)
  (J:f[j]?=some o) (aO:∀ e∈o.after,Region.binds .any e=true->listed.getD e.on false=true) (aG:h0c P h0 w0 f st h A listed a w) :
  (Region.wanted o (yielded (Y5 f).toArray a.tmps)=true->o.wp P a w (h0c P h0 w0 f st h A (listed.setIfInBounds j true)) Q) /\
  (Region.wanted o (yielded (Y5 f).toArray a.tmps)=false->h0c P h0 w0 f st h A (listed.setIfInBounds j true) (a.put o.dst undef) w):=by
 obtain⟨s,R,W,ad,K,U,al,ah,aa⟩:=aG
 have aM:o∈f:=List.mem_of_getElem? J
 have G:(Y5 f)[j]?=some (p00 o):=by rw[t8,J];rfl
 have aK:listed.getD j false=false:=by
  grind
 have aJ:j<listed.size:=by
  grind
 have ax:∀ p∈s,∃(i:Nat) (l:Oper),(Y5 f)[i]?=some l/\l.dst=some p.1/\skA f i=true:=λp c=>by
  obtain⟨i,l,m,C,y,_⟩:=aa p c
  exact⟨i,p00 l,by rw[t8,m];rfl,by rw[s8];exact y,by unfold skA;rw[m];exact C⟩
 cases hisa:D04 o with
 |false =>
  have aH:=y0k hisa
  rw[aH]at G
  have aR:skA f j=false:=by unfold skA;rw[J];exact hisa
  have up:∀ Z D,L09 P R W (Y5 f).toArray st h A (skA f) (s.map λp=>(p.1,ptr p.2.1 0)) (listed.setIfInBounds j true) Z D->h0c P h0 w0 f st h A (listed.setIfInBounds j true) Z D:=λZ D aX=>by
   refine⟨s,R,W,ad,K,U,aX,λi l t d z m C y F N=>?_,λp c=>?_⟩
   ·by_cases e:j=i
    ·grind[D04]
    ·rw[getD_set_ne false e]at N
     exact ah i l t d z m C y F N
   grind[getD_set_true]
  have a7:=v0t (P:=P) (h0:=R) (w0:=W) (ops:=(Y5 f).toArray) (Q:=Q) (sk:=skA f) (kp:=s.map λp=>(p.1,ptr p.2.1 0)) (by simpa using ab) (by simpa using ac) (by simpa using ay) (by simpa using aE) (by simpa using aF) (by simpa using az) (by simpa using aB) aR (by simpa using aS) aQ (λp c=>by
   obtain⟨q,B,rfl⟩:=List.mem_map.1 c
   simpa using ax q B) (by simpa using G) aO al
  grind[Oper.wp_mono]
 |true =>
  obtain⟨t,d,z,aY,aZ,E,a0,a6⟩:=aA o aM hisa
  refine⟨λ_=>?_,λL=>?_⟩
  rotate_left
  ·unfold Region.wanted at L;rw[aZ]at L;cases L
  obtain⟨be,oe,H,h',aP,O,keep,aw⟩:=al
  have am:U2 h0 w0 (M03 H (s.map λp=>p.2)) w:=ad.trans (W0e ad.vis (λp c=>by
   obtain⟨q,B,rfl⟩:=List.mem_map.1 c
   exact K q B) U O.mv)
  have ag:∀ p∈s,H p.2.1=none:=λp c=>O.mv.none_of (K p c).2 (K p c).1
  have L:wpS P (execOp a.eval o) (M03 H (s.map λp=>p.2)) (λn af=>∃ b,M03 H (s.map λp=>p.2) b=none/\n = .value (ptr b 0)/\af=(M03 H (s.map λp=>p.2)).set b (.cells z.cells t (0,0))):=by
   unfold execOp;rw[aY]
   refine W7 _ _ _ ?_
   simp only[Instr.alloc,newVar,newRow,newObj,O2,D0a a0,D3,wpS]
   exact λb S=>⟨b,S,rfl,rfl⟩
  obtain⟨n,af,D,aN,⟨b,S,rfl,rfl⟩,T⟩:=G9 _ _ _ am.vis L
  refine E7 aN ?_
  have aj:∀ p∈s,p.2.1≠b:=λp c e=>by
   have:=Q04 (H:=H) U (List.mem_map.2 ⟨p,c,rfl⟩)
   rw[e,S]at this;cases this
  have ai:H b=none:=by
   rw[←S,y03]
   intro p c
   obtain⟨q,B,rfl⟩:=List.mem_map.1 c
   exact aj q B
  have aW:Vis H D:=λx a1 M=>by
   refine T.vis x a1 ?_
   rw[Hp.set_other _ _ λe=>by subst e;rw[ai]at M;cases M]
   rw[y03]
   ·exact M
   ·intro p c e
    obtain⟨q,B,rfl⟩:=List.mem_map.1 c
    rw[←e,ag q B]at M;cases M
  have aL:d<a.tmps.size:=by rw[O.siz];exact ac (p00 o) (List.mem_of_getElem? G) d (by rw[s8];exact E)
  have a4:(a.put o.dst (ptr b 0)).tmps.getD d undef=ptr b 0:=by rw[E];simp[Act.put,aL]
  have ap:∀ u,u≠d->(a.put o.dst (ptr b 0)).tmps.getD u undef=a.tmps.getD u undef:=λu aU=>by
   rw[E];simp[Act.put,Array.getElem?_setIfInBounds_ne (Ne.symm aU)]
  have a2:∀ p∈s,p.1≠d:=λp c e=>by
   obtain⟨i,l,m,C,y,F⟩:=aa p c
   have:=ab i j (p00 l) (p00 o) d (by rw[t8,m];rfl) G (by rw[s8,y,e]) (by rw[s8];exact E)
   subst this
   rw[aK]at F;cases F
  have s1:Sim P H D be oe H { st with fr:=I4 (Y5 f) st.fr } h' a D:=(by simpa using O:Sim P R W be oe H { st with fr:=I4 (Y5 f) st.fr } h' a w).base (U2.refl aW)
  have s2:Sim P H D be oe H { st with fr:=I4 (Y5 f) st.fr } h' (a.put o.dst (ptr b 0)) D:=by
   have c:=s1.put (d:=d) (av := .dead) (v:=ptr b 0) (ac (p00 o) (List.mem_of_getElem? G) d (by rw[s8];exact E)) trivial
   rw[E]
   refine c.refr (fr:=I4 (Y5 f) st.fr) λu=>?_
   have g:=c.fr u
   rw[Y3]at g
   split at g
   ·rename_i e
    subst e
    rw[b02 (List.mem_of_getElem? G) (by rw[s8];exact E)]
    trivial
   ·exact g
  refine⟨(d,b,.cells z.cells t (0,0))::s,H,D,?_,λp c=>?_,?_,⟨be,oe,H,h',aP,by simpa using s2,λp c=>?_,λi l u V m C y=>?_⟩,λi l a3 au z' m C y F N=>?_,λp c=>?_⟩
  ·exact am.trans T
  ·rcases List.mem_cons.1 c with rfl|c
   ·exact⟨ai,T.vis.lt (by rw[Hp.set_same];simp)⟩
   ·exact⟨ag p c,Nat.lt_of_lt_of_le (K p c).2 (Nat.le_trans O.mv.size T.size)⟩
  ·rw[List.map_cons,List.map_cons,List.nodup_cons]
   refine⟨λaD=>?_,U⟩
   obtain⟨q,B,e⟩:=List.mem_map.1 aD
   obtain⟨p,c,rfl⟩:=List.mem_map.1 B
   exact aj p c e
  ·rw[List.map_cons]at c
   rcases List.mem_cons.1 c with rfl|c
   ·exact a4
   ·obtain⟨q,B,rfl⟩:=List.mem_map.1 c
    rw[ap _ (a2 q B)]
    exact keep _ c
  ·have ak:j≠i:=λe=>by
    subst e
    have ao:D04 o=false:=by unfold skA at V;rw[J]at V;exact V
    rw[hisa]at ao;cases ao
   rw[getD_set_ne false ak]at y
   have aV:u≠d:=λe=>by
    subst e
    exact ak (ab j i (p00 o) l u G (by simpa using m) (by rw[s8];exact E) C)
   rw[ap u aV]
   exact aw i l u V m C y
  ·by_cases e:j=i
   ·grind[List.mem_cons_self]
   ·rw[getD_set_ne false e]at N
    obtain⟨ar,aC⟩:=ah i l a3 au z' m C y F N
    exact⟨ar,mC _ aC⟩
  ·rcases List.mem_cons.1 c with rfl|c
   ·exact⟨j,o,J,hisa,E,by simp[aJ]⟩
   ·obtain⟨i,l,m,C,y,F⟩:=aa p c
    exact⟨i,l,m,C,y,getD_set_true F⟩
theorem l0h{a m:Type}{f:a->m}:∀ {l:List a},(l.map f).Nodup->∀ {p q:a},p∈l->q∈l->f p=f q->p=q
 | [],_,p,q,h,_,_=>nomatch h
 |x::l,b,p,q,g,j,e=>by
  rw[List.map_cons,List.nodup_cons]at b
  rcases List.mem_cons.1 g with c|i<;>rcases List.mem_cons.1 j with d|k
  ·rw[c,d]
  ·grind
  ·grind
  ·exact l0h b.2 i k e
theorem t0s{c:List Oper}{st:St}{A:Asg}{T:FL}{ab:List BE}{K:St->Hp->Prop}{listed:Array Bool}
  (V:∀(i j:Nat) (L aa:Oper) (d:Nat),(Y5 c)[i]?=some L->(Y5 c)[j]?=some aa->L.dst=some d->aa.dst=some d->i=j)
  (am:∀ o∈Y5 c,∀ d,o.dst=some d->d<st.n)
  (ao:∀ i,skA c i=true->(A i).2.2 = .pu (.val undef)) (ai:∀ o∈c,D04 o=true->∃ t d z,o.op = .alloc t/\o.guard=none/\o.dst=some d/\K00 P t=some z/\∀ ar∈c,Operand.tmp d ∉ ar.op.operands)
  (ag:M0g (Y5 c) A T ab (Y5 c).length) (aj:∀ h',Sub h h'->W08 h' T st.fr λfr=>doA (K03 P) c { st with fr:=fr } h' K) (X:∀ j,j<c.length->listed.getD j false=true)
  (y:h0c P h0 w0 c st h A listed a w):∃ st' h' be oe H,K st' h'/\Sim P h0 w0 be oe H st' h' a w:=by
 obtain⟨M,aB,aH,Z,Y,R,ap,af,aC⟩:=y
 obtain⟨be,oe,H,h',fr,al,D,keep,g⟩:=x0n (K:=λst h=>doA (K03 P) c st h K) (ops:=(Y5 c).toArray) ao (by simpa using V) (by simpa using ag) aj (λj s=>X j (by simpa [k0h] using s)) ap
 have aq:U2 h0 w0 (M03 H (M.map λp=>p.2)) w:=Z.trans (W0e Z.vis (λp I=>by
  grind) R D.mv)
 have O:∀ p∈M,H p.2.1=none:=λp I=>D.mv.none_of (Y p I).2 (Y p I).1
 have aw:=D.more (l:=M.map λp=>p.2) (λp I=>by
  grind) aq
 have E:∀ o∈c,D04 o=true->∃ t d z b,o.op = .alloc t/\o.dst=some d/\K00 P t=some z/\(d,b,Obj.cells z.cells t (0,0))∈M/\a.tmps.getD d undef=ptr b 0:=λo u q=>by
  obtain⟨t,d,z,B,m,C,k,v⟩:=ai o u q
  obtain⟨j,s⟩:=List.getElem?_of_mem u
  obtain⟨b,G⟩:=af j o t d z s B C k (X j (List.getElem?_eq_some_iff.1 s).1)
  exact⟨t,d,z,b,B,C,k,G,keep _ (List.mem_map.2 ⟨_,G,rfl⟩)⟩
 have an:∀ b,H b=none->h' b=none:=λb G=>by
  cases e:h' b with
  |none=>rfl
  |some o=>rw[D.sub b o e]at G;cases G
 refine(v0m (K:=K) (fd:=I4 (Y5 c).toArray.toList st.fr) c { st with fr:=fr } be aw (λt aE=>?_) (λo u q=>?_) ?_ (λi cs ty y o u q d x=>?_) (λi ax e sz by_ nn xs aA y ak o u q d x=>?_) al).elim λst' J=>J.elim λbe' J=>⟨st',h',be',oe,_,J.1,J.2⟩
 ·refine Good.fr (st:=st) (fr:=fr) (g t λi L N S=>?_)
  have N:(Y5 c)[i]?=some L:=by simpa using N
  rw[t8]at N
  grind[D04,skA,absurd,s8,List.mem_of_getElem?]
 ·obtain⟨t,d,z,b,B,m,C,k,v⟩:=E o u q
  have Q:=g06 v
  obtain⟨j,s⟩:=List.getElem?_of_mem u
  refine⟨d,t,z,B,m,am (p00 o) (List.mem_of_getElem? (i:=j) (by rw[t8,s];rfl)) d (by rw[s8];exact m),C,by rw[Q];exact v,by rw[Q];exact Q04 R (List.mem_map.2 ⟨_,k,rfl⟩),by rw[Q];exact an b (O _ k)⟩
 ·rw[List.pairwise_iff_getElem]
  intro i j y s aD q ah d ac x W e
  obtain⟨t,U,z,b,B,m,C,k,v⟩:=E _ (List.getElem_mem y) q
  obtain⟨aG,az,z',ay,N,S,aF,au,av⟩:=E _ (List.getElem_mem s) ah
  rw[m]at x;cases x
  rw[S]at W;cases W
  rw[g06 v,g06 av]at e
  subst e
  have:=l0h (f:=λp:Nat×Nat×Obj=>p.2.1) (by have:=R;rw[List.map_map]at this;exact this) k au rfl
  have ae:d=ac:=congrArg Prod.fst this
  subst ae
  have:=V i j (p00 c[i]) (p00 c[j]) d (by rw[t8,List.getElem?_eq_getElem y];rfl) (by rw[t8,List.getElem?_eq_getElem s];rfl) (by rw[s8];exact m) (by rw[s8];exact S)
  omega
 ·obtain⟨t,U,z,b,B,m,C,k,v⟩:=E o u q
  rw[m]at x;cases x
  rw[g06 v]
  intro e
  obtain⟨_,vs,_,F⟩:=D.box i cs ty y
  rw[e,O _ k]at F;cases F
 ·obtain⟨t,U,z,b,B,m,C,k,v⟩:=E o u q
  rw[m]at x;cases x
  rw[g06 v]
  intro ad
  obtain⟨_,_,_,_,F⟩:=(D.own i ax e sz by_ nn xs y).block ak
  rw[ad,O _ k]at F;cases F
theorem M0u{ops:Array Oper}{Q:Exit->Act->World->Prop}{Inv:Array Bool->Act->World->Prop}(hB:∀(k:Nat) (o:Oper),ops.toList[k]?=some o->∀ e∈o.after,Region.binds .any e=true->e.on<k)
  (hstep:∀ listed a w j o,listed.size=ops.size->listed.getD j true=false->ops[j]?=some o->(∀ e∈o.after,Region.binds .any e=true->listed.getD e.on false=true)->Inv listed a w ->
   (Region.wanted o (yielded ops a.tmps)=true->o.wp P a w (Inv (listed.setIfInBounds j true)) Q)/\(Region.wanted o (yielded ops a.tmps)=false->Inv (listed.setIfInBounds j true) (a.put o.dst undef) w))
  (hQ:∀ listed a w,(∀ j,j<ops.size->listed.getD j false=true)->Inv listed a w->Q .normal a w) :
  ∀(fuel:Nat) (listed:Array Bool) (a:Act) (w:World),listed.size=ops.size->listed.toList.count true+fuel=ops.size->Inv listed a w->wpAny P .any ops Q fuel listed a w
 |0,listed,a,w,hsz,hc,hi=>by
  have hall':∀ j,j<ops.size->listed.getD j false=true:=λj hj=>by
   have h1:∀ b∈listed.toList,true=b:=List.count_eq_length.1 (by grind)
   have hlt:j<listed.size:=by omega
   have:=h1 listed[j] (by simp)
   simp[hlt,←this]
  refine⟨?_,hQ listed a w hall' hi⟩
  cases hr:Region.ready .any ops listed with
  |nil=>rfl
  |cons j r =>
   grind[Region.ready,List.mem_cons_self,mem_ready,Array.getElem?_eq_some_iff]
 |fuel+1,listed,a,w,hsz,hc,hi=>by
  refine⟨λhr=>hQ listed a w (e0c hB hsz hr) hi,λj hj=>?_⟩
  obtain⟨h1,o,h2,h3⟩:=mem_ready.1 hj
  unfold wpOp
  simp only[h2]
  obtain⟨ht,hf⟩:=hstep listed a w j o hsz h1 h2 h3 hi
  have next:∀ a' w',Inv (listed.setIfInBounds j true) a' w'->wpAny P .any ops Q fuel (listed.setIfInBounds j true) a' w':=λa' w' hi'=>M0u hB hstep hQ fuel _ a' w' (by simpa using hsz) (by rw[count_set h1];omega) hi'
  cases hw:Region.wanted o (yielded ops a.tmps)with
  |true =>
   rw[if_pos rfl]
   exact .inl (Oper.wp_mono next (ht hw))
  |false =>
   grind
theorem i0c{x:Nat}:∀ {l:List Nat},o0m x l=true↔x∈l
 | []=>by simp[o0m]
 |y::r=>by
  simp only[o0m,Bool.or_eq_true,List.mem_cons,i0c (l:=r)]
  simp_all
theorem m0h{ops:List Oper}{i:Nat}:∀ {l:List Nat},h0s ops i l=true->∃ j o,j∈l/\ops[j]?=some o/\V7 i o=true
 | [],h=>by cases h
 |j::r,h=>by
  simp only[h0s,Bool.or_eq_true]at h
  rcases h with h|h
  ·grind[F04,List.mem_cons_self]
  ·obtain⟨c,o,a,b⟩:=m0h h
   grind
theorem M09{ops:List Oper}{G:Nat->Prop}(a:∀ i j o,G j->ops[j]?=some o->V7 i o=true->G i):∀(n:Nat) (acc:List Nat),(∀ j∈acc,G j)->∀ i∈Z0g ops n acc,G i
 |0,acc,h=>h
 |n+1,acc,h=>by
  unfold Z0g
  split
  ·rename_i b
   obtain⟨j,o,c,d,e⟩:=m0h b
   exact M09 a n _ λi f=>by
    grind
  ·exact M09 a n acc h
theorem N09{d:Nat}:∀ {l:List Oper},n09 d l=false->∀ o∈l,o.dst≠some d
 | [],_,o,h=>nomatch h
 |y::r,a,o,h=>by
  simp only[n09,Bool.or_eq_false_iff]at a
  rcases List.mem_cons.1 h with rfl|h
  ·intro b
   simp_all
  ·exact N09 a.2 o h
theorem H05{b:List Nat}{t:Nat}:∀ {l:List Oper} {k:Nat},E04 b t l k=true->∀(i:Nat) (o:Oper),l[i]?=some o->o.dst=some t->k+i∈b
 | [],k,_,i,o,h,_=>by simp at h
 |y::r,k,a,i,o,h,c=>by
  simp only[E04,Bool.and_eq_true]at a
  cases i with
  |zero =>
   simp_all[i0c]
  |succ i =>
   have:=H05 a.2 i o (by simpa using h) c
   grind
theorem v09{i d:Nat}:∀ {l:List Oper},W05 i d l=true->∀ o∈l,Operand.tmp d∈o.op.operands->V7 i o=true
 | [],_,o,h,_=>nomatch h
 |y::r,b,o,h,c=>by
  simp only[W05,Bool.and_eq_true,Bool.or_eq_true]at b
  rcases List.mem_cons.1 h with rfl|h
  ·rcases b.1 with a|a
   ·have e:K07 d o.op.operands.toList=false:=by simpa using a
    exact absurd (show Operand.tmp d∈o.op.operands.toList by simpa using c) (t05 e)
   ·exact a
  ·exact v09 b.2 o h c
theorem X0e:∀ {l:List Oper},b0k l=true->∀ o∈l,n0a o.op=false
 | [],_,o,h=>nomatch h
 |y::r,a,o,h=>by
  simp only[b0k,Bool.and_eq_true]at a
  rcases List.mem_cons.1 h with rfl|h
  ·simpa using a.1
  ·exact X0e a.2 o h
def M02(o:Oper)(f:Operand->Value):Option Value:=match o.op with
 | .extract x k=>match f x with
  | .tuple vs=>vs[k]?
  |_=>none
 | .move x=>some (f x)
 | .assign x=>some (f x)
 | .pick c x y=>match f c with
  | .bool q=>some (if q=true then f x else f y)
  |_=>none
 |_=>none
theorem u04{x:Operand}{a b:Act}(h:∀ t∈V0b x,a.tmps.getD t undef=b.tmps.getD t undef):a.eval x=b.eval x:=by
 cases x with
 |tmp t=>exact h t (List.mem_singleton.2 rfl)
 |const v=>rfl
 |global g=>rfl
 |func f=>rfl
theorem N03{o:Oper}{ts:List Nat}(h:m09 o=some ts):o.guard=none/\((∃ x k,o.op = .extract x k/\ts=V0b x)∨(∃ x,o.op = .move x/\ts=V0b x)∨(∃ x,o.op = .assign x/\ts=V0b x)∨∃ c x y,o.op = .pick c x y/\ts=V0b c++(V0b x++V0b y)):=by
 unfold m09 at h
 split at h
 ·cases h
 ·rename_i a
  refine⟨a,?_⟩
  split at h
  ·rename_i x k e;cases h;exact .inl ⟨x,k,e,rfl⟩
  ·rename_i x e;cases h;exact .inr (.inl ⟨x,e,rfl⟩)
  ·rename_i x e;cases h;exact .inr (.inr (.inl ⟨x,e,rfl⟩))
  ·rename_i c x y e;cases h;exact .inr (.inr (.inr ⟨c,x,y,e,rfl⟩))
  ·cases h
theorem X07{o:Oper}{ts:List Nat}{a b:Act}(h:m09 o=some ts)(e:∀ t∈ts,a.tmps.getD t undef=b.tmps.getD t undef):M02 o a.eval=M02 o b.eval:=by
 obtain⟨_,⟨x,k,d,rfl⟩|⟨x,d,rfl⟩|⟨x,d,rfl⟩|⟨c,x,y,d,rfl⟩⟩:=N03 h
 ·unfold M02;rw[d];simp only[u04 e]
 ·unfold M02;rw[d];simp only[u04 e]
 ·unfold M02;rw[d];simp only[u04 e]
 ·unfold M02;rw[d]
  simp only[u04 (x:=c) λt f=>e t (List.mem_append_left _ f),u04 (x:=x) λt f=>e t (List.mem_append_right _ (List.mem_append_left _ f)),u04 (x:=y) λt f=>e t (List.mem_append_right _ (List.mem_append_right _ f))]
theorem Y0e{o:Oper}{ts:List Nat}{a:Act}{v:Value}(h:m09 o=some ts)(b:M02 o a.eval=some v)(w:World):(execOp a.eval o).run P w = .ok (.value v) w:=by
 obtain⟨_,⟨x,k,e,_⟩|⟨x,e,_⟩|⟨x,e,_⟩|⟨c,x,y,e,_⟩⟩:=N03 h
 ·unfold M02 at b;rw[e]at b
  simp only at b
  split at b
  ·rename_i vs d
   unfold execOp;rw[e]
   simp only[Instr.extract,d,b]
   rfl
  ·cases b
 ·unfold M02 at b;rw[e]at b;cases b
  unfold execOp;rw[e];rfl
 ·unfold M02 at b;rw[e]at b;cases b
  unfold execOp;rw[e];rfl
 ·unfold M02 at b;rw[e]at b
  simp only at b
  split at b
  ·rename_i q d
   cases b
   unfold execOp;rw[e]
   simp only[d,asBool]
   cases q<;>rfl
  ·cases b
theorem u0s{o:Oper}{ts:List Nat}{a:Act}{w:World}{f:Act->World->Prop}(h:m09 o=some ts)(b:o.wp P a w f λ_ _ _=>False):∃ v,M02 o a.eval=some v/\f (a.put o.dst v) w:=by
 obtain⟨_,⟨x,k,e,_⟩|⟨x,e,_⟩|⟨x,e,_⟩|⟨c,x,y,e,_⟩⟩:=N03 h
 ·cases hx:M02 o a.eval with
  |some v =>
   refine⟨v,rfl,?_⟩
   unfold Oper.wp at b
   rw[Y0e h hx w]at b
   exact b
  |none =>
   exfalso
   unfold M02 at hx;rw[e]at hx
   simp only at hx
   unfold Oper.wp execOp at b;rw[e]at b
   simp only[Instr.extract]at b
   split at hx
   ·rename_i vs g
    rw[g]at b
    simp only[hx]at b
    exact b
   ·rename_i d
    generalize a.eval x=z at b d
    cases z<;>first|exact b|exact absurd rfl (d _)
 ·refine⟨_,by unfold M02;rw[e],?_⟩
  unfold Oper.wp execOp at b;rw[e]at b
  exact b
 ·refine⟨_,by unfold M02;rw[e],?_⟩
  unfold Oper.wp execOp at b;rw[e]at b
  exact b
 ·cases hx:M02 o a.eval with
  |some v =>
   refine⟨v,rfl,?_⟩
   unfold Oper.wp at b
   rw[Y0e h hx w]at b
   exact b
  |none =>
   exfalso
   unfold M02 at hx;rw[e]at hx
   simp only at hx
   unfold Oper.wp execOp at b;rw[e]at b
   simp only at b
   split at hx
   ·cases hx
   ·rename_i d
    generalize a.eval c=z at b d
    cases z<;>first|exact b|exact absurd rfl (d _)
def Z0e(as a:Act)(D:Nat->Prop):Prop:=as.tmps.size=a.tmps.size/\as.defers=a.defers/\∀ d,¬ D d->as.tmps.getD d undef=a.tmps.getD d undef
theorem O03(a:Act)(d u:Nat)(v:Value):(a.put (some d) v).tmps.getD u undef=if d=u/\d<a.tmps.size then v else a.tmps.getD u undef:=by
 by_cases e:d=u
 all_goals simp_all[Act.put,if_neg,Array.getElem?_setIfInBounds_ne]
theorem Z0e.put{as a:Act}{b:Nat->Prop}(l:Z0e as a b)(d:Option Nat)(v:Value):Z0e (as.put d v) (a.put d v) b:=by
 cases d with
 |none=>exact l
 |some d =>
  refine⟨by simp[Act.put,l.1],l.2.1,λu c=>?_⟩
  rw[O03,O03,l.1,l.2.2 u c]
theorem v0s{o:Oper}{as a:Act}{w:World}{k:Nat->Prop}{m:Act->World->Prop}{Q:Exit->Act->World->Prop}(l:Z0e as a k)(s:n0a o.op=false)(z:∀ d,Operand.tmp d∈o.op.operands -> ¬ k d)
  (i:o.wp P as w m λ_ _ _=>False):o.wp P a w (λp j=>∃ g,m g j/\Z0e g p k/\(∃ v,g=as.put o.dst v∨∃ x,g = { as with defers:=x }.put o.dst v)/\∃ v,p=a.put o.dst v∨∃ x,p = { a with defers:=x }.put o.dst v) Q:=by
 have u:execOp as.eval o=execOp a.eval o:=execOp_congr o (λcs b e=>by rw[e]at s;cases s) λx A=>by
  cases x with
  |tmp d=>exact l.2.2 d (z d A)
  |_=>rfl
 unfold Oper.wp at *
 rw[u]at i
 generalize (execOp a.eval o).run P w=r at i
 have fin:∀(v:Value) (j:World),m (as.put o.dst v) j->∃ g,m g j/\Z0e g (a.put o.dst v) k/\(∃ v,g=as.put o.dst v∨∃ x,g = { as with defers:=x }.put o.dst v)/\∃ t,a.put o.dst v=a.put o.dst t∨∃ x,a.put o.dst v = { a with defers:=x }.put o.dst t :=
  λv j h=>⟨_,h,l.put o.dst v,⟨v,.inl rfl⟩,v,.inl rfl⟩
 cases r with
 |ok n j =>
  cases n with
  |value v=>exact fin v j i
  |skip=>exact fin undef j i
  |defer d =>
   refine⟨_,i,Z0e.put (as := { as with defers:=d::as.defers }) (a := { a with defers:=d::a.defers }) ⟨l.1,by simp[l.2.1],l.2.2⟩ o.dst undef,⟨_,.inr ⟨_,rfl⟩⟩,_,.inr ⟨_,rfl⟩⟩
  |enter f args =>
   refine Calls.mono i λe q h=>?_
   cases e with
   |returned v=>exact fin v q h
   |panicked c=>exact h.elim
   |outgrown=>obtain⟨_,_,h⟩:=h;exact h.elim
  |row row args=>exact Rows.mono i λv q h=>fin v q h
  |_=>exact i.elim
 |halt y j=>cases y<;>exact i.elim
theorem Sim.like{st:St}{as a:Act}{h0:Hp}{w0:World}{be:Nat->Nat}{oe:Nat->Value}{H h:Hp}{w:World}(b:Sim P h0 w0 be oe H st h as w){c:Nat->Prop}(l:Z0e as a c)(e:∀ d,¬ c d):Sim P h0 w0 be oe H st h a w :=
 ⟨b.mv,b.sub,b.box,b.pub,b.own,b.frz,b.bb,b.oo,b.bo,by rw[←l.2.1];exact b.dfr,by rw[←l.1];exact b.siz,λt=>by rw[←l.2.2 t (e t)];exact b.fr t⟩
theorem n0h:∀ {l:List Oper} {k:Nat},V0p k l=true->(∀ o∈l,o.guard=none)/\∀(i:Nat) (o:Oper),l[i+1]?=some o->V7 (k+i) o=true
 | [],k,h=>⟨λo b=>(nomatch b),λi o a=>(nomatch a)⟩
 | [x],k,h=>by
  rw[V0p]at h
  grind
 |x::y::r,k,h=>by
  rw[V0p]at h
  simp only[Bool.and_eq_true]at h
  obtain⟨c,d⟩:=n0h (l:=y::r) h.2
  refine⟨λo b=>?_,λi o a=>?_⟩
  ·grind
  ·cases i with
   |zero=>grind
   |succ i =>
    grind
theorem C0k{o:Oper}{st:St}{K:St->Hp->Prop}{Q:Exit->Act->World->Prop}(p:Sim P h0 w0 be oe H st h a w)(k:K03 P o st h K):
  o.wp P a w (λf j=>∃ st' h' be' oe' e,K st' h'/\Sim P h0 w0 be' oe' e st' h' f j) Q:=by
 refine Oper.wp_mono (λf j n=>?_) (O9 p k)
 obtain⟨av,st',h',v,be',oe',e,l,rfl,q,g,s⟩:=n
 obtain⟨A,t,u,y,z⟩:=M04 (ops := #[o]) (i:=0) (rs:=⟨st',h',[],[]⟩) (ch:=[]) (c:=true) (v:=v) q ⟨(λx b=>nomatch b),(λx b=>nomatch b),(λd ch av m=>nomatch m)⟩ (by rfl) rfl (λ_=>g) (λh=>by cases h) l
 grind
theorem L0a{c d:List Oper}{a:List Nat}:∀ {l:List Oper} {k:Nat},i0e c d a l k=true->∀(i:Nat) (o:Oper),l[i]?=some o->o0m (k+i) a=true∨p0n c d a (k+i) o=true
 | [],k,_,i,o,h=>by simp at h
 |y::r,k,b,i,o,h=>by
  simp only[i0e,Bool.and_eq_true,Bool.or_eq_true]at b
  cases i with
  |zero=>grind
  |succ i =>
   have:=L0a b.2 i o (by simpa using h)
   grind
theorem a0f{c d:List Oper}{b:List Nat}:∀ {ts:List Nat},o0n c d b ts=true->∀ t∈ts,n09 t d=false/\E04 b t c 0=true
 | [],_,t,h=>by cases h
 |x::r,a,t,h=>by
  simp only[o0n,Bool.and_eq_true,Bool.not_eq_true']at a
  rcases List.mem_cons.1 h with rfl|h
  ·exact a.1
  ·exact a0f a.2 t h
theorem w0m{c a:List Oper}{b:List Nat}{i:Nat}{o:Oper}(h:p0n c a b i o=true):∃ ts d,m09 o=some ts/\o.dst=some d/\n09 d a=false/\(∀ t∈ts,n09 t a=false/\E04 b t c 0=true)/\W05 i d a=true:=by
 unfold p0n at h
 split at h
 ·rename_i t d e f
  simp only[Bool.and_eq_true,Bool.not_eq_true']at h
  exact⟨t,d,e,f,h.1.1,a0f h.1.2,h.2⟩
 ·cases h
theorem X0o{ops:Array Oper}{m:Nat}{st:St}{K:St->Hp->Prop}{Q:Exit->Act->World->Prop}(hb:okZ P st.n m ops.toList=true)(he:evT P (K03 P) m ops.toList st h K)
  (hQ:∀ a w st h be oe H,K st h->Sim P h0 w0 be oe H st h a w->Q .normal a w) (s:Sim P h0 w0 be oe H st h a w):wpAny P .any ops Q ops.size (Array.replicate ops.size false) a w:=by
 simp only[okZ,E03,w02,Bool.and_eq_true,Bool.or_eq_true]at hb
 obtain⟨⟨⟨⟨⟨⟨⟨b1,b2⟩,b3⟩,b4⟩,b5⟩,b6⟩,b7⟩,b8⟩:=hb
 generalize hpre:ops.toList.take m=pre at b1 b2 b3 b4 b5 b8
 obtain⟨hn,hD⟩:=O04 b1
 have hB:∀(k:Nat) (o:Oper),(Y5 pre)[k]?=some o->∀ e∈o.after,Region.binds .any e=true->e.on<k:=λk o hk e he' hb=>by
  have:=x03 b2 k o hk e he' hb
  omega
 have hdep:=N06 b3
 have hgd:=P06 b4
 have hal:=x0k b5
 have hBB:∀(k:Nat) (o:Oper),ops.toList[k]?=some o->∀ e∈o.after,Region.binds .any e=true->e.on<k:=λk o hk e he' hb=>by
  have:=x03 b6 k o hk e he' hb
  omega
 obtain⟨sq1,sq2⟩:=n0h b7
 unfold evT at he
 rw[hpre]at he
 obtain⟨A,Lf,Bf,_,_,hP,hall,hfin⟩:=V0e (ops:=Y5 pre) hD (Y5 pre) 0 [] [] (λ_=>([],true,.pu .dead)) (λj=>by simp) (by simp)
  ⟨λt x h=>(by cases h),λi oi d hi=>by omega,λi hi=>by omega,λx hx=>(by cases hx)⟩ he
 have hpl:pre.length=min m ops.size:=by rw[←hpre];simp
 have hpg:∀ j,j<m->ops.toList[j]?=pre[j]?:=λj hj=>by rw[←hpre,List.getElem?_take,if_pos hj]
 have hdg:∀ j,(ops.toList.drop m)[j]?=ops.toList[m+j]?:=λj=>List.getElem?_drop
 have hsr:∀(i:Nat) (oi:Oper) (d:Nat),(Y5 pre)[i]?=some oi->oi.dst=some d->skA pre i=true->∀ o'∈Y5 pre,Operand.tmp d ∉ o'.op.operands:=λi oi d q1 q2 q3 o' ho' hc=>by
  rw[t8]at q1
  unfold skA at q3
  cases e:pre[i]? with
  |none=>rw[e]at q1;cases q1
  |some o0 =>
   rw[e]at q1 q3
   cases q1
   obtain⟨t,d1,z,k1,k2,k3,k4,k5⟩:=hal o0 (List.mem_of_getElem? e) q3
   rw[s8,k3]at q2;cases q2
   obtain⟨j,hj⟩:=List.getElem?_of_mem ho'
   rw[t8]at hj
   cases e2:pre[j]? with
   |none=>rw[e2]at hj;cases hj
   |some o1 =>
    rw[e2]at hj;cases hj
    exact k5 o1 (List.mem_of_getElem? e2) (B0k hc)
 have hsb:∀ i,skA pre i=true->(A i).2.2 = .pu (.val undef):=λi q3=>by
  unfold skA at q3
  cases e:pre[i]? with
  |none=>rw[e]at q3;cases q3
  |some o0 =>
   rw[e]at q3
   obtain⟨t,d1,z,k1,k2,k3,k4,k5⟩:=hal o0 (List.mem_of_getElem? e) q3
   obtain⟨Lj,bj,_,_,_,_,_,hu⟩:=hall i (p00 o0) (Nat.zero_le _) (by rw[t8,e];rfl)
   refine hu _ ?_
   unfold p00
   rw[k1]
   rfl
 let Rest:Nat->Act->World->Prop:=λk a w=>∃ st' h' be oe H,doT (K03 P) (ops.toList.drop k) st' h' K/\Sim P h0 w0 be oe H st' h' a w
 let ml:=Z0g ops.toList m [m]
 let Dl:Array Bool->Nat->Prop:=λlisted u=>∃(i:Nat) (o:Oper),pre[i]?=some o/\listed.getD i false=false/\o.dst=some u
 let Lat:Array Bool->Act->Act->Prop:=λlisted as a=>∀(i:Nat) (o:Oper) (t:List Nat) (d:Nat),pre[i]?=some o->listed.getD i false=false->m09 o=some t->o.dst=some d->M02 o a.eval=some (as.tmps.getD d undef)
 let Inv:Array Bool->Act->World->Prop:=λlisted a w=>(∀(j:Nat) (o:Oper),ops[j]?=some o->listed.getD j false=true->∀ e∈o.after,Region.binds .any e=true->listed.getD e.on false=true) /\
  (((∀ k,m<=k->listed.getD k false=false)/\h0c P h0 w0 pre st h A listed a w)∨∃ k as,m<k/\k<=ops.size/\(∀ i,i<k->listed.getD i false=true∨(i<m/\i ∉ ml))/\(∀ i,k<=i->listed.getD i false=false)/\Rest k as w/\Z0e as a (Dl listed)/\Lat listed as a)
 have lateOf:m<ops.size->∀(i:Nat) (o:Oper),pre[i]?=some o->i ∉ ml->∃ t d,m09 o=some t/\o.dst=some d/\n09 d (ops.toList.drop m)=false/\(∀ x∈t,n09 x (ops.toList.drop m)=false/\E04 ml x pre 0=true)/\W05 i d (ops.toList.drop m)=true:=λhm i o hi hml=>by
  rcases b8 with h|h
  ·exfalso
   have:ops.toList.drop m = []:=by
    cases e:ops.toList.drop m with
    |nil=>rfl
    |cons x r=>rw[e]at h;cases h
   have:=List.drop_eq_nil_iff.1 this
   simp at this;omega
  ·have:=L0a h.1 i o hi
   rw[Nat.zero_add]at this
   rcases this with h1|h1
   ·exact absurd (i0c.1 h1) hml
   ·exact w0m h1
 have noselT:m<ops.size->b0k (ops.toList.drop m)=true:=λhm=>by
  rcases b8 with h|h
  ·exfalso
   have:ops.toList.drop m = []:=by
    cases e:ops.toList.drop m with
    |nil=>rfl
    |cons x r=>rw[e]at h;cases h
   have:=List.drop_eq_nil_iff.1 this
   simp at this;omega
  ·exact h.2
 have preD:∀(i j:Nat) (oi oj:Oper) (d:Nat),pre[i]?=some oi->pre[j]?=some oj->oi.dst=some d->oj.dst=some d->i=j:=λi j oi oj d h1 h2 h3 h4 =>
  hD i j (p00 oi) (p00 oj) d (by rw[t8,h1];rfl) (by rw[t8,h2];rfl) (by rw[s8];exact h3) (by rw[s8];exact h4)
 have preN:∀(i:Nat) (o:Oper) (d:Nat),pre[i]?=some o->o.dst=some d->d<st.n:=λi o d h1 h2 =>
  hn (p00 o) (List.mem_of_getElem? (i:=i) (by rw[t8,h1];rfl)) d (by rw[s8];exact h2)
 have unl:∀ {listed:Array Bool} {j:Nat},listed.getD j true=false->listed.getD j false=false/\j<listed.size:=λ{listed j} hj=>by
  rcases Nat.lt_or_ge j listed.size with h|h
  ·simp[h]at hj ⊢;exact hj
  ·simp[Array.getElem?_eq_none h]at hj
 have allpre:∀ {listed:Array Bool} {a:Act} {w:World},(∀ j,j<pre.length->listed.getD j false=true)->h0c P h0 w0 pre st h A listed a w->Rest m a w:=λ{listed a w} hl hi =>
  t0s (K:=λst h=>doT (K03 P) (ops.toList.drop m) st h K) hD hn hsb hal hP hfin hl hi
 have tail:∀ {Q:Exit->Act->World->Prop} {k:Nat} {o:Oper} {a:Act} {w:World},ops[k]?=some o->Rest k a w->o.wp P a w (Rest (k+1)) Q:=λ{Q k o a w} ho hr=>by
  obtain⟨st',h',be,oe,H,hd,s'⟩:=hr
  have hk:k<ops.toList.length:=by simpa using (Array.getElem?_eq_some_iff.1 ho).1
  have e:ops.toList.drop k=o::ops.toList.drop (k+1):=by
   rw[List.drop_eq_getElem_cons hk]
   congr 1
   have:ops.toList[k]?=some o:=by simpa using ho
   rw[List.getElem?_eq_getElem hk]at this
   exact oJ this
  rw[e]at hd
  exact C0k s' hd
 have virt:m<ops.size->∀ {listed:Array Bool} {a:Act} {w:World},listed.size=ops.size->(∀ i,i<m->i∈ml->listed.getD i false=true)->h0c P h0 w0 pre st h A listed a w ->
   ∀ k,k<=pre.length->∃ l2 as,l2.size=ops.size/\(∀ i,i<k->l2.getD i false=true)/\(∀ i,k<=i->l2.getD i false=listed.getD i false)/\h0c P h0 w0 pre st h A l2 as w /\
    Z0e as a (λu=>∃(i:Nat) (o:Oper),i<k/\pre[i]?=some o/\listed.getD i false=false/\o.dst=some u) /\
    ∀(i:Nat) (o:Oper) (t:List Nat) (d:Nat),i<k->pre[i]?=some o->listed.getD i false=false->m09 o=some t->o.dst=some d->M02 o a.eval=some (as.tmps.getD d undef):=by
  intro hmN listed a w hsz hml hA k
  induction k with
  |zero=>exact λ_=>⟨listed,a,hsz,λi hi=>by omega,λi _=>rfl,hA,⟨rfl,rfl,λ_ _=>rfl⟩,λi o t d hi=>by omega⟩
  |succ k ih =>
   intro hk
   obtain⟨l2,as,z1,z2,z3,z4,z5,z6⟩:=ih (by omega)
   cases hlk:listed.getD k false with
   |true =>
    refine⟨l2,as,z1,λi hi=>?_,λi hi=>z3 i (by omega),z4,⟨z5.1,z5.2.1,λu hu=>z5.2.2 u λ⟨i,o,q1,q2⟩=>hu ⟨i,o,by omega,q2⟩⟩,λi o t d hi q1 q2 q3 q4=>?_⟩
    ·by_cases e:i=k
     ·subst e;rw[z3 i (Nat.le_refl _)];exact hlk
     ·exact z2 i (by omega)
    ·have:i≠k:=λe=>by subst e;rw[hlk]at q2;cases q2
     exact z6 i o t d (by omega) q1 q2 q3 q4
   |false =>
    obtain⟨o,ho⟩:∃ o,pre[k]?=some o:=⟨pre[k],List.getElem?_eq_getElem (by omega)⟩
    have hkm:k<m:=by omega
    have hkml:k ∉ ml:=λh=>by rw[hml k hkm h]at hlk;cases hlk
    obtain⟨t,d,y1,y2,y3,y5,y6⟩:=lateOf hmN k o ho hkml
    have hg:=(N03 y1).1
    have hl2k:l2.getD k false=false:=by rw[z3 k (Nat.le_refl _)];exact hlk
    have hks:k<l2.size:=by rw[z1];omega
    have hun2:l2.getD k true=false:=by
     simp[hks]at hl2k ⊢;exact hl2k
    have hoL:ops.toList[k]?=some o:=by rw[hpg k hkm];exact ho
    have st1:=(x0t (Q:=λ_ _ _=>False) hD hn hB hdep hgd hP (λj o ho=>hall j o (Nat.zero_le _) ho) hsr hsb hal hun2 ho (λe he1 he2=>z2 e.on (hBB k o hoL e he1 he2)) z4).1 (by unfold Region.wanted;rw[hg])
    obtain⟨v,v1,v2⟩:=u0s y1 st1
    have hasz:as.tmps.size=st.n:=by
     obtain⟨_,_,_,_,_,_,iu,_,_⟩:=z4
     obtain⟨_,_,_,_,_,s,_⟩:=iu
     exact s.siz
    have htne:∀ x∈t,¬ ∃(i:Nat) (o:Oper),i<k/\pre[i]?=some o/\listed.getD i false=false/\o.dst=some x:=λx hx ⟨i,o',q1,q2,q3,q4⟩=>by
     have:=H05 (y5 x hx).2 i o' q2 q4
     rw[Nat.zero_add]at this
     rw[hml i (by omega) this]at q3;cases q3
    rw[X07 y1 λx hx=>z5.2.2 x (htne x hx)]at v1
    rw[y2]at v2
    refine⟨l2.setIfInBounds k true,as.put (some d) v,by simpa using z1,λi hi=>?_,λi hi=>?_,v2,⟨by simp[Act.put,z5.1],z5.2.1,λu hu=>?_⟩,λi o' t' d' hi q1 q2 q3 q4=>?_⟩
    ·by_cases e:k=i
     ·subst e;simp[hks]
     ·rw[getD_set_ne false e];exact z2 i (by omega)
    ·rw[getD_set_ne false (by omega)];exact z3 i (by omega)
    ·rw[O03,if_neg λe=>hu ⟨k,o,by omega,ho,hlk,by rw[y2,e.1]⟩]
     exact z5.2.2 u λ⟨i,o',q1,q2⟩=>hu ⟨i,o',by omega,q2⟩
    ·rw[O03]
     by_cases e:i=k
     ·subst e
      rw[ho]at q1;cases q1
      rw[y1]at q3;cases q3
      rw[y2]at q4;cases q4
      rw[if_pos ⟨rfl,by rw[hasz];exact preN i o d ho y2⟩]
      exact v1
     ·rw[if_neg λh=>e (preD i k o' o d' q1 ho q4 (by rw[y2,h.1]))]
      exact z6 i o' t' d' (by omega) q1 q2 q3 q4
 refine M0u (Inv:=Inv) hBB (λlisted a w j o hsz hun ho hrd hi=>?_) (λlisted a w hl hi=>?_) ops.size _ a w (by simp) (by simp[List.count_replicate]) ⟨λj o _ h=>?_,.inl ⟨λk _=>?_,h0c.start s⟩⟩
 rotate_left 2
 ·simp[Array.getElem?_replicate]at h
  split at h<;>cases h
 ·simp[Array.getElem?_replicate]
  split<;>simp
 rotate_left 1
 ·rcases hi.2 with⟨hm,hA⟩|⟨k,as,k1,k2,k3,k4,hr,lk,lt⟩
  ·have hms:ops.size<=m:=by
    rcases Nat.lt_or_ge m ops.size with h|h
    ·have:=hm m (Nat.le_refl _)
     rw[hl m h]at this;cases this
    ·exact h
   obtain⟨st',h',be,oe,H,hd,s'⟩:=allpre (λj hj=>hl j (by omega)) hA
   rw[List.drop_eq_nil_of_le (by simpa using hms)]at hd
   exact hQ a w st' h' be oe H hd s'
  ·have hk:k=ops.size:=by
    rcases Nat.lt_or_ge k ops.size with h|h
    ·have:=k4 k (Nat.le_refl _)
     rw[hl k h]at this;cases this
    ·omega
   subst hk
   obtain⟨st',h',be,oe,H,hd,s'⟩:=hr
   rw[List.drop_eq_nil_of_le (by simp)]at hd
   refine hQ a w st' h' be oe H hd (s'.like lk λu ⟨i,o,q1,q2,q3⟩=>?_)
   have:=(List.getElem?_eq_some_iff.1 q1).1
   rw[hl i (by omega)]at q2;cases q2
 ·obtain⟨hcl,hi⟩:=hi
  obtain⟨hjf,hjs⟩:=unl hun
  have hcl':∀(i:Nat) (oi:Oper),ops[i]?=some oi->(listed.setIfInBounds j true).getD i false=true->∀ e∈oi.after,Region.binds .any e=true->(listed.setIfInBounds j true).getD e.on false=true:=λi oi h1 h2 e he1 he2=>by
   by_cases hij:j=i
   ·subst hij
    rw[ho]at h1;cases h1
    exact getD_set_true (hrd e he1 he2)
   ·rw[getD_set_ne false hij]at h2
    exact getD_set_true (hcl i oi h1 h2 e he1 he2)
  have hoL:ops.toList[j]?=some o:=by simpa using ho
  have hjlt:j<ops.size:=(Array.getElem?_eq_some_iff.1 ho).1
  by_cases hjm:j<m
  ·rcases hi with⟨hm,hA⟩|⟨k,as,k1,k2,k3,k4,hr,lk,lt⟩
   ·have hop:pre[j]?=some o:=by rw[←hpg j hjm];exact hoL
    have st1:=x0t (Q:=Q) hD hn hB hdep hgd hP (λj o ho=>hall j o (Nat.zero_le _) ho) hsr hsb hal hun hop hrd hA
    have hyd:Region.wanted o (yielded ops a.tmps)=Region.wanted o (yielded (Y5 pre).toArray a.tmps):=by
     unfold Region.wanted
     cases hg:o.guard with
     |none=>rfl
     |some p =>
      obtain⟨i,wv⟩:=p
      obtain⟨e,he1,he2,he3⟩:=U6 (hgd (p00 o) (List.mem_of_getElem? (i:=j) (by rw[t8,hop];rfl)) i wv (by rw[A0k];exact hg))
      rw[z0k]at he1
      have hlt:=hBB j o hoL e he1 he2
      rw[he3]at hlt
      have hig:=hpg i (by omega)
      have:yielded ops a.tmps i=yielded (Y5 pre).toArray a.tmps i:=by
       unfold yielded
       have e1:ops[i]?=pre[i]?:=by rw[←hig];simp
       have e2:(Y5 pre).toArray[i]?=(pre[i]?).map p00:=by simp[t8]
       rw[e1,e2]
       cases pre[i]? with
       |none=>rfl
       |some o0=>simp[s8]
      simp only[this]
    rw[hyd]
    have up:∀ a' w',h0c P h0 w0 pre st h A (listed.setIfInBounds j true) a' w'->Inv (listed.setIfInBounds j true) a' w':=λa' w' hx=>⟨hcl',.inl ⟨λk hk=>by rw[getD_set_ne false (by omega)];exact hm k hk,hx⟩⟩
    exact⟨λhw=>Oper.wp_mono up (st1.1 hw),λhw=>up _ _ (st1.2 hw)⟩
   ·have hop:pre[j]?=some o:=by rw[←hpg j hjm];exact hoL
    have hjml:j ∉ ml:=by
     rcases k3 j (by omega)with h|h
     ·rw[hjf]at h;cases h
     ·exact h.2
    obtain⟨t,d,y1,y2,y3,y5,y6⟩:=lateOf (by omega) j o hop hjml
    have hg:=(N03 y1).1
    refine⟨λ_=>?_,λhw=>by unfold Region.wanted at hw;rw[hg]at hw;cases hw⟩
    unfold Oper.wp
    rw[Y0e y1 (lt j o t d hop hjf y1 y2) w]
    refine⟨hcl',.inr ⟨k,as,k1,k2,λi hi=>?_,λi hi=>?_,hr,⟨by rw[y2];simp[Act.put,lk.1],by rw[y2];exact lk.2.1,λu hu=>?_⟩,λi o' t' d' q1 q2 q3 q4=>?_⟩⟩
    ·rcases k3 i hi with h|h
     ·exact .inl (getD_set_true h)
     ·exact .inr h
    ·rw[getD_set_ne false (by omega)];exact k4 i hi
    ·rw[y2,O03]
     by_cases e:d=u
     ·subst e
      by_cases hlt:d<a.tmps.size
      ·rw[if_pos ⟨rfl,hlt⟩]
      ·rw[if_neg λh=>hlt h.2]
       have e1:∀(x:Act),¬ d<x.tmps.size->x.tmps.getD d undef=undef:=λx hx=>by
        simp[Array.getElem?_eq_none (Nat.le_of_not_lt hx)]
       rw[e1 a hlt,e1 as (by rw[lk.1];exact hlt)]
     ·rw[if_neg λh=>e h.1]
      refine lk.2.2 u λ⟨i,o',q1,q2,q3⟩=>?_
      by_cases e2:j=i
      ·subst e2
       rw[hop]at q1;cases q1
       rw[y2]at q3;cases q3
       exact e rfl
      ·exact hu ⟨i,o',q1,by rw[getD_set_ne false e2];exact q2,q3⟩
    ·have e2:j≠i:=λe2=>by subst e2;simp[hjs]at q2
     rw[getD_set_ne false e2]at q2
     have hi':=(List.getElem?_eq_some_iff.1 q1).1
     have himl:i ∉ ml:=by
      rcases k3 i (by omega)with h|h
      ·rw[q2]at h;cases h
      ·exact h.2
     obtain⟨t2,d2,x1,x2,x3,x5,x6⟩:=lateOf (by omega) i o' q1 himl
     rw[q3]at x1;cases x1
     rw[←lt i o' t' d' q1 q2 q3 q4]
     refine X07 q3 λx hx=>?_
     rw[y2,O03,if_neg λh=>?_]
     have:=H05 (x5 x hx).2 j o hop (by rw[y2,h.1])
     rw[Nat.zero_add]at this
     exact hjml this
  ·have hg:o.guard=none:=sq1 o (List.mem_of_getElem? (i:=j-m) (by rw[hdg];rw[show m+(j-m)=j by omega];exact hoL))
   have prev:m<j->listed.getD (j-1) false=true:=λhlt=>by
    have:=sq2 (j-m-1) o (by rw[hdg];rw[show m+(j-m-1+1)=j by omega];exact hoL)
    obtain⟨e,he1,he2,he3⟩:=U6 this
    have:=hrd e he1 he2
    rw[he3,show m+(j-m-1)=j-1 by omega]at this
    exact this
   refine⟨λ_=>?_,λhw=>by unfold Region.wanted at hw;rw[hg]at hw;cases hw⟩
   have hmt:o∈ops.toList.drop m:=List.mem_of_getElem? (i:=j-m) (by rw[hdg,show m+(j-m)=j by omega];exact hoL)
   have go:∀ as,(∀ i,i<j->listed.getD i false=true∨(i<m/\i ∉ ml))->(∀ i,j<=i->listed.getD i false=false)->Rest j as w->Z0e as a (Dl listed)->Lat listed as a->o.wp P a w (Inv (listed.setIfInBounds j true)) Q:=λas q1 q2 hr lk lt=>by
    have hjD:∀ u,Dl (listed.setIfInBounds j true) u↔Dl listed u:=λu=>by
     constructor
     ·rintro⟨i,o',p1,p2,p3⟩
      have:=(List.getElem?_eq_some_iff.1 p1).1
      rw[getD_set_ne false (by omega)]at p2
      exact⟨i,o',p1,p2,p3⟩
     ·rintro⟨i,o',p1,p2,p3⟩
      have:=(List.getElem?_eq_some_iff.1 p1).1
      exact⟨i,o',p1,by rw[getD_set_ne false (by omega)];exact p2,p3⟩
    have lateU:∀(i:Nat) (o':Oper),pre[i]?=some o'->listed.getD i false=false->i ∉ ml:=λi o' p1 p2=>by
     have:=(List.getElem?_eq_some_iff.1 p1).1
     rcases q1 i (by omega)with h|h
     ·rw[p2]at h;cases h
     ·exact h.2
    refine Oper.wp_mono (λa' w' hx=>?_) (v0s (Q:=Q) lk (X0e (noselT (by omega)) o hmt) (λu hu ⟨i,o',p1,p2,p3⟩=>?_) (tail (Q:=λ_ _ _=>False) ho hr))
    ·obtain⟨as',hr',lk',⟨v1,hv1⟩,v2,hv2⟩:=hx
     have e1:∀ u,o.dst≠some u->as'.tmps.getD u undef=as.tmps.getD u undef:=λu hu=>by
      cases hd:o.dst with
      |none =>
       rw[hd]at hv1
       rcases hv1 with h|⟨x,h⟩<;>rw[h]<;>rfl
      |some d =>
       rw[hd]at hv1 hu
       rcases hv1 with h|⟨x,h⟩<;>rw[h,O03,if_neg λh=>hu (by rw[h.1])]
     have e2:∀ u,o.dst≠some u->a'.tmps.getD u undef=a.tmps.getD u undef:=λu hu=>by
      cases hd:o.dst with
      |none =>
       rw[hd]at hv2
       rcases hv2 with h|⟨x,h⟩<;>rw[h]<;>rfl
      |some d =>
       rw[hd]at hv2 hu
       rcases hv2 with h|⟨x,h⟩<;>rw[h,O03,if_neg λh=>hu (by rw[h.1])]
     refine⟨hcl',.inr ⟨j+1,as',by omega,by omega,λi hi=>?_,λi hi=>?_,hr',⟨lk'.1,lk'.2.1,λu hu=>lk'.2.2 u λh=>hu ((hjD u).2 h)⟩,λi o' t d p1 p2 p3 p4=>?_⟩⟩
     ·by_cases e:j=i
      ·subst e;left;simp[hjs]
      ·rw[getD_set_ne false e];exact q1 i (by omega)
     ·rw[getD_set_ne false (by omega)];exact q2 i (by omega)
     ·have hi':=(List.getElem?_eq_some_iff.1 p1).1
      rw[getD_set_ne false (by omega)]at p2
      obtain⟨t2,d2,x1,x2,x3,x5,x6⟩:=lateOf (by omega) i o' p1 (lateU i o' p1 p2)
      rw[p3]at x1;cases x1
      rw[p4]at x2;cases x2
      rw[e1 d (N09 x3 o hmt),X07 p3 λx hx=>e2 x (N09 (x5 x hx).1 o hmt)]
      exact lt i o' t d p1 p2 p3 p4
    ·obtain⟨t2,d2,x1,x2,x3,x5,x6⟩:=lateOf (by omega) i o' p1 (lateU i o' p1 p2)
     rw[p3]at x2;cases x2
     obtain⟨e,he1,he2,he3⟩:=U6 (v09 x6 o hmt hu)
     have:=hrd e he1 he2
     rw[he3,p2]at this;cases this
   rcases hi with⟨hm,hA⟩|⟨k,as,k1,k2,k3,k4,hr,lk,lt⟩
   ·have hjm':j=m:=by
     rcases Nat.lt_or_ge m j with h|h
     ·have:=prev h
      rw[hm (j-1) (by omega)]at this;cases this
     ·omega
    subst hjm'
    have hml:∀ i,i<j->i∈ml->listed.getD i false=true:=λi hi hmi=>by
     have:=M09 (G:=λi=>i=j∨listed.getD i false=true) (ops:=ops.toList) (λi' j' o' hG ho' he'=>?_) j [j] (λx hx => .inl (by simpa using hx)) i hmi
     ·rcases this with h|h
      ·omega
      ·exact h
     ·obtain⟨e,he1,he2,he3⟩:=U6 he'
      rw[←he3]
      right
      rcases hG with rfl|hG
      ·rw[hoL]at ho';cases ho'
       exact hrd e he1 he2
      ·exact hcl j' o' (by simpa using ho') hG e he1 he2
    obtain⟨l2,as,z1,z2,z3,z4,z5,z6⟩:=virt hjlt (by assumption) hml hA pre.length (Nat.le_refl _)
    refine go as (λi hi=>?_) hm (allpre (λi hi=>z2 i hi) z4) ⟨z5.1,z5.2.1,λu hu=>z5.2.2 u λ⟨i,o',p1,p2⟩=>hu ⟨i,o',p2⟩⟩ (λi o' t d p1 p2 p3 p4=>z6 i o' t d (List.getElem?_eq_some_iff.1 p1).1 p1 p2 p3 p4)
    by_cases h:i∈ml
    ·exact .inl (hml i hi h)
    ·exact .inr ⟨hi,h⟩
   ·have hjk:j=k:=by
     have h1:k<=j:=by
      rcases Nat.lt_or_ge j k with h|h
      ·rcases k3 j h with h2|h2
       ·rw[hjf]at h2;cases h2
       ·omega
      ·exact h
     rcases Nat.lt_or_ge k j with h|h
     ·have:=prev (by omega)
      rw[k4 (j-1) (by omega)]at this;cases this
     ·omega
    subst hjk
    exact go as k3 k4 hr lk lt
end
section
variable {P:Program} {h0:Hp} {w0:World} {Q:Exit->Act->World->Prop} {ops:Array Oper} {K:RS->Prop}
theorem D0k{be:Nat->Nat}{oe:Nat->Value}{H:Hp}{rs:RS}{a:Act}{w:World}{o:Oper}{i:Nat}{e:RS->Prop}(f:Sim P h0 w0 be oe H rs.st rs.h a w)(r:S07 ops be oe rs a i)(m:ops[i]?=some o)
  {ch:List (Nat×Bool)} {c:Bool} (j:d00 rs.bs o.guard=some ch) (d:cB rs.bs ch=some c) (k:evG P o ch c rs λav=>A0e o.dst i ch av rs e) :
  ∃ v b,e b/\S07 ops be oe b (a.put o.dst v) (i+1)/\Sim P h0 w0 be oe H b.st b.h (a.put o.dst v) w/\Region.wanted o (yielded ops a.tmps)=c /\
   (c=true->∀ g,CW H w g->o.quietAt P a (CW H w) g v)/\(c=false->v=undef):=by
 obtain⟨av,l,n⟩:=Q0o f r d k
 have p:=P0o r j d
 cases c with
 |true =>
  grind[M04]
 |false =>
  obtain⟨b,q,_,s,t⟩:=M04 (v:=undef) f r m d (λh=>by cases h) (λ_=>rfl) l
  grind
theorem u05(f:∀ rs a w be oe H,K rs->Sim P h0 w0 be oe H rs.st rs.h a w->Q .normal a w):∀(l:List Oper) (i:Nat) (rs:RS) (a:Act) (w:World) (be:Nat->Nat) (oe:Nat->Value) (H:Hp),
  (∀ j,l[j]?=ops[i+j]?)->Sim P h0 w0 be oe H rs.st rs.h a w->S07 ops be oe rs a i->h0d P l i rs K->wpList P ops Q l a w
 | [],i,rs,a,w,be,oe,H,_,d,_,b=>f rs a w be oe H b d
 |o::l,i,rs,a,w,be,oe,H,y,d,r,b=>by
  have z:ops[i]?=some o:=by simpa using (y 0).symm
  have s:∀ j,l[j]?=ops[i+1+j]?:=λj=>by have:=y (j+1);grind
  have N:∀ ch c,d00 rs.bs o.guard=some ch->cB rs.bs ch=some c->(evG P o ch c rs λav=>A0e o.dst i ch av rs λrs=>h0d P l (i+1) rs K)->wpList P ops Q (o::l) a w:=by
   intro ch c F E b
   obtain⟨v,p,k,A,n,u,J,t⟩:=D0k d r z F E b
   unfold wpList
   rw[u]
   cases c with
   |false =>
    rw[if_neg (by simp),←t rfl]
    exact u05 f l (i+1) p _ w be oe H s n A k
   |true =>
    rw[if_pos rfl]
    refine .inl (Oper.wp_of_quiet (C:=CW H w) (K:=λq=>q=a.put o.dst v) (U2.refl d.mv.vis) (λq x m e=>?_) ⟨v,J rfl,rfl⟩)
    subst e
    exact u05 f l (i+1) p _ x be oe H s (n.still (hf:=H) (λ_ _ h=>h) m) A k
  simp only[h0d]at b
  split at b
  ·rename_i G O
   have u:Region.wanted o (yielded ops a.tmps)=true:=by unfold Region.wanted;rw[G]
   unfold wpList
   rw[if_pos u]
   refine .inl (Oper.wp_mono (λq x t=>?_) (O9 (Q:=Q) d b))
   obtain⟨av,st',h',v,be',oe',B,I,rfl,M,g,D⟩:=t
   obtain⟨p,k,_,n,L⟩:=M04 (rs := { rs with st:=st',h:=h' }) (ch:=[]) (c:=true) (v:=v) M (r.grow D) z rfl (λ_=>g) (λh=>by cases h) I
   exact u05 f l (i+1) p _ x be' oe' B s L n k
  grind
theorem o0h{be:Nat->Nat}{oe:Nat->Value}{H:Hp}{w:World}(f:∀ rs a w be oe H,K rs->Sim P h0 w0 be oe H rs.st rs.h a w->Q .normal a w):∀(l:List Oper) (i:Nat) (rs:RS) (a:Act),
  (∀ j,l[j]?=ops[i+j]?)->Sim P h0 w0 be oe H rs.st rs.h a w->S07 ops be oe rs a i->evQ P l i rs K->wpQuiet P ops (CW H w) (λk=>∀ d,CW H w d->Q .normal k d) l a
 | [],i,rs,a,_,e,_,b=>λd m=>f rs a d be oe H b (e.still (hf:=H) (λ_ _ h=>h) m)
 |o::l,i,rs,a,g,e,r,b=>by
  have s:ops[i]?=some o:=by simpa using (g 0).symm
  have q:∀ j,l[j]?=ops[i+1+j]?:=λj=>by have:=g (j+1);grind
  simp only[evQ]at b
  split at b
  ·rename_i ch p
   split at b
   ·rename_i c n
    obtain⟨v,B,y,z,A,u,t,C⟩:=D0k e r s p n b
    have x:=o0h f l (i+1) B _ q A z y
    unfold wpQuiet
    rw[u]
    cases c with
    |false=>grind
    |true=>rw[if_pos rfl];exact⟨v,t rfl,x⟩
   ·exact b.elim
  ·exact b.elim
theorem S07.init{be:Nat->Nat}{oe:Nat->Value}{st:St}{h:Hp}{a:Act}:S07 ops be oe ⟨st,h,[],[]⟩ a 0 :=
 ⟨(λx b=>nomatch b),(λx b=>nomatch b),(λd ch av c=>nomatch c)⟩
def b0f(P:Program)(h0:Hp)(w0:World)(Q:Ex->St->Hp->Prop):Exit->Act->World->Prop
 | .normal,a,w=>∃ st h be oe H,Q .normal st h/\Sim P h0 w0 be oe H st h a w
 | .exit i,a,w=>∃ st h be oe H,Q (.exit i) st h/\Sim P h0 w0 be oe H st h a w
 | .ret,a,w=>∃ st h be oe H,Q .ret st h/\Sim P h0 w0 be oe H st h a w
 |_,_,_=>False
variable {be:Nat->Nat} {oe:Nat->Value} {H:Hp} {st:St} {h:Hp} {a:Act} {w:World}
theorem X0i{Q:Ex->St->Hp->Prop}{id:Nat}{d:Bool}(b:Sim P h0 w0 be oe H st h a w)(f:ev P (.region id ops d) Q st h):(Code.region id ops d).wp P (b0f P h0 w0 Q) a w:=by
 cases d with
 |false =>
  simp only[ev]at f
  split at f
  ·exact wp_region_list ((w0k (h0:=h0) (w0:=w0) f.1 f.2 λa w st h be oe H l b=>⟨st,h,be,oe,H,l,b⟩).2 b)
  ·exact wp_region_list (u05 (K:=λrs=>Q .normal rs.st rs.h) (λrs a w be oe H l b=>⟨rs.st,rs.h,be,oe,H,l,b⟩) _ 0 ⟨st,h,[],[]⟩ a w be oe H (λj=>by simp) b S07.init f)
 |true =>
  rcases f with⟨⟨p,n⟩,f⟩|f|f|⟨⟨p,n⟩,f⟩|⟨m,⟨p,n⟩,f⟩
  ·refine wp_region_quiet (C:=CW H w) p n (U2.drawn b.mv.vis _ (by grind)) ?_
   exact o0h (K:=λrs=>Q .normal rs.st rs.h) (λrs a w be oe H l b=>⟨rs.st,rs.h,be,oe,H,l,b⟩) _ 0 ⟨st,h,[],[]⟩ a (λj=>by simp) b S07.init f
  ·exact f.elim
  ·split at f
   ·obtain⟨⟨p,n⟩,f⟩:=f
    exact wp_region_any p (T0o (b.still (hf:=H) (λ_ _ h=>h) (U2.drawn b.mv.vis _ (by grind))) n f λa w st h be oe H l b=>⟨st,h,be,oe,H,l,b⟩)
   ·rename_i o I
    obtain⟨⟨p,n⟩,f⟩:=f
    simp only[Bool.and_eq_true]at n
    obtain⟨A,F,B⟩:=V0o I
    have s:=b.still (hf:=H) (λ_ _ h=>h) (U2.drawn b.mv.vis (w.drawn+1) (by grind))
    obtain⟨Inv,t,u,x,q⟩:=s0k (ops:=(W00 ops.toList).toArray) (Q:=b0f P h0 w0 Q) (R:=λa w=>o.wp P a w (λa w=>b0f P h0 w0 Q .normal a w) (b0f P h0 w0 Q)) s (by simpa using n.1) (by simpa using f) λa w st h be oe H l b=>by
     refine Oper.wp_mono (λJ M G=>?_) (O9 (Q:=b0f P h0 w0 Q) b l)
     obtain⟨av,st',h',v,be',oe',z,l,rfl,s,g,L⟩:=G
     obtain⟨y,t,u,x,q⟩:=M04 (ops := #[o]) (i:=0) (rs:=⟨st',h',[],[]⟩) (ch:=[]) (c:=true) (v:=v) s S07.init (by rfl) rfl (λ_=>g) (λh=>by cases h) l
     exact⟨y.st,y.h,be',oe',z,t,q⟩
    exact wp_region_any p (K0u (ops0:=(W00 ops.toList).toArray) (o:=o) (Inv:=Inv) (by simpa using A) (λk o l e E D=>by
     have:=x03 n.2 k o l e E D
     omega) F (λk l=>u09 B k (by simpa using l) (by simp at l;omega)) u x q)
  ·exact wp_region_any p ((w0k (h0:=h0) (w0:=w0) n f λa w st h be oe H l b=>⟨st,h,be,oe,H,l,b⟩).1 (b.still (hf:=H) (λ_ _ h=>h) (U2.drawn b.mv.vis _ (by grind))))
  ·exact wp_region_any p (X0o n f (λa w st h be oe H l b=>⟨st,h,be,oe,H,l,b⟩) (b.still (hf:=H) (λ_ _ h=>h) (U2.drawn b.mv.vis _ (by grind))))
end
theorem P03(x:Nat):∀ l:List Nat,X08 x l=true↔x∈l
 | []=>by simp[X08]
 |y::r=>by
  simp only[X08]
  cases h:Nat.beq x y with
  |true=>simp_all
  |false=>simp[P03 x r,Nat.ne_of_beq_eq_false h]
theorem Q06{x:Nat}{l:List Nat}(h:X08 x l=false):x ∉ l:=λa=>by grind[P03]
theorem p0h:∀(l:List Nat) (K:List Nat->Prop),W0b l K=K l
 | [],K=>rfl
 |x::r,K=>by simp only[W0b,p0h r]
theorem M0a:∀(n:Nat) {K:List Value->Prop},u0a n K->∀ vs:List Value,vs.length=n->K vs
 |0,K,h,vs,a=>by rw[List.length_eq_zero_iff.1 a];exact h
 |n+1,K,h,[],a=>by cases a
 |n+1,K,h,v::vs,a=>M0a n (h v) vs (by simpa using a)
theorem N0a:∀(n:Nat) {K:List (List (List Value))->Prop},v0a n K->∀ os:List (List (List Value)),os.length=n->K os
 |0,K,h,vs,a=>by rw[List.length_eq_zero_iff.1 a];exact h
 |n+1,K,h,[],a=>by cases a
 |n+1,K,h,v::vs,a=>N0a n (h v) vs (by simpa using a)
theorem O09{c:Type}:∀(a b:List c) (K:List c->List c->Prop),M07 a.length (a++b) K=K a b
 | [],b,K=>rfl
 |x::a,b,K=>by simp only[List.length_cons,List.cons_append,M07,O09 a b]
theorem j0c(e:St):∀(l:List Nat) {K:List Value->Prop},i0s l e K->∃ vs,vs.length=l.length/\K vs /\
  ∀ acc t,(G3 (X0b l vs acc) t=G3 acc t/\t ∉ l)∨(∃ v,G3 (X0b l vs acc) t = .val v/\rdA e (G3 e.fr t) = .val v)
 | [],K,h=>⟨[],rfl,h,λacc t => .inl ⟨rfl,by simp⟩⟩
 |b::r,K,h=>by
  simp only[i0s]at h
  split at h
  ·rename_i v i
   obtain⟨vs,c,d,f⟩:=j0c e r h
   refine⟨v::vs,by simp[c],d,λacc t=>?_⟩
   rcases f ((b,.val v)::acc) t with⟨a,g⟩|a
   ·by_cases e':b=t
    ·simp_all[X0b,Y3,if_true]
    simp_all[X0b,Y3,if_neg,Ne.symm]
   ·exact .inr a
  ·exact h.elim
def R04(B:Nat->Nat->Prop):List N5->Prop
 | []=>True
 | .val _::r=>R04 B r
 | .own i k::r=>B i k/\R04 B r
def ShC(e:St):List N5->List N5->Prop
 | [],[]=>True
 | .val _::r,.val _::a=>ShC e r a
 | .own i _::r,.own j c::a=>i=j/\(∃ b,rdA e (.own j c) = .own j b)/\ShC e r a
 |_,_=>False
def EqC(e:St):List N5->List N5->Prop
 | [],[]=>True
 | .val v::r,.val d::a=>v=d/\EqC e r a
 | .own i _::r,.own j c::a=>i=j/\(∃ b,rdA e (.own j c) = .own j b)/\EqC e r a
 |_,_=>False
theorem EqC.sh{e:St}:∀ {cs cs':List N5},EqC e cs cs'->ShC e cs cs'
 | [],[],_=>trivial
 | .val _::r,.val _::a,h=>EqC.sh (cs:=r) (cs':=a) h.2
 | .own i _::r,.own j b::a,h=>⟨h.1,h.2.1,EqC.sh (cs:=r) (cs':=a) h.2.2⟩
 | [],_::_,h=>h.elim
 | .val _::_,[],h=>h.elim
 | .own _ _::_,[],h=>h.elim
 | .val _::_,.own _ _::_,h=>h.elim
 | .own _ _::_,.val _::_,h=>h.elim
theorem O0a{e:St}{i k a b:Nat}(h:rdA e (.own i k) = .own a b):a=i/\b=k:=by
 grind[rdA]
theorem R06{g e:St}:∀(cs cs':List N5),a06 g e cs cs'=true->ShC e cs cs'
 | [],[],_=>trivial
 | .val _::r,.val _::c,h=>R06 r c h
 | .own i _::r,.own j k::c,h=>by
  simp only[a06]at h
  split at h
  ·rename_i a b f d
   obtain⟨rfl,_⟩:=O0a d
   exact⟨Nat.eq_of_beq_eq_true f,⟨_,d⟩,R06 r c h⟩
  ·cases h
 | [],_::_,h=>by cases h
 | .val _::_,[],h=>by cases h
 | .own _ _::_,[],h=>by cases h
 | .val _::_,.own _ _::_,h=>by cases h
 | .own _ _::_,.val _::_,h=>by cases h
theorem k0c(e:St):∀(cs cs':List N5),ShC e cs cs'->∀ {K:List Value->Prop},e0k cs' e K->∃ vs,K vs/\∃ a,(∀(f:List Value) (c:List N5->List Value->Prop),F03 cs (vs++f) c=c a f)/\EqC e a cs' /\
  (∀ B,R04 B cs->R04 B a)
 | [],[],_,K,h=>⟨[],h,[],λ_ _=>rfl,trivial,λ_ h=>h⟩
 | .val _::r,.val v::n,b,K,h=>by
  obtain⟨vs,g,a,o,l,m⟩:=k0c e r n b (K:=λvs=>K (v::vs)) h
  exact⟨v::vs,g,.val v::a,λf c=>by grind[F03],⟨rfl,l⟩,λB d=>m B d⟩
 | .own i k::r,.own j p::n,b,K,h=>by
  obtain⟨vs,g,a,o,l,m⟩:=k0c e r n b.2.2 (K:=K) h
  exact⟨vs,g,.own i k::a,λf c=>by simp only[F03,o],⟨b.1,b.2.1,l⟩,λB d=>⟨d.1,m B d.2⟩⟩
 | [],_::_,h,_,_=>h.elim
 | .val _::_,[],h,_,_=>h.elim
 | .own _ _::_,[],h,_,_=>h.elim
 | .val _::_,.own _ _::_,h,_,_=>h.elim
 | .own _ _::_,.val _::_,h,_,_=>h.elim
theorem l0c(e:St):∀(cs:List N5) {K:List Value->Prop},e0k cs e K->∃ vs,K vs/\∀(b:List Value) (a:List N5->List Value->Prop),F03 cs (vs++b) a=a cs b
 | [],K,h=>⟨[],h,λ_ _=>rfl⟩
 | .val v::r,K,h=>by
  obtain⟨vs,c,d⟩:=l0c e r (K:=λvs=>K (v::vs)) h
  grind[F03]
 | .own i k::r,K,h=>by
  obtain⟨vs,c,d⟩:=l0c e r (K:=K) h
  grind[F03]
theorem q0h{a:Type}(l:List a)(i:Nat)(x:a)(h:nth l i=some x):B00 l i x=l:=by
 grind[F04,List.getElem?_eq_some_iff,y0a,List.set_getElem_self]
theorem y0n(e:St):∀(is:List Nat) {K:List Value->Prop},H0e is e K->∃ a,K a/\∀ b,X05 is a e.bx b=b e.bx
 | [],K,h=>⟨[],h,λ_=>rfl⟩
 |i::r,K,h=>by
  simp only[H0e]at h
  split at h
  ·rename_i cs ty j
   obtain⟨vs,c,d⟩:=l0c e cs h
   obtain⟨a,f,g⟩:=y0n e r c
   grind[X05,q0h]
  ·exact h.elim
theorem z0n(e:St):∀(is:List Nat) {K:List (List (List Value))->Prop},a0h is e K->∃ os,os.length=is.length/\K os/\∀ a,Y05 is os e.ow a=a e.ow
 | [],K,h=>⟨[],rfl,h,λ_=>rfl⟩
 |i::r,K,h=>by
  simp only[a0h]at h
  split at h
  ·rename_i g ty sz by_ nn xs f
   obtain⟨j,b,c,d⟩:=z0n e r h
   grind[Y05,q0h]
  ·exact h.elim
theorem A0n(e:St):∀(is:List Nat) (bx:List BSt),(∀ i∈is,∃ cs ty cs',nth bx i=some (.live cs ty)/\nth e.bx i=some (.live cs' ty)/\ShC e cs cs')->∀ {K:List Value->Prop},H0e is e K ->
  ∃ d,K d/\∃ b,(∀ f,X05 is d bx f=f b)/\b.length=bx.length/\(∀ i,i ∉ is->nth b i=nth bx i) /\
   (∀ i∈is,∃ c ty cs',nth b i=some (.live c ty)/\nth e.bx i=some (.live cs' ty)/\EqC e c cs') /\
   (∀ B,(∀ i cs ty,nth bx i=some (.live cs ty)->R04 B cs)->(∀ i cs ty,nth b i=some (.live cs ty)->R04 B cs))
 | [],bx,_,K,h=>⟨[],h,bx,λ_=>rfl,rfl,λ_ _=>rfl,by simp,λ_ h=>h⟩
 |i::r,bx,t,K,h=>by
  obtain⟨cs,ty,cs',q,g,s⟩:=t i mS
  simp only[H0e,g]at h
  obtain⟨vs,v,c,D,n,E⟩:=k0c e cs cs' s h
  have k:=K01 q
  have u:∀ j∈r,∃ l p m,nth (B00 bx i (.live c ty)) j=some (.live l p)/\nth e.bx j=some (.live m p)/\ShC e l m:=λj a=>by
   rw[o7 _ _ _ k]
   by_cases ej:j=i
   ·subst ej
    rw[if_pos rfl]
    exact⟨c,ty,cs',rfl,g,n.sh⟩
   grind
  obtain⟨d,w,b,F,x,o,y,z⟩:=A0n e r _ u v
  refine⟨vs++d,w,b,λf=>by grind[X05],by rw[x,l05],λj a=>?_,λj a=>?_,λB C=>z B λj A G a=>?_⟩
  ·simp only[List.mem_cons,not_or]at a
   rw[o j a.2,o7 _ _ _ k,if_neg a.1]
  ·by_cases hr:j∈r
   ·exact y j hr
   ·rcases List.mem_cons.1 a with rfl|a
    ·refine⟨c,ty,cs',?_,g,n⟩
     rw[o j hr,o7 _ _ _ k,if_pos rfl]
    ·exact absurd a hr
  grind[o7]
theorem B0n(g:St):∀(is:List Nat) (ow:List Own),(∀ i∈is,∃ f e sz by_ nn k c a xs,nth ow i=some ⟨f,.live e sz by_ nn k⟩/\nth g.ow i=some ⟨c,.live e sz by_ a xs⟩/\(nn=true->a=true)) ->
  ∀ {K:List (List (List Value))->Prop},a0h is g K->∃ os,os.length=is.length/\K os/\∃ d,(∀ l,Y05 is os ow l=l d)/\(∀ i,i ∉ is->nth d i=nth ow i) /\
   (∀ i∈is,∃ f e sz by_ nn c a xs,nth d i=some ⟨f,.live e sz by_ nn xs⟩/\nth g.ow i=some ⟨c,.live e sz by_ a xs⟩/\(nn=true->a=true)) /\
   (∀ i,(nth d i).map (·.stamp)=(nth ow i).map (·.stamp))
 | [],ow,_,K,h=>⟨[],rfl,h,ow,λ_=>rfl,λ_ _=>rfl,by simp,λ_=>rfl⟩
 |i::r,ow,w,K,h=>by
  obtain⟨f,e,sz,by_,nn,k,c,a,xs,p,q,v⟩:=w i mS
  simp only[a0h,q]at h
  have m:=K01 p
  have x:∀ j∈r,∃ C o u n t k c a D,nth (B00 ow i ⟨f,.live e sz by_ nn xs⟩) j=some ⟨C,.live o u n t k⟩/\nth g.ow j=some ⟨c,.live o u n a D⟩/\(t=true->a=true):=λj b=>by
   rw[o7 _ _ _ m]
   grind
  obtain⟨os,y,z,d,A,s,B,E⟩:=B0n g r _ x h
  refine⟨xs::os,by simp[y],z,d,λl=>by simp only[Y05,p,A],λj b=>?_,λj b=>?_,λj=>?_⟩
  ·simp only[List.mem_cons,not_or]at b
   rw[s j b.2,o7 _ _ _ m,if_neg b.1]
  ·by_cases hr:j∈r
   ·exact B j hr
   ·rcases List.mem_cons.1 b with rfl|b
    ·refine⟨f,e,sz,by_,nn,c,a,xs,?_,q,v⟩
     rw[s j hr,o7 _ _ _ m,if_pos rfl]
    ·exact absurd b hr
  grind[o7]
theorem Y07{A:Ann}{m e:St}:∀(i:Nat) (bx c:List BSt),Y0b A m e i bx c->∀ k b,nth bx k=some b ->
  (i+k∈A.boxes/\∃ cs ty cs',b = .live cs ty/\nth c k=some (.live cs' ty)/\ShC e cs cs')∨(i+k ∉ A.boxes/\nth c k=some b/\r0m A.owns b=true)
 |i,[],_,_,k,b,a=>by cases k<;>cases a
 |i,x::r,[],h,_,_,_=>by cases h
 |i,x::r,y::f,h,k,b,a=>by
  simp only[Y0b]at h
  split at h
  ·rename_i d
   split at h
   ·rename_i cs ty cs' n
    split at h
    ·rename_i g j
     have:=Nat.eq_of_beq_eq_true g
     subst this
     cases k with
     |zero=>cases a;exact .inl ⟨(P03 _ _).1 d,cs,ty,cs',rfl,rfl,R06 _ _ j⟩
     |succ k=>have:=Y07 (i+1) r f h k b a;rwa [show i+1+k=i+(k+1) from by omega]at this
    ·exact h.elim
   ·exact h.elim
  ·rename_i d
   split at h
   ·rename_i l
    obtain⟨rfl,h⟩:=h
    cases k with
    |zero=>cases a;exact .inr ⟨Q06 d,rfl,l⟩
    |succ k=>have:=Y07 (i+1) r f h k b a;rwa [show i+1+k=i+(k+1) from by omega]at this
   ·exact h.elim
theorem Z07{A:Ann}:∀(i:Nat) (ow f:List Own),Z0b A i ow f->∀ k b,nth ow k=some b ->
  (i+k∈A.owns/\∃ g e sz by_ nn n j d xs,b=⟨g,.live e sz by_ nn n⟩/\nth f k=some ⟨j,.live e sz by_ d xs⟩/\(nn=true->d=true)/\(i+k∈A.kept->g=j))∨(i+k ∉ A.owns/\nth f k=some b)
 |i,[],_,_,k,b,a=>by cases k<;>cases a
 |i,x::r,[],h,_,_,_=>by cases h
 |i,x::r,y::m,h,k,b,a=>by
  simp only[Z0b]at h
  split at h
  ·rename_i c
   split at h
   ·rename_i g e sz by_ nn n j u v t d xs
    split at h
    ·rename_i o p q s l
     have:=Nat.eq_of_beq_eq_true o
     subst this
     have:=Nat.eq_of_beq_eq_true p
     subst this
     have:=Nat.eq_of_beq_eq_true q
     subst this
     cases k with
     |zero=>cases a;exact .inl ⟨(P03 _ _).1 c,_,_,_,_,_,_,_,_,_,rfl,rfl,(λh=>by subst h;exact s),λh=>by rw[show X08 i A.kept=true from(P03 _ _).2 h]at l;exact Nat.eq_of_beq_eq_true l⟩
     |succ k=>have:=Z07 (i+1) r m h k b a;rwa [show i+1+k=i+(k+1) from by omega]at this
    ·exact h.elim
   ·exact h.elim
  ·rename_i c
   obtain⟨rfl,h⟩:=h
   cases k with
   |zero=>cases a;exact .inr ⟨Q06 c,rfl⟩
   |succ k=>have:=Z07 (i+1) r m h k b a;rwa [show i+1+k=i+(k+1) from by omega]at this
def P0a(A:Ann)(st:St):AV->Prop
 | .val _ | .hel _ _ _ _ | .dead=>True
 | .agg cs=>q0n cs=true
 | .box i _=>i<st.bx.length
 | .own i k=>(i ∉ A.owns∨i∈A.kept)/\stamp st i=some k
 | .oel _ _ _ _ _=>False
theorem C0n{st:St}{av:AV}{i off:Nat}(h:rdA st av = .box i off):i<st.bx.length:=by
 cases av with
 |box j o =>
  simp only[rdA]at h
  split at h
  all_goals simp_all[K01]
 |own j k =>
  grind[rdA]
 |oel j s idx sz k =>
  grind[rdA]
 |_=>cases h
theorem m0c{st:St}{av:AV}{i k:Nat}(h:rdA st av = .own i k):stamp st i=some k:=by
 grind[F06,stamp]
theorem P09(A:Ann)(ds:List Nat)(st:St):∀(l:List (Nat×AV)) {K:List (Nat×AV)->Prop},Z05 A ds st l K->∃ a,K a/\∀ t,t ∉ ds ->
  G3 a t = .dead∨(G3 a t=rdA st (G3 l t)/\P0a A st (G3 a t))
 | [],K,h=>⟨[],h,λt _ => .inl rfl⟩
 |(j,av)::r,K,h=>by
  have put:∀ f,(f = .dead∨(f=rdA st av/\P0a A st f))->(Z05 A (j::ds) st r λl=>K ((j,f)::l))->∃ a,K a/\∀ t,t ∉ ds ->
    G3 a t = .dead∨(G3 a t=rdA st (G3 ((j,av)::r) t)/\P0a A st (G3 a t)):=by
   intro f q h
   obtain⟨a,c,d⟩:=P09 A (j::ds) st r h
   refine⟨_,c,λt m=>?_⟩
   rw[Y3,Y3]
   by_cases e:j=t
   ·rw[if_pos e,if_pos e];exact q
   ·rw[if_neg e,if_neg e];exact d t λg=>by
     rcases List.mem_cons.1 g with k|k
     ·exact e k.symm
     ·exact m k
  simp only[Z05]at h
  split at h
  ·rename_i g
   obtain⟨a,c,d⟩:=P09 A ds st r h
   refine⟨a,c,λt m=>?_⟩
   rw[Y3,if_neg (λe=>m (by rw[←e];exact(P03 _ _).1 g))]
   exact d t m
  ·split at h
   ·rename_i i k b
    split at h
    ·exact put _ (.inl rfl) h
    ·rename_i g
     refine put _ (.inr ⟨b.symm,?_,m0c b⟩) h
     cases c:X08 i A.owns with
     |false=>exact .inl (Q06 c)
     |true =>
      cases d:X08 i A.kept with
      |true=>exact .inr ((P03 _ _).1 d)
      |false=>exact absurd d (g c)
   ·exact put _ (.inl rfl) h
   ·rename_i cs b
    split at h
    ·rename_i s
     exact put _ (.inr ⟨b.symm,s⟩) h
    ·exact put _ (.inl rfl) h
   ·rename_i c d p
    refine put _ (.inr ⟨rfl,?_⟩) h
    cases b:rdA st av with
    |own i k=>exact absurd b (c i k)
    |oel i n idx sz k=>exact absurd b (d i n idx sz k)
    |agg cs=>exact absurd b (p cs)
    |box i o=>exact C0n b
    |val v=>trivial
    |hel n idx sz k=>trivial
    |dead=>trivial
def E0k(st:St)(t:Nat)(av:AV):Prop :=
 av = .dead∨(∃ i k,av = .own i k/\stamp st i=some k/\rdA st (G3 st.fr t) = .own i k)∨(∃ i o,av = .box i o/\i<st.bx.length/\rdA st (G3 st.fr t) = .box i o)
theorem Q09(A:Ann)(st:St):∀(l:List Nat) (acc:List (Nat×AV)) {K:List (Nat×AV)->Prop},headD A st l acc K->(∀ p∈acc,E0k st p.1 p.2) ->
  ∃ a,K a/\(∀ p∈a,p.1∈l∨p∈acc)/\(∀ p∈a,E0k st p.1 p.2)/\(∀ t∈l,t ∉ A.vars->∃ av,(t,av)∈a)/\(∀ p∈acc,p∈a)
 | [],acc,K,h,f=>⟨acc,h,λp c => .inr c,f,by simp,λ_ h=>h⟩
 |d::r,acc,K,h,f=>by
  have put:∀ e,E0k st d e->headD A st r ((d,e)::acc) K->∃ a,K a/\(∀ p∈a,p.1∈d::r∨p∈acc)/\(∀ p∈a,E0k st p.1 p.2)/\(∀ t∈d::r,t ∉ A.vars->∃ av,(t,av)∈a)/\(∀ p∈acc,p∈a):=by
   intro e s h
   obtain⟨a,g,j,m,q,n⟩:=Q09 A st r _ h (λp c=>by
    grind)
   grind
  simp only[headD]at h
  split at h
  ·rename_i u
   obtain⟨a,g,j,m,q,n⟩:=Q09 A st r _ h f
   refine⟨a,g,λp c=>(j p c).imp (mC _) id,m,λt v w=>?_,n⟩
   grind[absurd,P03]
  ·split at h
   ·rename_i i k b
    exact put _ (.inr (.inl ⟨i,k,rfl,m0c b,b⟩)) h
   ·rename_i i o b
    exact put _ (.inr (.inr ⟨i,o,rfl,C0n b,b⟩)) h
   ·exact put _ (.inl rfl) h
theorem c0f:∀(b a:List (Nat×AV)) (t:Nat),(∃ av,(t,av)∈b/\G3 (b++a) t=av)∨((∀ av,(t,av) ∉ b)/\G3 (b++a) t=G3 a t)
 | [],a,t => .inr ⟨by simp,rfl⟩
 |(f,av)::r,a,t=>by
  simp only[List.cons_append]
  rw[Y3]
  by_cases e:f=t
  ·grind
  ·rw[if_neg e]
   rcases c0f r a t with⟨g,c,d⟩|⟨c,d⟩
   all_goals grind
theorem d0f{c e:St}:∀(b:List (Nat×AV)),k0d c e b=true->∀ t av,(t,av)∈b->(∀ i k,av = .own i k->∃ a,rdA e (G3 e.fr t) = .own i a)/\(∀ i o,av = .box i o->rdA e (G3 e.fr t) = .box i o)
 | [],_,t,av,h=>by cases h
 |(f,x)::r,g,t,av,h=>by
  have d:k0d c e r=true/\(∀ i k,x = .own i k->∃ a,rdA e (G3 e.fr f) = .own i a)/\(∀ i o,x = .box i o->rdA e (G3 e.fr f) = .box i o):=by
   simp only[k0d]at g
   grind[Nat.eq_of_beq_eq_true,absurd]
  rcases List.mem_cons.1 h with h|h
  ·cases h;exact d.2
  ·exact d0f r d.1 t av h
theorem R09{fr:List (Nat×AV)}:∀(a:List (Nat×AV)),b0h fr a=J0o a->∀ t,G3 a t = .dead∨G3 fr t=G3 a t
 | [],_,t => .inl rfl
 |(b,av)::r,h,t=>by
  rw[Y3]
  simp only[b0h,J0o]at h
  cases hd:q0m av with
  |true =>
   rw[hd]at h
   by_cases e:b=t
   ·rw[if_pos e]
    left
    cases av<;>first|rfl|cases hd
   ·rw[if_neg e]
    exact R09 r h t
  |false =>
   rw[hd]at h
   simp only[List.cons.injEq]at h
   by_cases e:b=t
   ·grind
   ·rw[if_neg e]
    exact R09 r h.2 t
theorem n0c{e l:St}{be:Nat->Nat}{oe:Nat->Value}:∀ {d cs':List N5} {vs:List Value},EqC e d cs'->R04 (λj k=>∃ c,stamp l j=some c/\k<=c) d->G2 e oe cs' vs->G2 l oe d vs
 | [],[],[],_,_,_=>trivial
 | .val v::r,.val q::o,x::vs,h,a,g=>⟨by rw[show x=q from g.1,h.1];rfl,n0c (be:=be) h.2 a g.2⟩
 | .own i k::r,.own j s::o,x::vs,h,a,g=>by
  obtain⟨n,⟨b,f⟩,h⟩:=h
  subst n
  obtain⟨⟨c,s1,s2⟩,a⟩:=a
  refine⟨⟨c,s1,s2,λ_=>?_⟩,n0c (be:=be) h a g.2⟩
  obtain⟨_,m⟩:=O0a f
  subst m
  obtain⟨t,p,u,w⟩:=g.1
  rw[m0c f]at p
  grind
 | [],_::_,_,h,_,_=>h.elim
 | .val _::_,[],_,h,_,_=>h.elim
 | .own _ _::_,[],_,h,_,_=>h.elim
 | .val _::_,.own _ _::_,_,h,_,_=>h.elim
 | .own _ _::_,.val _::_,_,h,_,_=>h.elim
 |_,_::_,[],_,_,g=>g.elim
 |_,[],_::_,_,_,g=>g.elim
theorem S06{os:List Nat}{e c:St}{oe:Nat->Value}(d:∀ j,j ∉ os->∀ a,stamp c j=some a->stamp e j=some a):∀ {cs:List N5} {vs:List Value},t0a os cs=true ->
  R04 (λj k=>∃ a,stamp c j=some a/\k<=a) cs->G2 e oe cs vs->G2 c oe cs vs
 | [],[],_,_,_=>trivial
 | .val v::r,x::vs,h,b,g=>⟨g.1,S06 d h b g.2⟩
 | .own i k::r,x::vs,h,b,g=>by
  simp only[t0a]at h
  split at h
  ·cases h
  ·rename_i l
   obtain⟨⟨a,s1,s2⟩,b⟩:=b
   refine⟨⟨a,s1,s2,λf=>?_⟩,S06 d h b g.2⟩
   obtain⟨m,n,o,p⟩:=g.1
   grind[Q06]
 | [],_::_,_,_,g=>g.elim
 |_::_,[],_,_,g=>g.elim
section
variable {P:Program} {h0:Hp} {w0:World} {be:Nat->Nat} {oe:Nat->Value} {H:Hp} {h:Hp} {a:Act} {w:World}
theorem o0q{A:Ann}{e l:St}(c:Sim P h0 w0 be oe H e h a w)(N:e.n=l.n)
  (I:∀ i b,nth l.bx i=some b->(∃ C ty cs',b = .live C ty/\nth e.bx i=some (.live cs' ty)/\EqC e C cs')∨(nth e.bx i=some b/\r0m A.owns b=true))
  (O:∀ i o,nth l.ow i=some o->(∃ c t sz by_ nn B q xs,o=⟨c,.live t sz by_ nn xs⟩/\nth e.ow i=some ⟨B,.live t sz by_ q xs⟩/\(nn=true->q=true))/\i∈A.owns∨(nth e.ow i=some o/\i ∉ A.owns))
  (G:∀ i cs ty,nth l.bx i=some (.live cs ty)->R04 (λj k=>∃ c,stamp l j=some c/\k<=c) cs)
  (hf:∀ t,Good l be oe (G3 l.fr t) (a.tmps.getD t undef)):Sim P h0 w0 be oe H l h a w:=by
 have Q:∀ j,j ∉ A.owns->∀ c,stamp l j=some c->stamp e j=some c:=λj s m Z=>by
  grind[stamp,nth,absurd]
 have E:∀ i cs ty,nth l.bx i=some (.live cs ty)->∃ cs',nth e.bx i=some (.live cs' ty):=λi cs ty f=>by
  grind
 have D:∀ i m t sz by_ nn xs,nth l.ow i=some ⟨m,.live t sz by_ nn xs⟩->∃ B q,nth e.ow i=some ⟨B,.live t sz by_ q xs⟩/\(nn=true->q=true):=λi m t sz by_ nn xs f=>by
  grind
 refine⟨c.mv,c.sub,λi cs ty f=>?_,λi b f=>?_,λi m t sz by_ nn xs f=>?_,λi m v f=>?_,λi j cs ty cs' U f s=>?_,λi j m t sz by_ nn xs s1 T S L R W g f s=>?_,λi cs ty j m t sz by_ nn xs f s=>?_,c.dfr,by rw[c.siz,N],hf⟩
 ·rcases I i _ f with⟨C,V,cs',x,d,p⟩|⟨d,p⟩
  ·cases x
   obtain⟨y,vs,z,F⟩:=c.box i cs' ty d
   exact⟨y,vs,n0c (be:=be) p (G i _ _ f) z,F⟩
  ·obtain⟨y,vs,z,F⟩:=c.box i cs ty d
   exact⟨y,vs,S06 Q p (G i _ _ f) z,F⟩
 ·rcases I i _ f with⟨C,V,cs',x,d,p⟩|⟨d,p⟩
  ·cases x
  ·exact c.pub i b d
 ·obtain⟨B,q,d,p⟩:=D i _ _ _ _ _ _ f
  obtain⟨y,z⟩:=c.own i _ _ _ _ _ _ d
  refine⟨y,z.imp (λ⟨J,K,X⟩=>⟨J,K,?_⟩) id⟩
  grind
 ·rcases O i _ f with⟨⟨s1,T,S,L,R,B,q,W,x,d,p⟩,_⟩|⟨d,_⟩
  ·cases x
  ·exact c.frz i m v d
 ·obtain⟨M,u⟩:=E i cs ty f
  obtain⟨Y,d⟩:=E j cs' U s
  exact c.bb i j _ _ _ _ u d
 ·obtain⟨_,_,u,_⟩:=D i _ _ _ _ _ _ f
  obtain⟨_,_,d,_⟩:=D j _ _ _ _ _ _ s
  exact c.oo i j _ _ _ _ _ _ _ _ _ _ _ _ g u d
 ·obtain⟨M,u⟩:=E i cs ty f
  obtain⟨_,_,d,_⟩:=D j _ _ _ _ _ _ s
  exact c.bo i _ _ j _ _ _ _ _ _ u d
end
section
variable {P:Program} {h0:Hp} {w0:World} {be:Nat->Nat} {oe:Nat->Value} {H:Hp} {st:St} {h:Hp} {a:Act} {w:World}
theorem p0q(b:Sim P h0 w0 be oe H st h a w):∀ i cs ty,nth st.bx i=some (.live cs ty)->R04 (λj k=>∃ b,stamp st j=some b/\k<=b) cs:=by
 intro i cs ty l
 obtain⟨_,vs,g,_⟩:=b.box i cs ty l
 have:∀(cs:List N5) (vs:List Value),G2 st oe cs vs->R04 (λj k=>∃ b,stamp st j=some b/\k<=b) cs:=by
  intro cs
  induction cs with
  |nil=>intro vs _;trivial
  |cons c r d =>
   intro vs g
   cases vs with
   |nil=>exact g.elim
   |cons v vs =>
    cases c with
    |val x=>exact d vs g.2
    |own j k =>
     obtain⟨m,e,f,_⟩:=g.1
     exact⟨⟨m,e,f⟩,d vs g.2⟩
 exact this cs vs g
theorem F0k(p:Nat->Prop)(h:∃ n,p n):∃ n,p n/\∀ m,p m->n<=m:=by
 obtain⟨n,a⟩:=h
 induction n using Nat.strongRecOn with
 |_ n b =>
  grind
theorem D0n:∀(a b:List Value),j0s a b=true->a.length=b.length
 | [],[],_=>rfl
 |_::r,_::c,h=>by simp[D0n r c h]
 | [],_::_,h=>by cases h
 |_::_,[],h=>by cases h
theorem Y0t{A:Ann}{ds:List Nat}{st e m:St}{f l:List (Nat×AV)}{y:List Value}{av1:∀ t,(G3 (X0b A.vars y (f++l)) t=G3 (f++l) t/\t ∉ A.vars)∨(∃ v,G3 (X0b A.vars y (f++l)) t = .val v/\rdA e (G3 e.fr t) = .val v)}
  (J:Sim P h0 w0 be oe H e h a w) (O:m.fr=X0b A.vars y (f++l)) (C:m.bx.length=st.bx.length) (D:∀ i,stamp m i=stamp st i)
  (ad:∀ i k,(i ∉ A.owns∨i∈A.kept)->stamp st i=some k->stamp e i=stamp m i)
  (aa:∀ p∈f,p.1∈ds) (K:∀ p∈f,E0k st p.1 p.2) (ab:∀ t∈ds,t ∉ A.vars->∃ av,(t,av)∈f)
  (s1:∀ t,t ∉ ds->P0a A st (G3 l t)) (S:∀ t av,(t,av)∈f->(∀ i k,av = .own i k->∃ F,rdA e (G3 e.fr t) = .own i F)/\(∀ i o,av = .box i o->rdA e (G3 e.fr t) = .box i o))
  (T:∀ t,G3 l t = .dead∨G3 e.fr t=G3 l t):∀ t,Good m be oe (G3 m.fr t) (a.tmps.getD t undef):=by
 intro t
 rw[O]
 have b:=J.fr t
 have n:=J.rdA b
 rcases av1 t with⟨q,af⟩|⟨v,q,L⟩
 ·rw[q]
  rcases c0f f l t with⟨av,s,u⟩|⟨s,u⟩
  ·rw[u]
   obtain⟨W,X⟩:=S t av s
   rcases K _ s with rfl|⟨i,k,rfl,d,_⟩|⟨i,o,rfl,M,_⟩
   ·trivial
   ·obtain⟨F,B⟩:=W i k rfl
    rw[B]at n
    refine⟨k,by rw[D,d],Nat.le_refl _,λ_=>?_⟩
    obtain⟨z,aj,Z,ah,ak,Q⟩:=F06 B
    exact n.own_cur Q
   ·rw[X i o rfl]at n
    exact⟨by rw[C];exact M,n.2⟩
  ·rw[u]
   have U:t ∉ ds:=λac=>by
    grind
   rcases T t with N|z
   ·rw[N];trivial
   have d:=s1 t U
   rw[z]at b
   cases hl:G3 l t with
   |val v=>rw[hl]at b;exact b
   |hel Y idx sz k=>rw[hl]at b;exact b
   |dead=>trivial
   |agg cs =>
    rw[hl]at b d
    obtain⟨vs,G,I⟩:=b
    refine⟨vs,G,?_⟩
    have:∀(cs:List N5) (vs:List Value),q0n cs=true->G2 e oe cs vs->G2 m oe cs vs:=by
     intro cs
     induction cs with
     |nil=>intro vs _ g;cases vs<;>exact g
     |cons c r V =>
      intro vs E g
      cases vs with
      |nil=>exact g.elim
      |cons v vs =>
       cases c with
       |val x=>exact⟨g.1,V vs E g.2⟩
       |own j k=>cases E
    exact this cs vs d I
   |box i o =>
    rw[hl]at b d
    exact⟨by rw[C];exact d,b.2⟩
   |own i k =>
    rw[hl]at b d
    obtain⟨ae,R⟩:=d
    obtain⟨ai,G,I,ag⟩:=b
    refine⟨k,by rw[D,R],Nat.le_refl _,λ_=>?_⟩
    grind
   |oel i Y idx sz k=>rw[hl]at d;exact d.elim
 ·rw[q]
  rw[L]at n
  exact n
theorem s0d:∀(l:List (Nat×Nat×Nat×Nat)) (st:St) (oe:Nat->Value) {K:St->Prop},Sim P h0 w0 be oe H st h a w->c0k l st K->∃ st' oe',K st'/\Sim P h0 w0 be oe' H st' h a w
 | [],st,oe,K,d,c=>⟨st,oe,c,d⟩
 |(t,e,sz,by_)::r,⟨n,fr,bx,ow⟩,oe,K,d,c=>by
  simp only[c0k]at c
  split at c
  ·rename_i j p
   rw[p0a]at c
   have f:=d.rdA (d.fr t)
   have k:a.tmps.getD t undef = .slice none 0 0:=by
    have:rdA ⟨n,fr,bx,ow⟩ (G3 fr t) = .val (.slice none 0 0):=j
    rw[show rdA ⟨n,fr,bx,ow⟩ (G3 (St.mk n fr bx ow).fr t) = .val (.slice none 0 0) from this]at f
    exact f
   have g:b06 h H (.slice none 0 0) e sz false []:=⟨by simp,.inl ⟨rfl,rfl,rfl⟩⟩
   obtain⟨s1,m⟩:=d.newOwn (by_:=by_) (λb o i=>i) (U2.refl d.mv.vis) g (by simp[Value.ownBlock])
   refine s0d r _ _ (s1.refr (fr:=(t,.own ow.length 0)::fr) λu=>?_) c
   rw[Y3]
   by_cases eu:t=u
   ·subst eu
    rw[if_pos rfl,k]
    exact⟨0,by simp[stamp,k02],Nat.le_refl _,λ_=>by simp⟩
   ·rw[if_neg eu]
    exact s1.fr u
  ·exact c.elim
theorem Q0a:∀(l:List (Nat×Nat×Nat×Nat×Nat)) (st:St) (oe:Nat->Value) {K:St->Prop},Sim P h0 w0 be oe H st h a w->G0e l st K->∃ st' oe',K st'/\Sim P h0 w0 be oe' H st' h a w
 | [],st,oe,K,g,f=>⟨st,oe,f,g⟩
 |(i,k,e,sz,by_)::r,⟨n,fr,bx,ow⟩,oe,K,g,f=>by
  simp only[G0e]at f
  split at f
  rotate_left
  ·exact f.elim
  rename_i cs ty B
  split at f
  rotate_left
  ·exact f.elim
  rename_i N
  rw[p0a]at f
  have J:b06 h H (.slice none 0 0) e sz false []:=⟨by simp,.inl ⟨rfl,rfl,rfl⟩⟩
  obtain⟨s1,W⟩:=g.newOwn (by_:=by_) (λb o L=>L) (U2.refl g.mv.vis) J (by simp[Value.ownBlock])
  have A:=K01 B
  refine Q0a r _ (λj=>if j=ow.length then .slice none 0 0 else oe j) ?_ f
  have q:Q6 ⟨n,fr,bx,ow ++ [⟨0,.live e sz by_ false []⟩]⟩ be (λj=>if j=ow.length then .slice none 0 0 else oe j) ⟨n,fr,B00 bx i (.live (B00 cs k (.own ow.length 0)) ty),ow ++ [⟨0,.live e sz by_ false []⟩]⟩ be (λj=>if j=ow.length then .slice none 0 0 else oe j) :=
   ⟨by simp[l05],λ_ _=>rfl,λi g h=>⟨g,h,Nat.le_refl _,λ_=>rfl⟩⟩
  have u:∀ j cs' m,nth (B00 bx i (.live (B00 cs k (.own ow.length 0)) ty)) j=some (.live cs' m)->∃ D,nth bx j=some (.live D m):=λj cs' m d=>by
   grind[o7]
  refine⟨s1.mv,s1.sub,λj cs' m d=>?_,λj b d=>?_,s1.own,s1.frz,λj x S Z T aa F G=>?_,s1.oo,λj cs' m x X V Y R nn xs d M=>?_,s1.dfr,s1.siz,λt=>(s1.fr t).grow q⟩
  ·rw[o7 _ _ _ A]at d
   split at d
   ·rename_i E
    subst E
    cases d
    obtain⟨y,vs,p,z⟩:=s1.box j cs ty B
    refine⟨y,vs,?_,z⟩
    obtain⟨v,ab,Q⟩:=p.nth N
    have O:v = .slice none 0 0:=Q
    have:=(p.grow q).upd (k:=k) (c := .own ow.length 0) (v:=v) (by rw[O];exact⟨0,by simp[stamp,k02],Nat.le_refl _,λ_=>by simp⟩)
    rwa [show vs.set k v=vs from by
     grind[List.getElem?_eq_some_iff,List.set_getElem_self]]at this
   ·obtain⟨y,vs,p,z⟩:=s1.box j cs' m d
    exact⟨y,vs,p.grow q,z⟩
  ·rw[o7 _ _ _ A]at d
   split at d
   ·cases d
   ·exact s1.pub j b d
  ·obtain⟨C,s⟩:=u _ _ _ F
   obtain⟨U,I⟩:=u _ _ _ G
   exact s1.bb j x _ _ _ _ s I
  ·obtain⟨C,s⟩:=u _ _ _ d
   exact s1.bo j _ _ x _ _ _ _ _ _ s M
theorem S09:∀(l:List Nat) {st:St} {h:Hp} {K:St->Hp->Prop},Sim P h0 w0 be oe H st h a w->d0k l st h K->∃ st' h',K st' h'/\Sim P h0 w0 be oe H st' h' a w
 | [],st,h,K,b,c=>⟨st,h,c,b⟩
 |t::r,st,h,K,b,c=>by
  simp only[d0k]at c
  obtain⟨⟨n,fr,bx,ow⟩,h',d,s1,_⟩:=K02 b (b.rdA (b.fr t)) c
  dsimp only at d
  split at d
  ·refine S09 r (s1.refr (fr:=(t,.val (a.tmps.getD t undef))::fr) λu=>?_) d
   rw[Y3]
   by_cases eu:t=u
   ·subst eu
    rw[if_pos rfl]
    rfl
   ·rw[if_neg eu]
    exact s1.fr u
  ·exact d.elim
set_option maxHeartbeats 1000000 in
theorem x0m{Y:Code}{O:List Nat}{Q:Ex->St->Hp->Prop}
  (C:∀(Q:Ex->St->Hp->Prop) (st:St) (h:Hp) (a:Act) (w:World) (be:Nat->Nat) (oe:Nat->Value) (H:Hp),Sim P h0 w0 be oe H st h a w->ev P Y Q st h->Y.wp P (b0f P h0 w0 Q) a w)
  (f:Sim P h0 w0 be oe H st h a w) (g:r0n (λQ=>ev P Y Q) O Q st h):(Code.loop Y).wp P (b0f P h0 w0 Q) a w:=by
 obtain⟨A,aN,μ,g⟩:=g
 obtain⟨st,oe,g,f⟩:=s0d _ _ _ f g
 obtain⟨st,oe,g,f⟩:=Q0a _ _ _ f g
 obtain⟨st,h,g,f⟩:=S09 _ f g
 unfold p0m at g
 obtain⟨D,bn,g,bo⟩:=j0c st _ g
 obtain⟨ac,g,aD⟩:=y0n st _ g
 obtain⟨ab,a9,⟨Z,g⟩,aE⟩:=z0n st _ g
 rw[p0h]at g
 obtain⟨E,g,aR,aB,aC,_⟩:=Q09 A st _ _ g (by simp)
 obtain⟨V,a3,s1⟩:=P09 A O st _ g
 have aS:∀ p∈E,p.1∈O:=λp R=>(aR p R).resolve_right (by simp)
 have bA:∀ t,t ∉ O->P0a A st (G3 V t):=λt bj=>by
  rcases s1 t bj with h|⟨_,h⟩
  ·rw[h];trivial
  ·exact h
 have bb:=λ(vs:List Value) (ae:vs.length=(D++ac).length) (os:List (List (List Value))) (ao:os.length=ab.length)=>N0a _ (M0a _ a3 vs ae) os ao
 let z:List Value->List BSt->List Own->St:=λD bx ow=>⟨st.n,X0b A.vars D (E++V),bx,ow⟩
 let Inv:Nat->Act->World->Prop:=λm a w=>∃(vs:List Value) (os:List (List (List Value))) (ag az:List Value) (bx:List BSt) (ow:List Own) (h':Hp) (be:Nat->Nat) (oe:Nat->Value) (H:Hp),
  vs.length=(D++ac).length/\os.length=ab.length/\vs=ag++az/\ag.length=A.vars.length/\(∀ W,X05 A.boxes az st.bx W=W bx)/\(∀ W,Y05 A.owns os st.ow W=W ow) /\
   atI A aN μ m vs os h'/\Sim P h0 w0 be oe H (z ag bx ow) h' a w
 have aO:=p0q f
 have a1:∀ m a w,Inv m a w->Y.wp P (Exit.then (λa w=>∃ T,Inv T a w/\T<m) (b0f P h0 w0 Q)) a w:=by
  rintro m a w ⟨vs,os,ag,az,bx,ow,h',be,oe,H,ae,ao,rfl,bl,bc,bf,Z,aZ⟩
  have S:=X0p (bb _ ae os ao) Z
  rw[←bl,O09,bc,bf]at S
  refine Code.wp_mono (λe ai aA R=>?_) (C _ _ _ _ _ _ _ _ aZ S)
  cases e with
  |normal =>
   obtain⟨e,l,aP,bv,aM,I,s2⟩:=R
   dsimp only at I
   obtain⟨e,l,I,s2⟩:=S09 _ s2 I
   unfold Y0p at I
   split at I
   ·rename_i a2 bd
    obtain⟨ba,bi,bh,s⟩:=I
    have J:=Nat.eq_of_beq_eq_true a2
    have B:=Y07 0 _ _ bi
    have af:=Z07 0 _ _ bh
    simp only[Nat.zero_add]at B af
    unfold p0m at s
    obtain⟨ad,aG,s,bp⟩:=j0c e _ s
    have a6:∀(is:List Nat) {K:List Value->Prop},H0e is e K->(∀ i∈is,i∈A.boxes)->(∀ i∈is,(nth st.bx i).isSome=true) ->
      ∀ i∈is,∃ cs ty cs',nth st.bx i=some (.live cs ty)/\nth e.bx i=some (.live cs' ty)/\ShC e cs cs':=by
     intro is K _ bF ap i d
     cases hb:nth st.bx i with
     |none=>have:=ap i d;rw[hb]at this;cases this
     |some b =>
      grind
    have ap:∀ i∈A.boxes,(nth st.bx i).isSome=true:=by
     have aj:∀(is:List Nat) (vs:List Value) (bx:List BSt),(X05 is vs bx λ_=>True)->∀ i∈is,(nth bx i).isSome=true:=by
      intro is
      induction is with
      |nil=>intro vs bx _ i d;cases d
      |cons j r C =>
       intro vs bx u i d
       simp only[X05]at u
       split at u
       ·rename_i cs ty J
        rcases List.mem_cons.1 d with rfl|d
        ·rw[J];rfl
        ·have a4:∀(cs:List N5) (vs:List Value) (K:List N5->List Value->Prop),F03 cs vs K->∃ a b,K a b:=by
          intro cs
          induction cs with
          |nil=>intro vs K h;exact⟨_,_,h⟩
          |cons c r C =>
           intro vs K h
           cases c with
           |val v =>
            cases vs with
            |nil=>exact h.elim
            |cons bG vs=>obtain⟨a,b,h⟩:=C _ _ h;exact⟨_,_,h⟩
           |own i k=>obtain⟨a,b,h⟩:=C _ _ h;exact⟨_,_,h⟩
         obtain⟨a,b,u⟩:=a4 _ _ _ u
         have:=C _ _ u i d
         rw[o7 _ _ _ (K01 J)]at this
         grind
       ·exact u.elim
     exact aj A.boxes ac st.bx (by rw[aD];trivial)
    have bg:∀ i∈A.owns,(nth st.ow i).isSome=true:=by
     have aj:∀(is:List Nat) (vs:List (List (List Value))) (ow:List Own),(Y05 is vs ow λ_=>True)->∀ i∈is,(nth ow i).isSome=true:=by
      intro is
      induction is with
      |nil=>intro vs bx _ i d;cases d
      |cons j r C =>
       intro vs ow u i d
       cases vs with
       |nil=>exact u.elim
       |cons x vs =>
        simp only[Y05]at u
        split at u
        ·rename_i J
         rcases List.mem_cons.1 d with rfl|d
         ·rw[J];rfl
         ·have:=C _ _ u i d
          rw[o7 _ _ _ (K01 J)]at this
          grind
        ·exact u.elim
     exact aj A.owns ab st.ow (by rw[aE];trivial)
    obtain⟨aL,s,N,aK,bB,bC,bD,bE⟩:=A0n e A.boxes st.bx (a6 _ s (λ_ h=>h) ap) s
    have a7:∀ i∈A.owns,∃ f F sz by_ nn ah U L xs,nth st.ow i=some ⟨f,.live F sz by_ nn ah⟩/\nth e.ow i=some ⟨U,.live F sz by_ L xs⟩/\(nn=true->L=true):=λi d=>by
     cases hb:nth st.ow i with
     |none=>have:=bg i d;rw[hb]at this;cases this
     |some b =>
      rcases af i b hb with⟨_,f,F,sz,by_,nn,ah,U,L,xs,rfl,l,ak,_⟩|⟨q,_⟩
      ·exact⟨f,F,sz,by_,nn,ah,U,L,xs,rfl,l,ak⟩
      ·exact absurd d q
    obtain⟨bz,br,s,M,aH,bs,bt,bu⟩:=B0n e A.owns st.ow a7 s
    split at s
    rotate_left
    ·exact s.elim
    rename_i a8
    rw[←aG,O09,aK,aH]at s
    obtain⟨aa,aX,am⟩:=l0s s
    have aq:∀ i,stamp (z ad N M) i=stamp st i:=λi=>by
     have:=bu i
     unfold stamp
     simp only[z]
     cases q:nth M i<;>cases l:nth st.ow i<;>rw[q,l]at this<;>simp at this<;>simp[this]
    refine⟨aa,⟨ad++aL,bz,ad,aL,N,M,l,aP,bv,aM,?_,?_,rfl,aG,aK,aH,aX,?_⟩,am⟩
    ·rw[←ae];exact D0n _ _ a8
    ·rw[br]
     have:ab.length=A.owns.length:=a9
     rw[this]
    ·refine o0q (A:=A) s2 J ?_ ?_ ?_ ?_
     ·intro i b d
      by_cases y:i∈A.boxes
      ·obtain⟨aQ,ty,cs',au,aw,ax⟩:=bD i y
       have:nth N i=some b:=d
       rw[au]at this
       cases this
       exact .inl ⟨aQ,ty,cs',rfl,aw,ax⟩
      ·have:nth N i=some b:=d
       rw[bC i y]at this
       rcases B i b this with⟨q,_⟩|⟨_,l,ak⟩
       ·exact absurd q y
       ·exact .inr ⟨l,ak⟩
     ·intro i o d
      by_cases y:i∈A.owns
      ·obtain⟨aJ,F,sz,by_,nn,U,L,xs,au,aw,ax⟩:=bt i y
       have:nth M i=some o:=d
       rw[au]at this
       cases this
       exact .inl ⟨⟨aJ,F,sz,by_,nn,U,L,xs,rfl,aw,ax⟩,y⟩
      ·have:nth M i=some o:=d
       rw[bs i y]at this
       rcases af i o this with⟨q,_⟩|⟨_,l⟩
       ·exact absurd q y
       ·exact .inr ⟨l,y⟩
     ·intro i cs ty d
      have:=bE _ aO i cs ty d
      have a5:(λj k=>∃ f,stamp (z ad N M) j=some f/\k<=f)=(λj k=>∃ f,stamp st j=some f/\k<=f):=by
       funext j k;rw[aq]
      rw[a5]
      exact this
     ·refine Y0t (A:=A) (ds:=O) (st:=st) (av1:=λt=>bp (E++V) t) s2 rfl bB aq ?_ aS aB aC bA (d0f E bd) (R09 _ ba)
      intro i k d al
      show stamp e i=stamp (z ad N M) i
      rw[aq i]
      cases hb:nth st.ow i with
      |none=>unfold stamp at al;rw[hb]at al;cases al
      |some b =>
       rcases af i b hb with⟨q,aJ,F,sz,by_,nn,ah,U,L,xs,rfl,l,_,aV⟩|⟨_,l⟩
       ·have:=aV (d.resolve_left (λh=>h q))
        simp[stamp,hb,l,this]
       ·unfold stamp
        rw[hb,l]
   ·exact I.elim
  |exit i=>exact R
  |ret=>exact R
  |_=>exact R
 have a0:Sim P h0 w0 be oe H (z D st.bx st.ow) h a w:=by
  refine f.refr (fr:=X0b A.vars D (E++V)) λt=>?_
  have aU:=f.fr t
  have G:=f.rdA aU
  rcases bo (E++V) t with⟨q,bm⟩|⟨v,q,l⟩
  ·rw[q]
   rcases c0f E V t with⟨av,ay,aa⟩|⟨ay,aa⟩
   ·rw[aa]
    rcases aB _ ay with rfl|⟨i,k,rfl,_,S⟩|⟨i,o,rfl,_,S⟩
    ·trivial
    ·rw[S]at G;exact G
    ·rw[S]at G;exact G
   ·rw[aa]
    have bk:t ∉ O:=λz=>by
     obtain⟨av,y⟩:=aC t z bm
     exact ay av y
    rcases s1 t bk with h|⟨h,_⟩
    ·rw[h];trivial
    ·rw[h];exact G
  ·rw[q]
   rw[l]at G
   exact G
 obtain⟨bq,Z⟩:=W0p (μ:=μ) Z
 have aW:Inv bq a w:=⟨D++ac,ab,D,ac,st.bx,st.ow,h,be,oe,H,rfl,rfl,rfl,bn,aD,aE,Z,a0⟩
 classical
 let X:Act->World->Nat:=λa w=>if B:∃ m,Inv m a w then Classical.choose (F0k _ B)else 0
 refine wp_loop (λa w=>∃ m,Inv m a w) X ⟨_,aW⟩ λa w B=>?_
 have aY:X a w=Classical.choose (F0k _ B):=by simp only[X,dif_pos B]
 refine Code.wp_mono (λe ai aA aF=>?_) (a1 _ a w (Classical.choose_spec (F0k _ B)).1)
 cases e with
 |normal =>
  obtain⟨T,an,am⟩:=aF
  refine⟨⟨T,an⟩,?_⟩
  have ar:∃ m,Inv m ai aA:=⟨T,an⟩
  have:X ai aA=Classical.choose (F0k _ ar):=by simp only[X,dif_pos ar]
  rw[aY,this]
  exact Nat.lt_of_le_of_lt ((Classical.choose_spec (F0k _ ar)).2 T an) am
 |_=>exact aF
end
section
variable {P:Program} {h0:Hp} {w0:World} {be:Nat->Nat} {oe:Nat->Value} {H:Hp} {st:St} {h:Hp} {a:Act} {w:World}
theorem e0f(c:Code):∀(Q:Ex->St->Hp->Prop) (st:St) (h:Hp) (a:Act) (w:World) (be:Nat->Nat) (oe:Nat->Value) (H:Hp),Sim P h0 w0 be oe H st h a w->ev P c Q st h->c.wp P (b0f P h0 w0 Q) a w:=by
 induction c with
 |skip=>exact λQ st h a w be oe H f j=>wp_skip ⟨st,h,be,oe,H,j,f⟩
 |region id ops d=>grind[X0i]
 |seq x y o p =>
  intro Q st h a w be oe H f j
  refine wp_seq (Code.wp_mono (λe a w l=>?_) (o _ _ _ _ _ _ _ _ f j))
  cases e with
  |normal=>obtain⟨st,h,be,oe,H,k,f⟩:=l;exact p _ _ _ _ _ _ _ _ f k
  |exit i=>exact l
  |ret=>exact l
  |_=>exact l
 |cond c x y o p =>
  intro Q st h a w be oe H f j
  simp only[ev]at j
  split at j
  ·rename_i b m
   have g:=f.rdO c
   rw[m]at g
   exact wp_cond_split g (λe=>o _ _ _ _ _ _ _ _ f (j.1 e)) (λe=>p _ _ _ _ _ _ _ _ f (j.2 e))
  ·exact j.elim
 |block id c n =>
  intro Q st h a w be oe H f j
  refine wp_block (Code.wp_mono (λe a w l=>?_) (n _ _ _ _ _ _ _ _ f j))
  cases e with
  |normal=>exact l
  |exit i =>
   obtain⟨st,h,be,oe,H,k,f⟩:=l
   simp only[Exit.inBlock]
   dsimp only at k
   cases m:Nat.beq i id with
   |true =>
    rw[m]at k
    rw[if_pos (Nat.eq_of_beq_eq_true m)]
    exact⟨st,h,be,oe,H,k,f⟩
   |false =>
    rw[m]at k
    rw[if_neg (Nat.ne_of_beq_eq_false m)]
    exact⟨st,h,be,oe,H,k,f⟩
  |ret=>exact l
  |_=>exact l
 |loop c n=>exact λQ st h a w be oe H f j=>x0m n f j
 |exit i=>exact λQ st h a w be oe H f j=>wp_exit ⟨st,h,be,oe,H,j,f⟩
 |ret=>exact λQ st h a w be oe H f j=>wp_ret ⟨st,h,be,oe,H,j,f⟩
 |_=>exact λQ st h a w be oe H f j=>j.elim
def q0q(tmps:Array Value):ResultVar->Sem Value
 | .tmp t=>pure (tmps.getD t undef)
 | .cell a t=>do loadVar t (←asAddr (tmps.getD a undef))
theorem T06:∀(l:List ResultVar) (st:St) (h:Hp) {K:List Value->St->Hp->Prop},Sim P h0 w0 be oe H st h a w->H0i P l st h K ->
  ∃ vs st' h',K vs st' h'/\Sim P h0 w0 be oe H st' h' a w/\(l.mapM (q0q a.tmps)).run P w = .ok vs w
 | [],st,h,K,c,d=>⟨[],st,h,d,c,rfl⟩
 | .tmp t::r,st,h,K,c,d=>by
  obtain⟨n,f,m,s1,_⟩:=K02 c (c.rdA (c.fr t)) d
  obtain⟨vs,u,q,p,s2,s⟩:=T06 r n f s1 m
  grind[Sem.run_bind,q0q,Sem.run_pure,Result.andThen_ok]
 | .cell t ty::r,st,h,K,c,d=>by
  simp only[H0i]at d
  split at d
  ·rename_i i off s
   split at d
   ·rename_i cs I C
    have g:=c.rdA (c.fr t)
    rw[s]at g
    obtain⟨f,vs,q,z⟩:=c.box i cs I C
    obtain⟨av,v,E,F,G⟩:=R.load_row (H:=H) (b:=be i) (o:=0) (be:=be) d q (λj v A=>by simp[Hp.cell,z,A])
    obtain⟨n,f,m,s1,_⟩:=K02 c F E
    obtain⟨J,u,y,p,s2,D⟩:=T06 r n f s1 m
    refine⟨_,u,y,p,s2,?_⟩
    have B:(loadVar ty ⟨be i,off,none⟩).run P w = .ok v w:=by
     obtain⟨x,k,e⟩:=R.wpR_sound _ _ w c.mv.vis (G (λx _=>x=v) rfl)
     rw[Nat.zero_add]at k
     rw[k,e]
    have k:a.tmps.getD t undef=ptr (be i) off:=g.2
    simp only[List.mapM_cons,Sem.run_bind,q0q,k,ptr,asAddr,Sem.run_pure,Result.andThen_ok,B,D]
   ·exact d.elim
  ·exact d.elim
theorem r0h:∀(args:List Value) (i s:Nat),G3 (x0a i args) s = .dead∨G3 (x0a i args) s = .val (if i<=s then args.getD (s-i) undef else undef)
 | [],i,s => .inl rfl
 |v::r,i,s=>by
  simp only[x0a]
  rw[Y3]
  by_cases e:i=s
  ·subst e;right;simp
  ·rw[if_neg e]
   rcases r0h r (i+1) s with h'|h'
   all_goals grind
theorem U2.less{h h' H:Hp}{w d:World}(m:U2 h w H d)(c:∀ b o,h' b=some o->H b=some o):U2 h w h' d:=by
 refine⟨m.os,m.tape,m.output,m.size,m.keep,λb o a=>m.vis b o (c b o a),λb a=>?_,m.fz,m.dn⟩
 cases hc:h' b with
 |none=>exact absurd hc a
 |some o=>exact m.fresh b (by rw[c b o hc];simp)
theorem y0m{f:FuncId}{fn:Func}{args:List Value}{n:Value->Hp->Prop}(hf:P.funcs[f]?=some fn)(l:Q0t P fn args h n):Tr P f args.toArray h n:=by
 refine⟨λw B=>?_⟩
 unfold Q0t at l
 split at l
 ·rename_i c y
  split at l
  ·rename_i q
   have q:=Nat.le_of_ble_eq_true q
   have C:Sim P h w (λ_=>0) (λ_=>undef) h ⟨fn.ntmps,x0a 0 args,[],[]⟩ h { tmps:=args.toArray++Array.replicate (fn.ntmps-args.toArray.size) undef,defers:=[] } w:=by
    refine⟨U2.refl B,λ_ _ h=>h,(λi cs ty d=>nomatch d),(λi b d=>nomatch d),(λi a e sz by_ nn xs d=>nomatch d),(λi a v d=>nomatch d),(λi j cs ty cs' K d=>nomatch d),
     (λi j a e sz by_ nn xs G E J D F L g d=>nomatch d),(λi cs ty j a e sz by_ nn xs d=>nomatch d),rfl,by simp;omega,λa=>?_⟩
    rcases r0h args 0 a with h'|h'
    ·grind[Good,G3,x0a]
    show Good _ _ _ (G3 (x0a 0 args) a) _
    rw[h']
    simp only[Nat.zero_le,if_true,Nat.sub_zero]
    show _=_
    simp only[Array.getD_eq_getD_getElem?]
    grind
   refine calls_of_wp hf y (Code.wp_mono (λe m p o=>?_) (e0f c _ _ _ _ _ _ _ _ C l))
   have fin:∀ {st h' be oe H},H0i P fn.results.toList st h' (λvs _ h=>n (w0a vs) h)->Sim P h w be oe H st h' m p->m.defers = []/\∃ v,(results fn m.tmps).run P p = .ok v p/\∃ s h',Ending.returned v = .returned s/\n s h'/\U2 h w h' p:=by
    intro st h' be oe H k a
    obtain⟨vs,I,u,t,s2,z⟩:=T06 _ _ _ a k
    refine⟨a.dfr,w0a vs,?_,w0a vs,u,rfl,t,s2.mv.less s2.sub⟩
    have A:results fn m.tmps=(fn.results.mapM (q0q m.tmps) >>= λvs=>pure (if h:vs.size=1 then vs[0]else .tuple vs)):=by
     unfold results
     congr 1
    rw[A,Array.mapM_eq_mapM_toList]
    simp only[Sem.run_bind,Sem.run_map,z,Result.andThen_ok,Sem.run_pure]
    cases vs with
    |nil=>rfl
    |cons x r=>cases r<;>rfl
   cases e with
   |normal=>obtain⟨st,h',be,oe,H,k,a⟩:=o;exact fin k a
   |ret=>obtain⟨st,h',be,oe,H,k,a⟩:=o;exact fin k a
   |exit i=>obtain⟨st,h',be,oe,H,k,a⟩:=o;exact k.elim
   |_=>exact o.elim
  ·exact l.elim
 ·exact l.elim
end
open Go.RowKit Go.ChangeShapes Go.WideShapes Go.ChangeAt
theorem Tr.val{P:Program}{f:FuncId}{args:Array Value}{h:Hp}{x:Value}{a:Value->Hp->Prop}(t:Tr P f args h λv h'=>v=x/\h'=h)(d:a x h):Tr P f args h a :=
 t.mono λ_ _ ⟨b,c⟩=>by rw[b,c];exact d
theorem Tr.calls{P:Program}{f:FuncId}{args:Array Value}{c:World}{x:Value}(t:Tr P f args (λb=>c.heap[b]?) λv h'=>v=x/\∀ b o,c.heap[b]?=some o->h' b=some o):
  Calls P f args c λe d=>e = .returned x/\Below c.heap.size c d/\∀ a:Addr,a.block<c.heap.size->d.frozen? a=c.frozen? a:=by
 refine(t.run c (λb o h=>h)).mono ?_
 rintro e d ⟨v,h',rfl,⟨rfl,g⟩,m⟩
 refine⟨rfl,⟨m.os,m.tape,m.output,m.size,λk i=>?_⟩,m.fz⟩
 have:c.heap[k]?=some c.heap[k]:=by simp[i]
 rw[this]
 exact m.vis _ _ (g k _ this)
theorem w64{x:Int}(a : -9223372036854775808<=x)(b:x<=9223372036854775807):IntKind.i64.wrap x=x:=by
 simp[IntKind.wrap,IntKind.signed,IntKind.bits]
 omega
theorem Z0t{n:Nat}(h:n<=maxLen):n<=9223372036854775807:=by
 grind[maxLen]
def H0(x:Int):Prop := -9223372036854775808<=x/\x<=9223372036854775807
theorem l0v{x:Int}(h:(Lit.int .i64 x).wf=true):H0 x:=by
 simpa [Lit.wf,IntKind.min,IntKind.max,IntKind.signed,IntKind.bits,H0] using h
section
variable {H:Type} {enc:TypeId×Value->H} {P:Program}
theorem w09(g:laidOutB P=true){c e:World}(f:Below c.heap.size c e){l:Nat->Bool}:∀ {ts:List TypeId} {vs:List Value} {ds:List (DataW H)} {b:List MemPlace},
  (∀ t∈ts,P.readableRec t=true/\t<P.types.size)->DataW.TrodAll enc P c 0 (λ_=>true) true ts vs ds b->(∀ p∈b,p.block<c.heap.size)->(∀ p∈b,l p.block=true) ->
  DataW.TrodAll enc P e 0 l true ts vs ds b
 | [],vs,ds,b,_,h,_,_=>by
  obtain⟨rfl,rfl,rfl⟩:=trodAll_nil h
  exact rfl
 |t::ts,vs,ds,b,k,h,i,j=>by
  obtain⟨v,y,d,w,p,q,rfl,rfl,rfl,m,n⟩:=trodAll_cons h
  obtain⟨s,u⟩:=k t mS
  refine⟨p,q,WideElems.Trod_stays g s u m (λx a=>f.same (i x (List.mem_append_left _ a))) (λx a=>j x (List.mem_append_left _ a)),?_,rfl⟩
  exact w09 g f (λt o=>k t (mC _ o)) n (λx a=>i x (List.mem_append_right _ a)) (λx a=>j x (List.mem_append_right _ a))
theorem P0d{f:Func}{h:ChangeSpec}{n fresh y x:Bool}{i d:World}{args:Array Value}{v:Value}{ds k:List (DataW H)}{e pa pv:List MemPlace}
  (l:DataW.Whole enc P f.params.toList h.vars n i args.toList ds k e)
  (u:∀(b:Nat) (g:Nat->Bool) (z:Bool),DataW.TrodAll enc P d b g z f.resultTypes.toList (v.resultList f.resultTypes.size) (h.fn H (ds++k)).results [])
  (o:∀ g:Nat->Bool,(∀ p∈e,g p.block=true)->DataW.TrodAll enc P d 0 g true f.params.toList args.toList (h.fn H (ds++k)).args pa)
  (w:∀ g:Nat->Bool,(∀ p∈e,g p.block=true)->DataW.TrodVars enc P d g h.vars (h.fn H (ds++k)).vars pv)
  (q:e=pa++pv) (B:i.keptBut d (·∈e)) (A:∀ a:Addr,a.block<i.heap.size->d.frozen? a=i.frozen? a)
  (C:∀(j:Nat) (t:TypeId) (r:Value),f.resultTypes[j]?=some t->(v.resultList f.resultTypes.size)[j]?=some r->Value.okWide P d .any 0 t r) :
  h.post enc P f n fresh y x i args v d:=by
 have m:=λp c=>l.lt (p:=p) c
 refine⟨ds,k,e,[],pa,pv,l,u _ _ _,o _ (λp c=>by simpa using m p c),w _ (λp c=>by simpa using m p c),World.keptBut_mono (λp c=>⟨c,.inr (by rwa [q,List.mem_append]at c)⟩) B,λ_=>?_⟩
 obtain⟨_,_,_,_,_,D,E⟩:=l
 have s:([]++pa)++pv=e:=by simp[q]
 refine⟨C,_,_,([]++pa)++pv,⟨[]++pa,pv,trodAll_append (o _ (λ_ _=>rfl)) (u _ _ _),w _ (λ_ _=>rfl),rfl,?_,?_⟩,λp c _=>by rwa [s]at c⟩
 ·intro b off c
  rw[s]at c
  rw[A _ (m _ c)]
  exact D b off c
 grind
theorem r0q{f:Func}{c:ChangeSpec}{g fresh w o:Bool}{b d:World}{args:Array Value}{ds h:List (DataW H)}{s:List MemPlace}{n:TypeId}
  (C:laidOutB P=true) (E:∀ t∈f.params.toList,P.readableRec t=true/\t<P.types.size) (m:c.vars = []) (j:c.fn H (ds++h) = { results:=[.lit (.bool true)],args:=ds })
  (k:f.resultTypes = #[n]) (l:P.underlying n=some .bool) (e:DataW.Whole enc P f.params.toList c.vars g b args.toList ds h s)
  (u:Below b.heap.size b d) (x:∀ a:Addr,a.block<b.heap.size->d.frozen? a=b.frozen? a):c.post enc P f g fresh w o b args (.bool true) d:=by
 have D:=λp y=>e.lt (p:=p) y
 have v:=e
 obtain⟨p,q,B,i,rfl,_,_⟩:=e
 rw[m]at i
 obtain⟨rfl,rfl⟩:=trodVars_none i
 refine P0d (pa:=p) (pv:=[]) v (λ_ _ _=>?_) (λA z=>?_) (λA z=>?_) rfl (u.frame _) x (ok_one k rfl (okWide_bool_mk l _))
 ·rw[j,k]
  exact trodAll_mk1 (shut_bool l _)
 ·grind[w09,List.mem_append_left]
 ·rw[j,m]
  exact rfl
end
end Go.H
