/- The library of the walks, part HD: plain laws over the model. -/
import Derived.Test.YtmgikbbmpnbbjaaGreatHC
import Derived.ProofKit
namespace Go.H
set_option linter.unusedVariables false
set_option linter.unusedSimpArgs false
theorem r7{i:Nat}{o:Oper}(h:w8 i o=true):∃ e∈o.after,Region.binds .any e=true/\e.on=i:=by
 unfold w8 at h
 rw[List.any_eq_true]at h
 simp_all
theorem q09{o:Oper}{t:Nat}:∀ {l:List Oper} {i:Nat},K02 o t l i=true->∀ k x,l[k]?=some x->x.dst=some t->w8 (i+k) o=true
 | [],i,h,k,x,a,b=>by simp at a
 |y::r,i,h,0,x,a,b=>by
  simp_all[K02,Nat.beq_refl,Bool.and_eq_true]
 |y::r,i,h,k+1,x,a,b=>by
  simp only[List.getElem?_cons_succ]at a
  have c:K02 o t r (i+1)=true:=by
   simp only[K02]at h
   grind
  have:=q09 c k x a b
  rwa [show i+1+k=i+(k+1) from by omega]at this
theorem K03{o:Oper}{ops:List Oper}:∀ {l:List Operand},K0b o ops l=true->∀ t,Operand.tmp t∈l->K02 o t ops 0=true
 | [],h,t,a=>by cases a
 | .tmp u::r,h,t,a=>by
  simp only[K0b,Bool.and_eq_true]at h
  rcases List.mem_cons.1 a with e|a
  ·cases e;exact h.1
  ·exact K03 h.2 t a
 | .const v::r,h,t,a=>by
  rcases List.mem_cons.1 a with e|a
  ·cases e
  ·exact K03 (l:=r) h t a
 | .global v::r,h,t,a=>by
  rcases List.mem_cons.1 a with e|a
  ·cases e
  ·exact K03 (l:=r) h t a
 | .func v::r,h,t,a=>by
  rcases List.mem_cons.1 a with e|a
  ·cases e
  ·exact K03 (l:=r) h t a
theorem b08{ops:List Oper}:∀ {l:List Oper},o0o ops l=true->∀ o∈l,∀ t,Operand.tmp t∈o.op.operands->∀ k x,ops[k]?=some x->x.dst=some t->∃ e∈o.after,Region.binds .any e=true/\e.on=k
 | [],h,o,a=>by cases a
 |y::r,h,o,a=>by
  simp only[o0o,Bool.and_eq_true]at h
  rcases List.mem_cons.1 a with rfl|a
  ·intro t d k x c b
   have:=q09 (K03 h.1 t (by simpa using d)) k x c b
   simp_all[Nat.zero_add,r7]
  ·exact b08 h.2 o a
theorem U06{d:Nat}:∀ {l:List Oper},d09 d l=true->∀ o∈l,o.dst≠some d
 | [],h,o,a=>by cases a
 |y::r,h,o,a=>by
  simp only[d09]at h
  split at h
  ·rename_i c b
   simp only[Bool.and_eq_true,Bool.not_eq_true']at h
   rcases List.mem_cons.1 a with rfl|a
   ·grind[Nat.ne_of_beq_eq_false]
   ·exact U06 h.2 o a
  ·rename_i b
   rcases List.mem_cons.1 a with rfl|a
   ·grind
   ·exact U06 h o a
theorem T05{n:Nat}:∀ {l:List Oper},L0k n l=true->(∀ o∈l,∀ d,o.dst=some d->d<n) /\
  ∀(i j:Nat) (a b:Oper) (d:Nat),l[i]?=some a->l[j]?=some b->a.dst=some d->b.dst=some d->i=j
 | [],h=>⟨by simp,λi j a b d f=>by simp at f⟩
 |y::r,h=>by
  simp only[L0k]at h
  split at h
  ·rename_i d p
   simp only[Bool.and_eq_true]at h
   obtain⟨⟨v,k⟩,m⟩:=h
   obtain⟨g,s⟩:=T05 m
   have x:=U06 k
   refine⟨λo c e q=>?_,λi j a b e f w t u=>?_⟩
   ·rcases List.mem_cons.1 c with rfl|c
    ·simp_all
    ·exact g o c e q
   grind
  ·rename_i p
   obtain⟨g,s⟩:=T05 h
   grind
theorem o04:∀ {l:List Oper} {j:Nat},m0e l j=true->∀ k o,l[k]?=some o->∀ e∈o.after,Region.binds .any e=true->e.on<j+k
 | [],j,h,k,o,a=>by simp at a
 |y::r,j,h,k,o,a=>by
  simp only[m0e,Bool.and_eq_true,List.all_eq_true]at h
  cases k with
  |zero =>
   simp at a
   subst a
   intro e b c
   have:=h.1 e (by simpa using b)
   simp_all
  |succ k =>
   simp at a
   intro e b c
   have:=o04 h.2 k o a e b c
   omega
def G4:List Oper->List (Nat×AV)->List (Nat×AV)
 | [],fr=>fr
 |o::r,fr=>match o.dst with
  |some d=>(d,.dead)::G4 r fr
  |none=>G4 r fr
theorem P01{t:Nat}:∀ {l:List Oper} {fr:List (Nat×AV)},(∀ o∈l,o.dst≠some t)->E3 (G4 l fr) t=E3 fr t
 | [],fr,h=>rfl
 |o::r,fr,h=>by
  have c:=P01 (fr:=fr) λb a=>h b (mC _ a)
  simp only[G4]
  split
  all_goals simp_all[V3,if_neg,List.mem_cons_self]
theorem M02{t:Nat}:∀ {l:List Oper} {fr:List (Nat×AV)} {o:Oper},o∈l->o.dst=some t->E3 (G4 l fr) t = .dead
 | [],fr,o,h,_=>by cases h
 |y::r,fr,o,h,a=>by
  simp only[G4]
  split
  ·rename_i d b
   rw[V3]
   split
   ·rfl
   ·rename_i c
    rcases List.mem_cons.1 h with rfl|h
    ·grind
    ·exact M02 h a
  ·rename_i b
   rcases List.mem_cons.1 h with rfl|h
   ·rw[a]at b;cases b
   ·exact M02 h a
theorem p01(d:Nat)(f:C6)(r:List (Nat×C6))(s:Nat):Q3 ((d,f)::r) s=if d=s then some f else Q3 r s:=by
 simp only[Q3]
 cases h:Nat.beq d s with
 |true=>rw[if_pos (Nat.eq_of_beq_eq_true h)]
 |false=>rw[if_neg (Nat.ne_of_beq_eq_false h)]
section
variable {P:Program} {h0:Hp} {w0:World} {be:Nat->Nat} {oe:Nat->Value} {H:Hp} {h:Hp} {a:Act} {w:World}
theorem Sim.refr{st:St}(b:Sim P h0 w0 be oe H st h a w){fr:List (Nat×AV)}(hf:∀ t,I2 st be oe (E3 fr t) (a.tmps.getD t undef)):Sim P h0 w0 be oe H { st with fr:=fr } h a w:=by
 have c:j7 st be oe { st with fr:=fr } be oe:=⟨Nat.le_refl _,λ_ _=>rfl,λi b h=>⟨b,h,Nat.le_refl _,λ_=>rfl⟩⟩
 refine⟨b.mv,b.sub,λi cs ty g=>?_,b.pub,b.own,b.frz,b.bb,b.oo,b.bo,b.dfr,b.siz,λt=>(hf t).grow c⟩
 obtain⟨d,vs,e,f⟩:=b.box i cs ty g
 exact⟨d,vs,e.grow c,f⟩
def V06(st:St)(be:Nat->Nat)(oe:Nat->Value)(h:Hp):C6->Value->Prop
 | .pu av,v=>I2 st be oe av v
 | .ef F,v=>F v h
theorem k03{L:List (Nat×C6)}{st:St}{h:Hp}{val:Nat->Value}{K:List (Nat×AV)->Prop}:∀ {l:List Operand} {acc:List (Nat×AV)},
  (∀ t,I2 st be oe (E3 acc t) (val t))->(∀ t,Operand.tmp t∈l->(∀ f,Q3 L t=some f->V06 st be oe h f (val t))/\(Q3 L t=none->I2 st be oe (E3 st.fr t) (val t))) ->
  G0f L st h l acc K->∃ fr,K fr/\∀ t,I2 st be oe (E3 fr t) (val t)
 | [],acc,c,b,a=>⟨acc,a,c⟩
 | .tmp t::r,acc,c,b,a=>by
  have i:∀ u,Operand.tmp u∈r->_:=λu d=>b u (mC _ d)
  have j:=b t mS
  have put:∀ av,I2 st be oe av (val t)->∀ u,I2 st be oe (E3 ((t,av)::acc) u) (val u):=λav g u=>by
   grind[V3]
  simp only[G0f]at a
  split at a
  ·rename_i av e
   exact k03 (put av (j.1 _ e)) i a
  ·rename_i F e
   exact k03 (put (.val (val t)) rfl) i (a _ (j.1 _ e))
  ·rename_i e
   exact k03 (put _ (j.2 e)) i a
 | .const v::r,acc,c,b,a=>k03 (l:=r) c (λu d=>b u (mC _ d)) a
 | .global v::r,acc,c,b,a=>k03 (l:=r) c (λu d=>b u (mC _ d)) a
 | .func v::r,acc,c,b,a=>k03 (l:=r) c (λu d=>b u (mC _ d)) a
def s0v(P:Program)(st:St)(h:Hp)(L:List (Nat×C6))(o:Oper):Prop :=
 o.guard=none/\∃ f,(∀ d,o.dst=some d->Q3 L d=some f)/\match f with
  | .pu av=>a0n P L o st=some av
  | .ef F=>(∀ v a b,Sub a b->F v a->F v b)/\∀ h',Sub h h'->G0f L st h' o.op.operands.toList [] λfr=>F8 P o { st with fr:=fr } h' (U0u { st with fr:=fr } h' F)
theorem m0d:∀ {L:List (Nat×C6)} {t:Nat} {f:C6},Q3 L t=some f->(t,f)∈L
 | [],t,f,h=>by cases h
 |(d,a)::r,t,f,h=>by
  rw[p01]at h
  split at h
  ·grind
  ·exact mC _ (m0d h)
theorem U0s{st:St}{L:List (Nat×C6)}{o:Oper}{av:AV}{val:Nat->Value}(a:a0n P L o st=some av)
  (k:∀ t,Operand.tmp t∈o.op.operands->(∀ f,Q3 L t=some f->V06 st be oe h f (val t))/\(Q3 L t=none->I2 st be oe (E3 st.fr t) (val t))) :
  ∃ fr,(∀ t,I2 st be oe (E3 fr t) (val t))/\F8 P o { st with fr:=fr } h λi st' h'=>i=av/\st' = { st with fr:=fr }/\h'=h:=by
 have one:∀ x:Operand,(∀ t,x = .tmp t->Operand.tmp t∈o.op.operands)->rdS L st x ≠ .dead->∃ fr,(∀ t,I2 st be oe (E3 fr t) (val t))/\rdO { st with fr:=fr } x=rdS L st x:=by
  intro x b c
  cases x with
  |tmp t =>
   obtain⟨j,l⟩:=k t (b t rfl)
   have mk:∀ A,I2 st be oe A (val t)->∀ u,I2 st be oe (E3 [(t,A)] u) (val u):=λA g u=>by
    rw[V3]
    split
    ·grind
    ·trivial
   have rd:∀ A,rdO { st with fr:=[(t,A)] } (.tmp t)=rdA st A:=λA=>by
    show Go.H.rdA _ (E3 [(t,A)] t)=_
    rw[V3,if_pos rfl]
    obtain⟨n,fr,bx,ow⟩:=st
    cases A<;>rfl
   cases hL:Q3 L t with
   |none=>grind[rdS]
   |some f =>
    cases f with
    |pu A=>exact⟨_,mk _ (j _ hL),by grind[rdS]⟩
    |ef F=>grind[absurd,rdS]
  |const v=>exact⟨[],λt=>trivial,rfl⟩
  |global v=>exact⟨[],λt=>trivial,rfl⟩
  |func v=>exact⟨[],λt=>trivial,rfl⟩
 unfold a0n at a
 split at a
 ·rename_i x b
  have c:rdS L st x ≠ .dead:=λe=>by rw[e]at a;cases a
  obtain⟨fr,g,e⟩:=one x (λt d=>by grind[Op.operands]) c
  refine⟨fr,g,?_⟩
  simp only[F8,b,e]
  revert a
  cases rdS L st x<;>intro a<;>first|(cases a;done)|(cases a;simp;done)
 ·rename_i x b
  have c:rdS L st x ≠ .dead:=λe=>by rw[e]at a;cases a
  obtain⟨fr,g,e⟩:=one x (λt d=>by grind[Op.operands]) c
  refine⟨fr,g,?_⟩
  simp only[F8,b,e]
  revert a
  cases rdS L st x<;>intro a<;>first|(cases a;done)|(cases a;simp;done)
 ·rename_i t x b
  have c:rdS L st x ≠ .dead:=λe=>by rw[e]at a;cases a
  obtain⟨fr,g,e⟩:=one x (λt d=>by grind[Op.operands]) c
  refine⟨fr,g,?_⟩
  simp only[F8,b,e]
  split at a
  all_goals grind[F0f,E05,s0j,i6]
 ·cases a
def q0u(P:Program)(h0:Hp)(w0:World)(ops:Array Oper)(st:St)(h:Hp)(L:List (Nat×C6))(listed:Array Bool)(a:Act)(w:World):Prop :=
 ∃ be oe H h',Sub h h'/\Sim P h0 w0 be oe H { st with fr:=G4 ops.toList st.fr } h' a w /\
  ∀ j o d f,ops[j]?=some o->o.dst=some d->listed.getD j false=true->Q3 L d=some f->V06 st be oe h' f (a.tmps.getD d undef)
theorem I2.fr{st:St}{fr:List (Nat×AV)}{av:AV}{v:Value}(g:I2 st be oe av v):I2 { st with fr:=fr } be oe av v:=by
 obtain⟨n,a,bx,ow⟩:=st
 show I2 ⟨n,fr,bx,ow⟩ be oe av v
 exact I2.grow (st:=⟨n,a,bx,ow⟩) (st':=⟨n,fr,bx,ow⟩) (be:=be) (oe:=oe) (be':=be) (oe':=oe) (av:=av) (x:=v) ⟨Nat.le_refl _,λ_ _=>rfl,λi b h=>⟨b,h,Nat.le_refl _,λ_=>rfl⟩⟩ g
theorem Z8{ops:Array Oper}{st:St}{L:List (Nat×C6)}{listed:Array Bool}{j:Nat}{o:Oper}{Q:Exit->Act->World->Prop}
  (aE:∀(i j:Nat) (c ag:Oper) (d:Nat),ops.toList[i]?=some c->ops.toList[j]?=some ag->c.dst=some d->ag.dst=some d->i=j)
  (Z:∀ o∈ops.toList,∀ d,o.dst=some d->d<st.n)
  (V:∀ t f,(t,f)∈L->∃(i:Nat) (c:Oper),ops.toList[i]?=some c/\c.dst=some t)
  (al:∀(i:Nat) (c:Oper) (d:Nat),ops.toList[i]?=some c->c.dst=some d->∃ f,Q3 L d=some f)
  (aa:ops[j]?=some o) (W:∀(j:Nat) (o:Oper),ops.toList[j]?=some o->s0v P st h L o) (an:∀ t,Operand.tmp t∈o.op.operands->∀(i:Nat) (c:Oper),ops.toList[i]?=some c->c.dst=some t->listed.getD i false=true)
  (M:q0u P h0 w0 ops st h L listed a w):o.wp P a w (q0u P h0 w0 ops st h L (listed.setIfInBounds j true)) Q:=by
 obtain⟨be,oe,H,h',ae,D,T⟩:=M
 have ab:ops.toList[j]?=some o:=by simpa using aa
 have Y:o∈ops.toList:=List.mem_of_getElem? ab
 obtain⟨aG,f,hf,ac⟩:=W j o ab
 have az:∀ d F,Q3 L d=some (.ef F)->∀ v l k,Sub l k->F v l->F v k:=λd F J=>by
  obtain⟨i,c,l,k⟩:=V d _ (m0d J)
  obtain⟨_,aD,ao,ay⟩:=W i c l
  rw[ao d k]at J
  cases J
  exact ay.1
 have ai:∀ t,Operand.tmp t∈o.op.operands->(∀ f,Q3 L t=some f->V06 st be oe h' f (a.tmps.getD t undef))/\(Q3 L t=none->I2 st be oe (E3 st.fr t) (a.tmps.getD t undef)):=λt N=>by
  refine⟨λf hf=>?_,λaw=>?_⟩
  ·obtain⟨i,c,l,k⟩:=V t f (m0d hf)
   exact T i c t f (by simpa using l) k (an t N i c l k) hf
  ·have g:=D.fr t
   have ar:E3 (G4 ops.toList st.fr) t=E3 st.fr t:=P01 λaC ax C=>by
    obtain⟨i,M,e⟩:=List.getElem_of_mem ax
    obtain⟨f,hf⟩:=al i aC t (by rw[List.getElem?_eq_getElem M,e]) C
    rw[aw]at hf;cases hf
   rw[←ar]
   exact I2.fr (st := { st with fr:=G4 ops.toList st.fr }) (fr:=st.fr) g
 have fin:∀ {fr:List (Nat×AV)} {y:Act} {s:World} {p:Hp} {be':Nat->Nat} {oe':Nat->Value} {q:Hp} {v:Value},Sub h' p->y=a.put o.dst v->Sim P h0 w0 be' oe' q { st with fr:=fr } p a s ->
   j7 { st with fr:=fr } be oe { st with fr:=fr } be' oe'->V06 st be' oe' p f v->q0u P h0 w0 ops st h L (listed.setIfInBounds j true) y s:=by
  intro fr y s p be' oe' q v af A E m O
  subst A
  have aj:j7 { st with fr:=G4 ops.toList st.fr } be oe { st with fr:=G4 ops.toList st.fr } be' oe':=⟨m.bl,m.be,m.sm⟩
  have ak:j7 st be oe st be' oe':=⟨m.bl,m.be,m.sm⟩
  have s1:Sim P h0 w0 be' oe' q { st with fr:=G4 ops.toList st.fr } p a s :=
   E.refr (fr:=G4 ops.toList st.fr) λt=>I2.fr (st := { st with fr:=G4 ops.toList st.fr }) ((D.fr t).grow aj)
  have s2:Sim P h0 w0 be' oe' q { st with fr:=G4 ops.toList st.fr } p (a.put o.dst v) s:=by
   cases C:o.dst with
   |none=>exact s1
   |some d =>
    have ad:=s1.put (d:=d) (av := .dead) (v:=v) (Z o Y d C) trivial
    refine ad.refr (fr:=G4 ops.toList st.fr) λt=>?_
    have g:=ad.fr t
    grind[V3,M02]
  refine⟨be',oe',q,p,λb x am=>af b x (ae b x am),s2,λi c d g l k U G=>?_⟩
  by_cases hij:j=i
  ·subst hij
   rw[aa]at l;cases l
   rw[hf d k]at G;cases G
   have aq:d<a.tmps.size:=by rw[D.siz];exact Z o Y d k
   have:(a.put o.dst v).tmps.getD d undef=v:=by
    rw[k]
    simp[Act.put,aq]
   rw[this]
   exact O
  ·have ap:listed.getD i false=true:=by rw[getD_set_ne false hij]at U;exact U
   have au:∀ z,o.dst=some z->z≠d:=λz aF e=>by
    grind
   have:(a.put o.dst v).tmps.getD d undef=a.tmps.getD d undef:=by
    cases C:o.dst with
    |none=>rfl
    |some z=>simp[Act.put,Array.getElem?_setIfInBounds_ne (au z C)]
   rw[this]
   have ah:=T i c d g l k ap G
   cases g with
   |pu av=>exact I2.grow ak ah
   |ef F=>exact az d F G _ _ _ af ah
 cases f with
 |pu av =>
  obtain⟨fr,g,K⟩:=U0s (h:=h') ac ai
  have E:Sim P h0 w0 be oe H { st with fr:=fr } h' a w:=D.refr (fr:=fr) λt=>I2.fr (g t)
  refine Oper.wp_mono (λy s R=>?_) (C00 E K)
  obtain⟨S,st',p,v,be',oe',q,⟨rfl,rfl,rfl⟩,A,s2,I,m⟩:=R
  exact fin (λ_ _ h=>h) A s2 m (I2.fr (st := { st with fr:=fr }) (fr:=st.fr) I)
 |ef F =>
  obtain⟨fr,K,g⟩:=k03 (acc:=[]) (be:=be) (oe:=oe) (val:=λt=>a.tmps.getD t undef) (λt=>trivial) (λt N=>ai t (by simpa using N)) (ac.2 h' ae)
  have E:Sim P h0 w0 be oe H { st with fr:=fr } h' a w:=D.refr (fr:=fr) λt=>I2.fr (g t)
  refine Oper.wp_mono (λy s R=>?_) (C00 E K)
  obtain⟨S,st',p,v,be',oe',q,X,A,s2,I,m⟩:=R
  cases S with
  |val u =>
   obtain⟨rfl,aA,aB⟩:=X
   have O:v=u:=I
   subst O
   exact fin aA A s2 m aB
  |_=>exact X.elim
theorem n0d{ops:Array Oper}(b:∀(k:Nat) (o:Oper),ops.toList[k]?=some o->∀ e∈o.after,Region.binds .any e=true->e.on<k){listed:Array Bool}(h:listed.size=ops.size)(g:Region.ready .any ops listed = []):
  ∀ j,j<ops.size->listed.getD j false=true:=by
 intro j
 induction j using Nat.strongRecOn with
 |_ j i =>
  intro a
  cases hl:listed.getD j false with
  |true=>rfl
  |false =>
   have f:j<listed.size:=by omega
   have:j∈Region.ready .any ops listed:=by
    refine mem_ready.2 ⟨?_,ops[j],by simp[a],λe d c=>?_⟩
    all_goals grind
   grind
theorem count_set{listed:Array Bool}{j:Nat}(a:listed.getD j true=false):(listed.setIfInBounds j true).toList.count true=listed.toList.count true+1:=by
 have b:j<listed.size:=by
  grind
 simp_all[Array.toList_setIfInBounds,List.count_set]
end
theorem V0s{P:Program}{t:TypeId}{cs:List P5}{off:Nat}{av:AV}(h:F0f P t cs off=some av):E05 P t cs off λa=>a=av:=by
 grind[F0f,E05,s0j,i6]
section
variable {P:Program} {h0:Hp} {w0:World} {be:Nat->Nat} {oe:Nat->Value} {H:Hp} {h:Hp} {a:Act} {w:World}
theorem u07{L:List (Nat×C6)}{st stX:St}{x:Operand}
  (b:∀ t,x = .tmp t->(∀ av,Q3 L t=some (.pu av)->I2 stX be oe av (a.tmps.getD t undef))/\(Q3 L t=none->I2 stX be oe (E3 st.fr t) (a.tmps.getD t undef))):I2 stX be oe (T06 L st x) (a.eval x):=by
 cases x with
 |tmp t =>
  obtain⟨c,d⟩:=b t rfl
  show I2 stX be oe (T06 L st (.tmp t)) (a.tmps.getD t undef)
  simp only[T06]
  split
  ·grind
  ·trivial
  grind
 |const v=>exact rfl
 |global g=>trivial
 |func f=>trivial
theorem c08{L:List (Nat×C6)}{st stX:St}:∀(l:List Operand) {vs:List (Nat×Value)},(∀ t,Operand.tmp t∈l->I2 stX be oe (T06 L st (.tmp t)) (a.tmps.getD t undef))->n0e L st l=some vs ->
  (∀ p∈vs,p.2=a.eval (.tmp p.1))/\(∀ x∈l,(∃ t v,x = .tmp t/\(t,v)∈vs)∨(∀ m,rho m x=a.eval x))
 | [],vs,G,h=>by cases h;simp
 | .tmp t::r,vs,G,h=>by
  simp only[n0e]at h
  split at h
  ·rename_i v k
   split at h
   ·rename_i n j
    cases h
    obtain⟨c,e⟩:=c08 r (λu d=>G u (mC _ d)) j
    have g:=G t mS
    rw[k]at g
    have g:a.tmps.getD t undef=v:=g
    refine⟨λp i=>?_,λx b=>?_⟩
    ·rcases List.mem_cons.1 i with rfl|i
     ·exact g.symm
     ·exact c p i
    grind
   ·cases h
  ·cases h
 | .global _::r,vs,G,h=>by cases h
 | .const v::r,vs,G,h=>by
  obtain⟨c,e⟩:=c08 r (vs:=vs) (λu d=>G u (mC _ d)) h
  exact⟨c,λx b=>by
   rcases List.mem_cons.1 b with rfl|b
   ·exact .inr λ_=>rfl
   ·exact e x b⟩
 | .func f::r,vs,G,h=>by
  obtain⟨c,e⟩:=c08 r (vs:=vs) (λu d=>G u (mC _ d)) h
  exact⟨c,λx b=>by
   rcases List.mem_cons.1 b with rfl|b
   ·exact .inr λ_=>rfl
   ·exact e x b⟩
theorem c0l{L:List (Nat×C6)}{st stX:St}{o:Oper}{av:AV}(b:b0n P L o st=some av)
  (j:∀ t,Operand.tmp t∈o.op.operands->(∀ av,Q3 L t=some (.pu av)->I2 stX be oe av (a.tmps.getD t undef))/\(Q3 L t=none->I2 stX be oe (E3 st.fr t) (a.tmps.getD t undef))) :
  ∃ v,(execOp a.eval o).run P w = .ok (.value v) w/\I2 stX be oe av v:=by
 unfold b0n at b
 split at b
 ·rename_i vs f g
  obtain⟨d,e⟩:=c08 (a:=a) (stX:=stX) (be:=be) (oe:=oe) _ (λt h=>u07 (x := .tmp t) λu i=>by grind) g
  split at b
  ·cases b
  ·split at b
   ·rename_i v c
    cases b
    rw[T0b,X09 f d e]at c
    exact⟨v,v0o _ c w,rfl⟩
   ·cases b
 ·cases b
theorem z06{L b:List (Nat×C6)}{st:St}:∀ {l:List Operand},(∀ t,Operand.tmp t∈l->Q3 L t=Q3 b t)->n0e L st l=n0e b st l
 | [],h=>rfl
 | .tmp t::r,h=>by simp only[n0e,T06,h t mS,z06 λu a=>h u (mC _ a)]
 | .global _::r,h=>rfl
 | .const _::r,h=>z06 (l:=r) λu a=>h u (mC _ a)
 | .func _::r,h=>z06 (l:=r) λu a=>h u (mC _ a)
theorem W0f{L:List (Nat×C6)}{st:St}{o:Oper}{t:TypeId}{x:Operand}{i off:Nat}(b:o.op = .load t x)(a:T06 L st x = .box i off):∀ {l:List Oper},o∈l->i∈i00 L st l
 | [],h=>nomatch h
 |y::r,h=>by
  rcases List.mem_cons.1 h with rfl|h
  ·grind[i00,List.mem_cons_self]
  ·have:=W0f b a h
   grind[i00,mC]
theorem a0i{bx a:List BSt}{i:Nat}:∀ {l:List Nat},v0a bx l=v0a a l->i∈l->nth bx i=nth a i
 | [],_,h=>nomatch h
 |y::r,e,h=>by
  simp only[v0a,List.cons.injEq]at e
  rcases List.mem_cons.1 h with rfl|h
  ·exact e.1
  ·exact a0i e.2 h
theorem Q0p{L:List (Nat×C6)}{st stX:St}{o:Oper}{av:AV}(m:Sim P h0 w0 be oe H stX h a w)(F:∀ t x i off,o.op = .load t x->T06 L st x = .box i off->nth stX.bx i=nth st.bx i)(c:u0a P L o st=some av)
  (f:∀ t,Operand.tmp t∈o.op.operands->(∀ av,Q3 L t=some (.pu av)->I2 stX be oe av (a.tmps.getD t undef))/\(Q3 L t=none->I2 stX be oe (E3 st.fr t) (a.tmps.getD t undef))) :
  ∃ v,(execOp a.eval o).run P w = .ok (.value v) w/\I2 stX be oe av v:=by
 unfold u0a at c
 split at c
 ·rename_i x d
  split at c
  ·cases c
   simp_all[u07,Op.operands,execOp]
  ·cases c
 ·rename_i x d
  split at c
  ·cases c
   simp_all[u07,Op.operands,execOp]
  ·cases c
 ·rename_i t x d
  have g:=u07 (L:=L) (st:=st) (stX:=stX) (be:=be) (oe:=oe) (a:=a) (x:=x) λt e=>f t (by rw[d];simp[Op.operands,e])
  split at c
  ·rename_i i off l
   rw[l]at g
   split at c
   ·rename_i cs ty G
    split at c
    ·rename_i C s
     split at c
     ·cases c
      obtain⟨E,vs,p,q⟩:=m.box i cs ty (by grind)
      obtain⟨D,v,y,z,A⟩:=R.load_row (H:=H) (b:=be i) (o:=0) (be:=be) (V0s s) p (λj v u=>by simp[Hp.cell,q,u])
      subst y
      exact⟨v,R.run_of (R.exec_load d g.2 (by simpa using A)) w (W0q m),z⟩
     ·cases c
    ·cases c
   ·cases c
  ·cases c
 ·rename_i t x k d
  have g:=u07 (L:=L) (st:=st) (stX:=stX) (be:=be) (oe:=oe) (a:=a) (x:=x) λt e=>f t (by rw[d];simp[Op.operands,e])
  split at c
  ·rename_i i off n l e
   rw[l]at g
   cases c
   exact⟨ptr (be i) (off+n),R.run_of (R.exec_fieldAddr d e g.2) w (W0q m),g.1,rfl⟩
  ·cases c
 ·split at c
  ·exact c0l c f
  ·cases c
 ·split at c
  ·split at c
   ·exact c0l c f
   ·cases c
  ·cases c
 ·cases c
theorem y02{L:List (Nat×C6)}{st stX:St}{val:Nat->Value}{K:List (Nat×AV)->Prop}:∀ {l:List Operand} {acc:List (Nat×AV)},
  (∀ t,I2 stX be oe (E3 acc t) (val t))->(∀ t,Operand.tmp t∈l->(∀ av,Q3 L t=some (.pu av)->I2 stX be oe av (val t))/\(Q3 L t=none->I2 stX be oe (E3 st.fr t) (val t))) ->
  h05 L st.fr l acc K->∃ fr,K fr/\∀ t,I2 stX be oe (E3 fr t) (val t)
 | [],acc,c,b,a=>⟨acc,a,c⟩
 | .tmp t::r,acc,c,b,a=>by
  have f:∀ u,Operand.tmp u∈r->_:=λu d=>b u (mC _ d)
  have h:=b t mS
  have put:∀ av,I2 stX be oe av (val t)->∀ u,I2 stX be oe (E3 ((t,av)::acc) u) (val u):=λav g u=>by
   grind[V3]
  simp only[h05]at a
  split at a
  ·rename_i av e
   exact y02 (put av (h.1 _ e)) f a
  ·rename_i F e
   exact y02 (put .dead trivial) f a
  ·rename_i e
   exact y02 (put _ (h.2 e)) f a
 | .const v::r,acc,c,b,a=>y02 (l:=r) c (λu d=>b u (mC _ d)) a
 | .global v::r,acc,c,b,a=>y02 (l:=r) c (λu d=>b u (mC _ d)) a
 | .func v::r,acc,c,b,a=>y02 (l:=r) c (λu d=>b u (mC _ d)) a
theorem o0d:∀(L:List (Nat×C6)) (fr:List (Nat×AV)) (t:Nat),E3 (M0k L fr) t=match Q3 L t with
  |some (.pu av)=>av
  |some (.ef _) => .dead
  |none=>E3 fr t
 | [],fr,t=>rfl
 |(d,.pu av)::r,fr,t=>by
  simp only[M0k]
  rw[V3,p01]
  split
  ·rfl
  ·exact o0d r fr t
 |(d,.ef F)::r,fr,t=>by
  simp only[M0k]
  rw[V3,p01]
  split
  ·rfl
  ·exact o0d r fr t
theorem d0l{L a:List (Nat×C6)}{o:Oper}{st:St}(h:∀ t,Operand.tmp t∈o.op.operands->Q3 L t=Q3 a t):u0a P L o st=u0a P a o st:=by
 have d:∀ x:Operand,(∀ t,x = .tmp t->Operand.tmp t∈o.op.operands)->T06 L st x=T06 a st x:=λx c=>by
  cases x with
  |tmp t=>grind[T06]
  |_=>rfl
 have e:b0n P L o st=b0n P a o st:=by
  unfold b0n
  rw[z06 (l:=o.op.operands.toList) λt b=>h t (by simpa using b)]
 unfold u0a
 split
 ·rename_i x c;rw[d x λt b=>by grind[Op.operands]]
 ·rename_i x c;rw[d x λt b=>by grind[Op.operands]]
 ·rename_i t x c;rw[d x λt b=>by grind[Op.operands]]
 all_goals grind[Op.operands,List.mem_cons_self,Call.operands]
theorem z02{L c:List (Nat×C6)}{f:List (Nat×AV)}{K:List (Nat×AV)->Prop}:∀ {l:List Operand} {acc:List (Nat×AV)},(∀ t,Operand.tmp t∈l->Q3 L t=Q3 c t)->h05 L f l acc K->h05 c f l acc K
 | [],acc,a,h=>h
 | .tmp t::r,acc,a,h=>by
  have e:=a t mS
  have d:∀ u,Operand.tmp u∈r->Q3 L u=Q3 c u:=λu b=>a u (mC _ b)
  simp only[h05]at h ⊢
  rw[←e]
  split at h
  ·exact z02 d h
  ·exact z02 d h
  ·exact z02 d h
 | .const _::r,acc,a,h=>z02 (l:=r) (λu b=>a u (mC _ b)) h
 | .func _::r,acc,a,h=>z02 (l:=r) (λu b=>a u (mC _ b)) h
 | .global _::r,acc,a,h=>z02 (l:=r) (λu b=>a u (mC _ b)) h
structure A06 (P:Program) (st:St) (h:Hp) (ops:List Oper) (k:Nat) (L:List (Nat×C6)) (X E:List (Nat×Oper)):Prop where
 key:∀ t f,Q3 L t=some f->∃(i:Nat) (oi:Oper),i<k/\ops[i]?=some oi/\oi.dst=some t
 cov:∀(i:Nat) (oi:Oper) (d:Nat),i<k->ops[i]?=some oi->oi.dst=some d->∃ f,Q3 L d=some f
 each:∀(j:Nat) (o:Oper),j<k->ops[j]?=some o->o.guard=none/\((j,o)∈E∨((∀ p∈E,p.1≠j)/\∃ av,(u0a P L o st=some av∨((j,o)∈X/\N0k P st h L o av))/\∀ d,o.dst=some d->Q3 L d=some (.pu av)))
 eff:∀ p∈E,p.1<k/\ops[p.1]?=some p.2/\∀ d,p.2.dst=some d->∃ F,Q3 L d=some (.ef F)
 nd:(E.map λp=>p.1).Nodup
 xx:∀ p∈X,p.1<k/\ops[p.1]?=some p.2
theorem A06.add{st:St}{h:Hp}{ops:List Oper}{k:Nat}{L:List (Nat×C6)}{X w E A:List (Nat×Oper)}{o:Oper}{f:C6}
  (Y:∀(i j:Nat) (q b:Oper) (d:Nat),ops[i]?=some q->ops[j]?=some b->q.dst=some d->b.dst=some d->i=j)
  (Z:∀(j:Nat) (o:Oper) (t i:Nat) (q:Oper),ops[j]?=some o->Operand.tmp t∈o.op.operands->ops[i]?=some q->q.dst=some t->i<j)
  (l:A06 P st h ops k L X E) (M:ops[k]?=some o) (C:o.guard=none) (O:w=X∨w=X ++ [(k,o)])
  (J:(A=E/\∃ av,f = .pu av/\(u0a P L o st=some av∨((k,o)∈w/\N0k P st h L o av)))∨(A=E ++ [(k,o)]/\∃ F,f = .ef F)):A06 P st h ops (k+1) (S07 o.dst f L) w A:=by
 have no:∀ d,o.dst=some d->Q3 L d=none:=λd c=>by
  cases h:Q3 L d with
  |none=>rfl
  |some g =>
   obtain⟨i,q,u,s,I⟩:=l.key d g h
   grind
 have up:∀ t g,Q3 L t=some g->Q3 (S07 o.dst f L) t=some g:=λt g m=>by
  cases c:o.dst with
  |none=>exact m
  |some d =>
   show Q3 ((d,f)::L) t=some g
   grind[p01]
 have V:∀ d,o.dst=some d->Q3 (S07 o.dst f L) d=some f:=λd c=>by
  rw[c];show Q3 ((d,f)::L) d=some f;rw[p01,if_pos rfl]
 have dn:∀ t g,Q3 (S07 o.dst f L) t=some g->Q3 L t=some g∨(o.dst=some t/\g=f):=λt g m=>by
  cases c:o.dst with
  |none=>rw[c]at m;exact .inl m
  |some d =>
   rw[c]at m
   change Q3 ((d,f)::L) t=some g at m
   grind[p01]
 have W:∀(j:Nat) (b:Oper),j<=k->ops[j]?=some b->u0a P L b st=u0a P (S07 o.dst f L) b st:=λj b K v=>d0l λt m=>by
  cases c:o.dst with
  |none=>rfl
  |some d =>
   show Q3 L t=Q3 ((d,f)::L) t
   rw[p01]
   grind
 have H:∀(j:Nat) (b:Oper) (av:AV),j<=k->ops[j]?=some b->N0k P st h L b av->N0k P st h (S07 o.dst f L) b av:=λj b av K v D=>by
  obtain⟨n,fr,bx,ow⟩:=st
  intro h' Q
  refine z02 (λt m=>?_) (D h' Q)
  cases c:o.dst with
  |none=>rfl
  |some d =>
   show Q3 L t=Q3 ((d,f)::L) t
   rw[p01]
   split
   all_goals grind
 have S:∀ p,p∈X->p∈w:=λp a=>by
  grind
 refine⟨λt g m=>?_,λi q d aa u s=>?_,λj b K v=>?_,λp a=>?_,?_,λp a=>?_⟩
 rotate_left 5
 ·rcases O with rfl|rfl
  ·obtain⟨u,s⟩:=l.xx p a
   grind
  ·rcases List.mem_append.1 a with a|a
   ·obtain⟨u,s⟩:=l.xx p a
    grind
   grind
 rotate_left 4
 ·rcases J with⟨rfl,_⟩|⟨rfl,_⟩
  ·exact l.nd
  ·rw[List.map_append,List.nodup_append]
   refine⟨l.nd,by simp,λx D y R e=>?_⟩
   obtain⟨p,a,rfl⟩:=List.mem_map.1 D
   have:=(l.eff p a).1
   simp at R
   omega
 ·rcases dn t g m with h|⟨h,_⟩
  ·obtain⟨i,q,u,s⟩:=l.key t g h
   exact⟨i,q,by omega,s⟩
  grind
 ·rcases Nat.lt_or_ge i k with h|h
  ·obtain⟨g,C⟩:=l.cov i q d h u s
   exact⟨g,up d g C⟩
  grind
 ·rcases Nat.lt_or_ge j k with h|h
  ·obtain⟨T,G⟩:=l.each j b h v
   refine⟨T,?_⟩
   rcases G with G|⟨G,av,z,U⟩
   ·grind
   ·right
    refine⟨λp a=>?_,av,z.imp (λz=>by grind) (λz=>⟨S _ z.1,H j b av (by omega) v z.2⟩),λd c=>up d _ (U d c)⟩
    grind
  ·have:j=k:=by omega
   subst this
   rw[M]at v;cases v
   refine⟨C,?_⟩
   rcases J with⟨rfl,av,rfl,a⟩|⟨rfl,F,rfl⟩
   ·right
    exact⟨λp a=>by have:=(l.eff p a).1;omega,av,a.imp (λa=>by grind) (λa=>⟨a.1,H _ o av (Nat.le_refl _) M a.2⟩),V⟩
   grind
 ·have ab:p∈E->p.1<k+1/\ops[p.1]?=some p.2/\∀ d,p.2.dst=some d->∃ F,Q3 (S07 o.dst f L) d=some (.ef F):=λa=>by
   obtain⟨u,s,I⟩:=l.eff p a
   exact⟨by omega,s,λd c=>by obtain⟨F,N⟩:=I d c;exact⟨F,up d _ N⟩⟩
  grind
theorem B06{ops:List Oper}{st:St}{h:Hp}{K:List (Nat×C6)->List (Nat×Oper)->List (Nat×Oper)->Prop}
  (e:∀(i j:Nat) (b z:Oper) (d:Nat),ops[i]?=some b->ops[j]?=some z->b.dst=some d->z.dst=some d->i=j)
  (g:∀(j:Nat) (o:Oper) (t i:Nat) (b:Oper),ops[j]?=some o->Operand.tmp t∈o.op.operands->ops[i]?=some b->b.dst=some t->i<j) :
  ∀(l:List Oper) (k:Nat) (L:List (Nat×C6)) (X E:List (Nat×Oper)),(∀ j,l[j]?=ops[k+j]?)->A06 P st h ops k L X E->m04 P st h l k L X E K->∃ w x v,K w x v/\A06 P st h ops ops.length w x v
 | [],k,L,X,E,m,c,a=>by
  refine⟨L,X,E,a,?_⟩
  have H:ops.length<=k:=by
   have:=m 0
   simpa using this
  have lt:∀(i:Nat) (b:Oper),ops[i]?=some b->i<ops.length:=λi b h=>(List.getElem?_eq_some_iff.1 h).1
  exact⟨λt f h=>by obtain⟨i,b,_,y,A⟩:=c.key t f h;grind,λi b d F=>c.cov i b d (by omega),λj o G=>c.each j o (by omega),
   λp u=>by obtain⟨_,y,A⟩:=c.eff p u;grind,c.nd,λp u=>by obtain⟨_,y⟩:=c.xx p u;grind⟩
 |o::l,k,L,X,E,m,c,a=>by
  have s:ops[k]?=some o:=by simpa using (m 0).symm
  have q:∀ j,l[j]?=ops[k+1+j]?:=λj=>by have:=m (j+1);grind
  simp only[m04]at a
  split at a
  ·exact a.elim
  ·rename_i n
   split at a
   ·rename_i av C
    rw[u03]at a
    exact B06 e g l (k+1) _ _ _ q (c.add e g s n (.inl rfl) (.inl ⟨rfl,av,rfl,.inl C⟩)) a
   ·rcases a with⟨av,D,a⟩|a
    ·rw[u03]at a
     exact B06 e g l (k+1) _ _ _ q (c.add e g s n (.inr rfl) (.inl ⟨rfl,av,rfl,.inr ⟨by simp,D⟩⟩)) a
    ·exact B06 e g l (k+1) _ _ _ q (c.add e g s n (.inl rfl) (.inr ⟨rfl,_,rfl⟩)) a
theorem X0f:∀(r:List (Nat×Oper)) (q:Nat×Oper),I05 r=true->q∈r.tail->∃ p∈r,w8 p.1 q.2=true
 | [],q,_,h=>by cases h
 | [x],q,_,h=>by cases h
 |(i,o)::(j,b)::r,q,a,h=>by
  simp only[I05,Bool.and_eq_true]at a
  rcases List.mem_cons.1 h with rfl|h
  ·simp_all
  ·obtain⟨p,d,c⟩:=X0f ((j,b)::r) q a.2 h
   grind
theorem L03:∀(d r:List (Nat×Oper)),I05 (d++r)=true->I05 r=true
 | [],r,h=>h
 | [x],[],h=>rfl
 | [(i,o)],(j,a)::r,h=>by simp_all[List.singleton_append,I05,Bool.and_eq_true]
 |(i,o)::(j,a)::d,r,h=>by
  simp only[List.cons_append,I05,Bool.and_eq_true]at h
  exact L03 ((j,a)::d) r h.2
theorem e0l{k:Nat}:∀ {r:List Nat},inK k r=true->k∈r
 |x::r,h=>by
  simp only[inK,Bool.or_eq_true]at h
  rw[List.mem_cons]
  exact h.imp (λe=>Nat.eq_of_beq_eq_true e) e0l
theorem U05{k:Nat}:∀ {l:List (Nat×Oper)},k∈l0a l->∃ p∈l,p.1=k
 |x::r,h=>by
  rcases List.mem_cons.1 h with h|h
  ·exact⟨x,mS,h.symm⟩
  ·obtain⟨p,a,b⟩:=U05 h
   exact⟨p,mC _ a,b⟩
theorem E0a{es:List Nat}{i:Nat}{o:Oper}:∀ {a:Nat},g09 es a i o=true->∀ k,k<a->k≠i->(∃ e∈o.after,Region.binds .any e=true/\e.on=k)∨k∈es
 |0,_,k,c,_=>by omega
 |a+1,h,k,c,b=>by
  simp only[g09,Bool.and_eq_true,Bool.or_eq_true]at h
  by_cases e:k=a
  ·subst e
   rcases h.1 with(g|g)|g
   ·exact absurd (Nat.eq_of_beq_eq_true g) b
   ·exact .inl (r7 g)
   ·exact .inr (e0l g)
  ·exact E0a h.2 k (by omega) b
theorem F0a{i:Nat}{o:Oper}:∀ {a:Nat},e09 a i o=true->∀ k,k<a->k≠i->∃ e∈o.after,Region.binds .any e=true/\e.on=k
 |0,_,k,b,_=>by omega
 |a+1,h,k,b,c=>by
  simp only[e09,Bool.and_eq_true,Bool.or_eq_true]at h
  by_cases e:k=a
  ·grind[absurd,Nat.eq_of_beq_eq_true,r7]
  ·exact F0a h.2 k (by omega) c
def k0n(P:Program)(h0:Hp)(w0:World)(ops:Array Oper)(i:List Nat)(n:Nat)(fr:List (Nat×AV))(f:List BSt)(g:List Own)(l:Hp)(c:Nat)(F:List (Nat×Oper))(b:List (Nat×C6))(EV:List (Nat×Oper)->List (Nat×Oper)->List (Nat×C6)->St->Hp->Prop)(listed:Array Bool)(a:Act)(w:World):Prop :=
 ∃(dn r:List (Nat×Oper)) (L:List (Nat×C6)) (bx:List BSt) (ow:List Own) (h:Hp) (be:Nat->Nat) (oe:Nat->Value) (H:Hp),F=dn++r/\(dn.length<=c->ow=g/\Sub l h/\(bx=f∨∀ k,k<ops.size->listed.getD k false=true∨k∈i))/\(∀(j:Nat) (o:Oper),ops[j]?=some o->listed.getD j false=true->∀ e∈o.after,Region.binds .any e=true->listed.getD e.on false=true)/\(∀ p∈r,listed.getD p.1 true=false)/\(∀ p∈dn,listed.getD p.1 false=true) /\
  (v0a bx (i00 b ⟨n,fr,f,g⟩ ops.toList)=v0a f (i00 b ⟨n,fr,f,g⟩ ops.toList)∨∀ k,k<ops.size->listed.getD k false=true∨k∈i)/\Sim P h0 w0 be oe H ⟨n,G4 ops.toList fr,bx,ow⟩ h a w/\EV dn r L ⟨n,fr,bx,ow⟩ h /\
  (∀ t,(Q3 b t=none->Q3 L t=none)/\∀ av,Q3 b t=some (.pu av)->Q3 L t=some (.pu av)) /\
  ∀(j:Nat) (o:Oper) (d:Nat),ops[j]?=some o->o.dst=some d->listed.getD j false=true->∃ av,Q3 L d=some (.pu av)/\I2 ⟨n,fr,bx,ow⟩ be oe av (a.tmps.getD d undef)
abbrev R0p(P:Program)(h0:Hp)(w0:World)(ops:Array Oper)(b:List Nat)(n:Nat)(fr:List (Nat×AV))(e:List BSt)(f:List Own)(g:Hp)(c:Nat)(E:List (Nat×Oper))(d:List (Nat×C6))(K:St->Hp->Prop)(listed:Array Bool)(a:Act)(w:World):Prop :=
 k0n P h0 w0 ops b n fr e f g c E d (λdn r L st h=>evC (i00 d ⟨n,fr,e,f⟩ ops.toList) (ops.size,b) P (c-dn.length) r L st h K) listed a w
theorem r0u{ops:Array Oper}{Q:Exit->Act->World->Prop}{Inv:Array Bool->Act->World->Prop}(i:∀(k:Nat) (o:Oper),ops.toList[k]?=some o->∀ e∈o.after,Region.binds .any e=true->e.on<k)
  (n:∀ listed a w j o,listed.size=ops.size->listed.getD j true=false->ops[j]?=some o->(∀ e∈o.after,Region.binds .any e=true->listed.getD e.on false=true)->Inv listed a w->o.guard=none/\o.wp P a w (Inv (listed.setIfInBounds j true)) Q)
  (g:∀ listed a w,(∀ j,j<ops.size->listed.getD j false=true)->Inv listed a w->Q .normal a w) :
  ∀(fuel:Nat) (listed:Array Bool) (a:Act) (w:World),listed.size=ops.size->listed.toList.count true+fuel=ops.size->Inv listed a w->wpAny P .any ops Q fuel listed a w
 |0,listed,a,w,f,t,d=>by
  have s:∀ j,j<ops.size->listed.getD j false=true:=λj l=>by
   have c:∀ b∈listed.toList,true=b:=List.count_eq_length.1 (by grind)
   have x:j<listed.size:=by omega
   have:=c listed[j] (by simp)
   simp[x,←this]
  refine⟨?_,g listed a w s d⟩
  cases m:Region.ready .any ops listed with
  |nil=>rfl
  |cons j r =>
   grind[Region.ready,List.mem_cons_self,mem_ready,Array.getElem?_eq_some_iff]
 |fuel+1,listed,a,w,f,t,d=>by
  refine⟨λm=>g listed a w (n0d i f m) d,λj l=>?_⟩
  obtain⟨c,o,h,q⟩:=mem_ready.1 l
  unfold wpOp
  simp only[h]
  obtain⟨u,z⟩:=n listed a w j o f c h q d
  have y:Region.wanted o (yielded ops a.tmps)=true:=by unfold Region.wanted;rw[u]
  rw[if_pos y]
  exact .inl (Oper.wp_mono (λp A v=>r0u i n g fuel _ p A (by simpa using f) (by rw[count_set c];omega) v) z)
theorem b0c{ops:Array Oper}{listed:Array Bool}{X:List (Nat×Oper)}
  (f:∀(k:Nat) (o:Oper),ops[k]?=some o->listed.getD k false=true->∀ e∈o.after,Region.binds .any e=true->listed.getD e.on false=true)
  (p:∀ y∈X,ops[y.1]?=some y.2):∀(n i a:Nat) (q:Oper),ops[a]?=some q->listed.getD a false=true->y0j X n i q=true->listed.getD i false=true
 |0,i,a,q,h,g,j=>by
  obtain⟨e,b,c,d⟩:=r7 j
  have:=f a q h g e b c
  rwa [d]at this
 |n+1,i,a,q,h,g,j=>by
  simp only[y0j,Bool.or_eq_true,List.any_eq_true,Bool.and_eq_true]at j
  rcases j with l|⟨y,t,l,s⟩
  ·obtain⟨e,b,c,d⟩:=r7 l
   have:=f a q h g e b c
   rwa [d]at this
  ·obtain⟨e,b,c,d⟩:=r7 l
   have m:=f a q h g e b c
   rw[d]at m
   exact b0c f p n i y.1 y.2 (p y t) m s
theorem p0d{E:List (Nat×Oper)}{listed:Array Bool}{j:Nat}{o:Oper}(h:∀ e∈o.after,Region.binds .any e=true->listed.getD e.on false=true)
  (d:∀ dn r,E=dn++r->I05 r=true) {dn r:List (Nat×Oper)} (c:E=dn++r) (k:∀ p∈r,listed.getD p.1 true=false) (b:(j,o)∈r):∃ a,r=(j,o)::a:=by
 obtain⟨q,a,rfl⟩:∃ q a,r=q::a:=by
  cases r with
  |nil=>cases b
  |cons q a=>exact⟨q,a,rfl⟩
 rcases List.mem_cons.1 b with e|f
 ·grind
 ·exfalso
  obtain⟨p,i,g⟩:=X0f (q::a) (j,o) (d dn _ c) f
  grind[r7,Nat.lt_or_ge,Array.getElem?_eq_none]
theorem b0i{ops:Array Oper}{n:Nat}{fr:List (Nat×AV)}{aa:List BSt}{al:List Own}{a0:Hp}{c:Nat}{M:List Nat}{X E F:List (Nat×Oper)}{ae:List (Nat×C6)}{EV:List (Nat×Oper)->List (Nat×Oper)->List (Nat×C6)->St->Hp->Prop}{Q:Exit->Act->World->Prop}{listed:Array Bool}{j:Nat}{o:Oper}
  (a9:∀(i j:Nat) (m bp:Oper) (d:Nat),ops.toList[i]?=some m->ops.toList[j]?=some bp->m.dst=some d->bp.dst=some d->i=j)
  (bh:∀ o∈ops.toList,∀ d,o.dst=some d->d<n) (aq:A06 P ⟨n,fr,aa,al⟩ a0 ops.toList ops.toList.length ae X E) (bv:∀ k∈M,∃ p∈E,p.1=k) (aU:∀ x∈F,x∈E) (bu:(j,o)∈E->(j,o)∈F) (bz:(F.map λp=>p.1).Nodup)
  (bT:∀ dn r,F=dn++r->(∀ p∈dn,listed.getD p.1 false=true)->(∀ p∈r,listed.getD p.1 true=false)->(j,o)∈r->∃ ad,r=(j,o)::ad)
  (aY:∀ dn ad L bx ow h,F=dn++(j,o)::ad->(∀ p∈dn,listed.getD p.1 false=true)->EV dn ((j,o)::ad) L ⟨n,fr,bx,ow⟩ h->h05 L fr o.op.operands.toList [] λV=>F8 P o ⟨n,V,bx,ow⟩ h λav st' h'=>match st' with
   |⟨_,_,C,I⟩=>c0d (c-dn.length) ow I h h'/\S0h (c-dn.length) (L0b (ops.size,M) j o) (i00 ae ⟨n,fr,aa,al⟩ ops.toList) bx C/\N01 av λav=>G8 C λC=>G8 I λI=>EV (dn ++ [(j,o)]) ad (S07 o.dst (.pu av) L) ⟨n,fr,C,I⟩ h')
  (aX:H0f X (X++E) (F.drop c)=true)
  (ab:listed.getD j true=false) (aD:ops[j]?=some o) (bZ:listed.size=ops.size)
  (bf:∀ t,Operand.tmp t∈o.op.operands->∀(i:Nat) (m:Oper),ops.toList[i]?=some m->m.dst=some t->listed.getD i false=true)
  (bg:∀ e∈o.after,Region.binds .any e=true->listed.getD e.on false=true)
  (aZ:k0n P h0 w0 ops M n fr aa al a0 c F ae EV listed a w):o.guard=none/\o.wp P a w (k0n P h0 w0 ops M n fr aa al a0 c F ae EV (listed.setIfInBounds j true)) Q:=by
 obtain⟨dn,r,L,bx,ow,h',be,oe,H,O,ax,bd,ap,af,an,Z,ag,R,ar⟩:=aZ
 have aE:ops.toList[j]?=some o:=by simpa using aD
 have aM:o∈ops.toList:=List.mem_of_getElem? aE
 have aB:j<ops.toList.length:=(List.getElem?_eq_some_iff.1 aE).1
 have az:j<listed.size:=by simpa [bZ] using aB
 have a3:(∀ p∈E,p.1≠j) -> ¬ ∀ k,k<ops.size->listed.getD k false=true∨k∈M:=λbJ e=>by
  rcases e j (by simpa using aB)with l|l
  ·simp[az]at l ab
   rw[l]at ab;cases ab
  ·obtain⟨p,u,G⟩:=bv j l
   exact bJ p u G
 have up:(∀ k,k<ops.size->listed.getD k false=true∨k∈M)->∀ k,k<ops.size->(listed.setIfInBounds j true).getD k false=true∨k∈M:=λe k ao=>(e k ao).imp (λh=>getD_set_true h) id
 obtain⟨bG,bN⟩:=aq.each j o aB aE
 refine⟨bG,?_⟩
 have br:∀ t,Q3 L t≠none->∃(i:Nat) (m:Oper),ops.toList[i]?=some m/\m.dst=some t:=λt z=>by
  cases h0':Q3 ae t with
  |none=>exact absurd ((R t).1 h0') z
  |some f=>obtain⟨i,m,_,s,S⟩:=aq.key t f h0';exact⟨i,m,s,S⟩
 have frame:∀ t,(∀ aG∈ops.toList,aG.dst≠some t)->I2 ⟨n,fr,bx,ow⟩ be oe (E3 fr t) (a.tmps.getD t undef):=λt z=>by
  have g:=Z.fr t
  change I2 _ be oe (E3 (G4 ops.toList fr) t) _ at g
  rw[P01 z]at g
  exact I2.fr (st:=⟨n,G4 ops.toList fr,bx,ow⟩) (fr:=fr) g
 have aH:∀ t,Operand.tmp t∈o.op.operands->(∀ av,Q3 L t=some (.pu av)->I2 ⟨n,fr,bx,ow⟩ be oe av (a.tmps.getD t undef))/\(Q3 L t=none->I2 ⟨n,fr,bx,ow⟩ be oe (E3 fr t) (a.tmps.getD t undef)):=λt z=>by
  refine⟨λav bb=>?_,λbS=>frame t λaG bU J=>?_⟩
  ·obtain⟨i,m,l,s⟩:=br t (by rw[bb];simp)
   obtain⟨N,D,G⟩:=ar i m t (by simpa using l) s (bf t z i m l s)
   rw[bb]at D;cases D
   exact G
  ·obtain⟨i,aZ,e⟩:=List.getElem_of_mem bU
   have l:ops.toList[i]?=some aG:=by rw[List.getElem?_eq_getElem aZ,e]
   obtain⟨N,D,_⟩:=ar i aG t (by simpa using l) J (bf t z i aG l J)
   rw[bS]at D;cases D
 have ac:∀ i,i≠j->∀ d,(listed.setIfInBounds j true).getD i d=listed.getD i d:=λi A d=>getD_set_ne d (Ne.symm A)
 have a4:∀ {C:List BSt} {I:List Own} {W:Hp} {be':Nat->Nat} {oe':Nat->Value} {U:Hp} {v:Value} {am:World},Sim P h0 w0 be' oe' U ⟨n,G4 ops.toList fr,C,I⟩ W a am->Sim P h0 w0 be' oe' U ⟨n,G4 ops.toList fr,C,I⟩ W (a.put o.dst v) am:=by
  intro C I W be' oe' U v am s1
  cases J:o.dst with
  |none=>exact s1
  |some d =>
   have u:=s1.put (d:=d) (av := .dead) (v:=v) (bh o aM d J) trivial
   refine u.refr (fr:=G4 ops.toList fr) λt=>?_
   have g:=u.fr t
   change I2 _ _ _ (E3 ((d,.dead)::G4 ops.toList fr) t) _ at g
   rw[V3]at g
   split at g
   ·rename_i e
    subst e
    rw[M02 aM J]
    trivial
   ·exact g
 have a5:∀(v:Value) (i:Nat) (m:Oper) (d:Nat),ops[i]?=some m->m.dst=some d->i≠j->(a.put o.dst v).tmps.getD d undef=a.tmps.getD d undef:=λv i m d l s A=>by
  cases J:o.dst with
  |none=>rfl
  |some a7 =>
   have ai:a7≠d:=λe=>by subst e;exact A (a9 i j m o a7 (by simpa using l) aE s J)
   simp[Act.put,Array.getElem?_setIfInBounds_ne ai]
 have a6:∀(v:Value) (d:Nat),o.dst=some d->(a.put o.dst v).tmps.getD d undef=v:=λv d J=>by
  have aB:d<a.tmps.size:=by rw[Z.siz];exact bh o aM d J
  rw[J]
  simp[Act.put,aB]
 have aV:∀(i:Nat) (m:Oper),ops[i]?=some m->(listed.setIfInBounds j true).getD i false=true->∀ e∈m.after,Region.binds .any e=true->(listed.setIfInBounds j true).getD e.on false=true:=λi m l s e aK aL=>by
  by_cases A:i=j
  ·subst A
   rw[aD]at l;cases l
   exact getD_set_true (bg e aK aL)
  ·rw[ac i A]at s
   exact getD_set_true (bd i m l s e aK aL)
 rcases bN with ay|⟨aC,av,bV|⟨bI,bO⟩,ba⟩
 ·
  have bL:(j,o)∈r:=by
   have ay:=bu ay
   rw[O]at ay
   rcases List.mem_append.1 ay with aj|aj
   ·have l:=af _ aj
    simp[az]at l ab
    rw[l]at ab;cases ab
   ·exact aj
  obtain⟨ad,rfl⟩:=bT dn r O af ap bL
  have ag:=aY dn ad L bx ow h' O af ag
  obtain⟨V,ag,aO⟩:=y02 (acc:=[]) (st:=⟨n,fr,bx,ow⟩) (stX:=⟨n,fr,bx,ow⟩) (be:=be) (oe:=oe) (val:=λt=>a.tmps.getD t undef) (λt=>trivial) (λt z=>aH t (by simpa using z)) ag
  have a1:Sim P h0 w0 be oe H ⟨n,V,bx,ow⟩ h' a w:=Z.refr (fr:=V) λt=>I2.fr (st:=⟨n,fr,bx,ow⟩) (fr:=G4 ops.toList fr) (aO t)
  refine Oper.wp_mono (λbs am aj=>?_) (C00 a1 ag)
  obtain⟨N,⟨Y,a8,C,I⟩,W,v,be',oe',U,ao,rfl,s2,aP,K⟩:=aj
  obtain⟨aW,T,ao⟩:=ao
  rw[u03,J02,J02]at ao
  have bR:Y=n:=by
   have D:a.tmps.size=Y:=s2.siz
   have G:a.tmps.size=n:=Z.siz
   omega
  subst bR
  have aQ:j7 ⟨Y,fr,bx,ow⟩ be oe ⟨Y,fr,C,I⟩ be' oe':=⟨K.bl,K.be,K.sm⟩
  have aR:j7 ⟨Y,G4 ops.toList fr,bx,ow⟩ be oe ⟨Y,G4 ops.toList fr,C,I⟩ be' oe':=⟨K.bl,K.be,K.sm⟩
  have a2:Sim P h0 w0 be' oe' U ⟨Y,G4 ops.toList fr,C,I⟩ W a am :=
   s2.refr (fr:=G4 ops.toList fr) λt=>I2.fr (st:=⟨Y,G4 ops.toList fr,C,I⟩) (fr:=a8) ((Z.fr t).grow aR)
  have b0:∀ d,o.dst=some d->Q3 (S07 o.dst (.pu N) L) d=some (.pu N):=λd J=>by
   rw[J];show Q3 ((d,.pu N)::L) d=_;rw[p01,if_pos rfl]
  have bj:∀ t,o.dst≠some t->Q3 (S07 o.dst (.pu N) L) t=Q3 L t:=λt z=>by
   cases J:o.dst with
   |none=>rfl
   |some d =>
    show Q3 ((d,.pu N)::L) t=_
    rw[p01,if_neg λe=>z (by rw[J,e])]
  have bo:L0b (ops.size,M) j o=true->∀ k,k<ops.size->(listed.setIfInBounds j true).getD k false=true∨k∈M:=λah k bM=>by
   by_cases hkj:k=j
   ·subst hkj;left;simp[az]
   ·rw[ac k hkj]
    rcases E0a (show g09 M ops.size j o=true from ah) k bM hkj with⟨e,aK,aL,rfl⟩|ap
    ·exact .inl (bg e aK aL)
    ·exact .inr ap
  refine⟨dn ++ [(j,o)],ad,S07 o.dst (.pu N) L,C,I,W,be',oe',U,by rw[O];simp,λaA=>(by
   have b2:dn.length<c:=by simp only[List.length_append,List.length_singleton]at aA;omega
   obtain⟨D,G,aw⟩:=ax (by omega)
   obtain⟨aN,bC⟩:∃ aN,c-dn.length=aN+1:=⟨c-dn.length-1,by omega⟩
   rw[bC]at aW T
   refine⟨aW.1.trans D,λb o bA=>aW.2 b o (G b o bA),?_⟩
   cases ah:L0b (ops.size,M) j o with
   |true=>exact .inr (bo ah)
   |false =>
    rw[ah]at T
    rcases aw with aw|aw
    ·exact .inl (T.trans aw)
    ·exact .inr (up aw)),aV,λp u=>?_,λp u=>?_,?_,a4 a2,ao,λt=>?_,λi m d l s S=>?_⟩
  ·have ai:p.1≠j:=λe=>by
    have bi:=bz
    rw[O,List.map_append,List.nodup_append]at bi
    have s:=bi.2.1
    rw[List.map_cons,List.nodup_cons]at s
    exact s.1 (List.mem_map.2 ⟨p,u,e⟩)
   rw[ac _ ai]
   exact ap p (mC _ u)
  ·rcases List.mem_append.1 u with u|u
   ·exact getD_set_true (af p u)
   ·simp at u
    subst u
    simp[az]
  ·cases ah:L0b (ops.size,M) j o with
   |false =>
    rw[ah]at T
    rcases an with an|an
    ·left
     rw[←an]
     cases hc:c-dn.length with
     |zero=>rw[hc]at T;exact T
     |succ aN =>
      rw[hc]at T
      have T:C=bx:=T
      rw[T]
    ·exact .inr (up an)
   |true=>exact .inr (bo ah)
  ·by_cases z:o.dst=some t
   ·obtain⟨_,_,aJ⟩:=aq.eff (j,o) ay
    obtain⟨F,aJ⟩:=aJ t z
    exact⟨λe=>(by rw[aJ]at e;cases e),λav e=>(by rw[aJ]at e;cases e)⟩
   ·rw[bj t z]
    exact R t
  ·by_cases A:i=j
   ·subst A
    rw[aD]at l;cases l
    exact⟨N,b0 d s,by rw[a6 v d s];exact I2.fr (st:=⟨Y,a8,C,I⟩) (fr:=fr) aP⟩
   ·rw[ac _ A]at S
    obtain⟨au,D,G⟩:=ar i m d l s S
    have bD:o.dst≠some d:=λe=>A (a9 i j m o d (by simpa using l) aE s e)
    exact⟨au,by rw[bj d bD];exact D,by rw[a5 v i m d l s A];exact G.grow aQ⟩
 ·
  have bc:v0a bx (i00 ae ⟨n,fr,aa,al⟩ ops.toList)=v0a aa (i00 ae ⟨n,fr,aa,al⟩ ops.toList):=an.resolve_right (a3 aC)
  have bq:∀ {av:AV} {x:Value},I2 ⟨n,fr,bx,ow⟩ be oe av x->I2 ⟨n,G4 ops.toList fr,bx,ow⟩ be oe av x:=λg=>I2.fr (st:=⟨n,fr,bx,ow⟩) (fr:=G4 ops.toList fr) g
  obtain⟨v,bY,bt⟩:=Q0p (st:=⟨n,fr,aa,al⟩) (stX:=⟨n,G4 ops.toList fr,bx,ow⟩) Z (λb3 x i off D G=>a0i bc (W0f D G aM)) bV (λt z=>⟨λav e=>bq ((aH t z).1 av ((R t).2 av e)),λe=>bq ((aH t z).2 ((R t).1 e))⟩)
  refine U7 bY ?_
  refine⟨dn,r,L,bx,ow,h',be,oe,H,O,(λaA=>⟨(ax aA).1,(ax aA).2.1,.inl ((ax aA).2.2.resolve_right (a3 aC))⟩),aV,λp u=>?_,λp u=>getD_set_true (af p u),.inl bc,a4 Z,ag,R,λi m d l s S=>?_⟩
  ·have ai:p.1≠j:=aC p (aU _ (by rw[O];exact List.mem_append_right _ u))
   rw[ac _ ai]
   exact ap p u
  ·by_cases A:i=j
   ·subst A
    rw[aD]at l;cases l
    exact⟨av,(R d).2 av (ba d s),by rw[a6 v d s];exact I2.fr (st:=⟨n,G4 ops.toList fr,bx,ow⟩) (fr:=fr) bt⟩
   ·rw[ac _ A]at S
    obtain⟨au,D,G⟩:=ar i m d l s S
    exact⟨au,D,by rw[a5 v i m d l s A];exact G⟩
 ·
  have bE:dn.length<=c:=by
   rcases Nat.lt_or_ge c dn.length with bP|bH
   ·exfalso
    obtain⟨⟨ak,q⟩,bk⟩:∃ b1,dn[c]?=some b1:=⟨_,List.getElem?_eq_getElem bP⟩
    have bm:(ak,q)∈dn:=List.mem_of_getElem? bk
    have bF:∃ t,F.drop c=(ak,q)::t:=by
     obtain⟨bQ,G⟩:=List.getElem?_eq_some_iff.1 bk
     refine⟨(dn++r).drop (c+1),?_⟩
     rw[O,List.drop_eq_getElem_cons (by simp;omega),List.getElem_append_left bQ,G]
    have bK:listed.getD j false=false:=by simp[az]at ab ⊢;exact ab
    have bW:listed.getD ak false=true:=af (ak,q) bm
    have bX:ops[ak]?=some q:=by
     have:=(aq.eff (ak,q) (aU _ (by rw[O];exact List.mem_append_left _ bm))).2.1
     simpa using this
    obtain⟨t,z⟩:=bF
    rw[z]at aX
    simp only[H0f,List.all_eq_true]at aX
    have:=b0c (X:=X++E) bd (λy aF=>by
     rcases List.mem_append.1 aF with aF|aF
     ·have aS:=(aq.xx y aF).2;simpa using aS
     ·have aS:=(aq.eff y aF).2.1;simpa using aS) 8 j ak q bX bW (aX (j,o) bI)
    rw[bK]at this;cases this
   ·exact bH
  obtain⟨rfl,bn,bB⟩:=ax bE
  obtain rfl:=bB.resolve_right (a3 aC)
  obtain⟨V,aY,aO⟩:=y02 (acc:=[]) (st:=⟨n,fr,bx,ow⟩) (stX:=⟨n,fr,bx,ow⟩) (be:=be) (oe:=oe) (val:=λt=>a.tmps.getD t undef) (λt=>trivial)
   (λt z=>⟨λav e=>(aH t (by simpa using z)).1 av ((R t).2 av e),λe=>(aH t (by simpa using z)).2 ((R t).1 e)⟩) (bO h' bn)
  have a1:Sim P h0 w0 be oe H ⟨n,V,bx,ow⟩ h' a w:=Z.refr (fr:=V) λt=>I2.fr (st:=⟨n,fr,bx,ow⟩) (fr:=G4 ops.toList fr) (aO t)
  refine Oper.wp_mono (λbs am aj=>?_) (C00 a1 aY)
  obtain⟨N,st',W,v,be',oe',U,⟨rfl,rfl,rfl⟩,rfl,s2,aP,K⟩:=aj
  have aQ:j7 ⟨n,fr,bx,ow⟩ be oe ⟨n,fr,bx,ow⟩ be' oe':=⟨K.bl,K.be,K.sm⟩
  have aR:j7 ⟨n,G4 ops.toList fr,bx,ow⟩ be oe ⟨n,G4 ops.toList fr,bx,ow⟩ be' oe':=⟨K.bl,K.be,K.sm⟩
  have a2:Sim P h0 w0 be' oe' U ⟨n,G4 ops.toList fr,bx,ow⟩ W a am :=
   s2.refr (fr:=G4 ops.toList fr) λt=>I2.fr (st:=⟨n,G4 ops.toList fr,bx,ow⟩) (fr:=V) ((Z.fr t).grow aR)
  refine⟨dn,r,L,bx,ow,W,be',oe',U,O,λ_=>⟨rfl,bn,.inl rfl⟩,aV,λp u=>?_,λp u=>getD_set_true (af p u),.inl rfl,a4 a2,ag,R,λi m d l s S=>?_⟩
  ·have ai:p.1≠j:=aC p (aU _ (by rw[O];exact List.mem_append_right _ u))
   rw[ac _ ai]
   exact ap p u
  ·by_cases A:i=j
   ·subst A
    rw[aD]at l;cases l
    exact⟨N,(R d).2 N (ba d s),by rw[a6 v d s];exact I2.fr (st:=⟨n,V,bx,ow⟩) (fr:=fr) aP⟩
   ·rw[ac _ A]at S
    obtain⟨au,D,G⟩:=ar i m d l s S
    exact⟨au,D,by rw[a5 v i m d l s A];exact G.grow aQ⟩
theorem Y0u{ops:Array Oper}{n:Nat}{fr:List (Nat×AV)}{m:List BSt}{s:List Own}{q:Hp}{c:Nat}{g:List Nat}{X E:List (Nat×Oper)}{l:List (Nat×C6)}{K:St->Hp->Prop}{Q:Exit->Act->World->Prop}{listed:Array Bool}{j:Nat}{o:Oper}
  (A:∀(i j:Nat) (b y:Oper) (d:Nat),ops.toList[i]?=some b->ops.toList[j]?=some y->b.dst=some d->y.dst=some d->i=j)
  (N:∀ o∈ops.toList,∀ d,o.dst=some d->d<n) (z:A06 P ⟨n,fr,m,s⟩ q ops.toList ops.toList.length l X E) (C:∀ k∈g,∃ p∈E,p.1=k) (D:I05 E=true) (H:H0f X (X++E) (E.drop c)=true)
  (J:listed.getD j true=false) (O:ops[j]?=some o) (S:listed.size=ops.size)
  (F:∀ t,Operand.tmp t∈o.op.operands->∀(i:Nat) (b:Oper),ops.toList[i]?=some b->b.dst=some t->listed.getD i false=true)
  (v:∀ e∈o.after,Region.binds .any e=true->listed.getD e.on false=true)
  (I:R0p P h0 w0 ops g n fr m s q c E l K listed a w):o.guard=none/\o.wp P a w (R0p P h0 w0 ops g n fr m s q c E l K (listed.setIfInBounds j true)) Q:=by
 refine b0i A N z C (λx T=>T) id z.nd (λdn r f G R M=>?_) (λdn U L bx ow h f G u=>?_) H J O S F v I
 ·exact p0d v (λdn r f=>L03 dn r (by rw[←f];exact D)) f R M
 ·simp only[evC]at u
  have e:c-(dn ++ [(j,o)]).length=c-dn.length-1:=by simp;omega
  simp only[e]
  exact u
theorem Y0f:∀ {k:Nat} {E:List (Nat×Oper)} {f:Nat×Oper} {a:List (Nat×Oper)},T0h k E=some (f,a)->∃ A B,E=A++f::B/\a=A++B
 |_,[],f,a,h=>by simp[T0h]at h
 |0,x::r,f,a,h=>by
  simp only[T0h,Option.some.injEq,Prod.mk.injEq]at h
  obtain⟨rfl,rfl⟩:=h
  exact⟨[],r,rfl,rfl⟩
 |k+1,x::r,f,a,h=>by
  simp only[T0h]at h
  split at h
  ·rename_i c d b
   simp only[Option.some.injEq,Prod.mk.injEq]at h
   obtain⟨rfl,rfl⟩:=h
   obtain⟨A,B,rfl,rfl⟩:=Y0f b
   grind
  ·cases h
theorem c0i{f:Nat×Oper}:∀ {p:Nat} {E:List (Nat×Oper)},H0p f p E=true->∃ q,E[p]?=some q/\w8 f.1 q.2=true
 |_,[],h=>by simp[H0p]at h
 |0,(i,q)::r,h=>⟨(i,q),rfl,by simpa [H0p] using h⟩
 |p+1,x::r,h=>by
  obtain⟨q,a,b⟩:=c0i (E:=r) (p:=p) (by simpa [H0p] using h)
  grind
theorem f0l:∀ {X:List (Nat×Oper)},noX X=true->X = []
 | [],_=>rfl
 |_::_,h=>by simp[noX]at h
theorem v07{Y:List (Nat×Oper)}:∀(E:List (Nat×Oper)),H0f [] Y E=true
 | []=>rfl
 |_::_=>rfl
theorem u05{l:Array Bool}{j:Nat}(h:l.getD j true=false):l.getD j false=false:=by
 grind
theorem w07{listed:Array Bool}:∀ {A B dn r:List (Nat×Oper)},A++B=dn++r->(∀ p∈A,listed.getD p.1 false=true)->(∀ p∈r,listed.getD p.1 true=false)->∃ C,dn=A++C/\B=C++r
 | [],B,dn,r,h,_,_=>⟨dn,rfl,by simpa using h⟩
 |x::A,B,[],r,h,a,b=>by
  grind
 |x::A,B,y::dn,r,h,a,b=>by
  simp only[List.cons_append,List.cons.injEq]at h
  obtain⟨rfl,h⟩:=h
  obtain⟨C,d,e⟩:=w07 h (λp c=>a p (mC _ c)) b
  grind
theorem g0l{rd:List Nat}{d:Nat×List Nat}{c:Nat}{L:List (Nat×C6)}{K:St->Hp->Prop}{dn f:List (Nat×Oper)}{j:Nat}{o:Oper}{n:Nat}{fr:List (Nat×AV)}{bx:List BSt}{ow:List Own}{h:Hp}
  (i:evC rd d P (c-dn.length) ((j,o)::f) L ⟨n,fr,bx,ow⟩ h K):h05 L fr o.op.operands.toList [] λg=>F8 P o ⟨n,g,bx,ow⟩ h λav st' h'=>match st' with
   |⟨_,_,a,b⟩=>c0d (c-dn.length) ow b h h'/\S0h (c-dn.length) (L0b d j o) rd bx a/\N01 av λav=>G8 a λa=>G8 b λb=>evC rd d P (c-(dn ++ [(j,o)]).length) f (S07 o.dst (.pu av) L) ⟨n,fr,a,b⟩ h' K:=by
 simp only[evC]at i
 have e:c-(dn ++ [(j,o)]).length=c-dn.length-1:=by simp;omega
 simp_all
def c0r(rd:List Nat)(c:Nat×List Nat)(P:Program)(m:Nat)(x:Nat×Oper)(r:List (Nat×Oper))(L:List (Nat×C6))(st:St)(h:Hp)(K:St->Hp->Prop):Prop:=match st with
 |⟨n,fr,bx,ow⟩=>h05 L fr x.2.op.operands.toList [] λd=>F8 P x.2 ⟨n,d,bx,ow⟩ h λav st' h'=>match st' with
  |⟨_,_,a,b⟩=>c0d 0 ow b h h'/\S0h 0 (L0b c x.1 x.2) rd bx a/\N01 av λav=>G8 a λa=>G8 b λb=>O0k rd c P m r (S07 x.2.dst (.pu av) L) ⟨n,fr,a,b⟩ h' K
theorem t0e{x:Nat×Oper}:∀ {r:List (Nat×Oper)},(∀ y∈r,w8 y.1 x.2=false)->z0j x r=true
 | [],_=>rfl
 |y::r,h=>by
  simp only[z0j,Bool.and_eq_true]
  exact⟨by rw[h y mS];rfl,t0e λz a=>h z (mC _ a)⟩
theorem z0o{f:(Nat×Oper)->List (Nat×Oper)->Prop}{x:Nat×Oper}:∀ {B C A:List (Nat×Oper)},(∀ y∈C++A++B,w8 y.1 x.2=false)->c0n f (d0d C (A++x::B))->f x (C++A++B)
 |B,C,[],a,h=>by
  simp only[List.nil_append,d0d,c0n]at h
  rw[t0e (by simpa using a)]at h
  simpa using h.1
 |B,C,y::A,a,h=>by
  simp only[List.cons_append,d0d,c0n]at h
  have b:c0n f (d0d (C ++ [y]) (A++x::B)):=by
   split at h
   ·exact h.2
   ·exact h
  have:=z0o (A:=A) (C:=C ++ [y]) (by simpa using a) b
  simpa using this
theorem W0s{rd:List Nat}{a:Nat×List Nat}{m:Nat}{L:List (Nat×C6)}{st:St}{h:Hp}{K:St->Hp->Prop}{j:Nat}{o:Oper}{A B:List (Nat×Oper)}(c:∀ y∈A++B,w8 y.1 o=false)
  (b:O0k rd a P (m+1) (A++(j,o)::B) L st h K):c0r rd a P m (j,o) (A++B) L st h K:=by
 obtain⟨n,fr,bx,ow⟩:=st
 simp only[O0k]at b
 have:=z0o (C:=[]) (x:=(j,o)) (by simpa using c) b
 exact this
theorem d0r{a b:Nat}(h:a≠b):Nat.beq a b=false:=by
 cases e:Nat.beq a b
 ·rfl
 ·exact absurd (Nat.eq_of_beq_eq_true e) h
theorem P0j:∀(l:List (Nat×Oper)),C0h l=l.length
 | []=>rfl
 |_::r=>by rw[C0h,P0j r];rfl
theorem e0r{f:Nat×Oper}{rd:List Nat}{N:Nat×List Nat}{K:St->Hp->Prop}{h:Hp}{st:St}{L:List (Nat×C6)}:∀ {p:Nat} {E:List (Nat×Oper)},M0s f rd N P p E L st h K->evC rd N P 0 (f::E) L st h K
 |0,_,h=>h
 |_+1,_,h=>h.1
theorem s0u{ops:Array Oper}{n:Nat}{fr:List (Nat×AV)}{bx:List BSt}{ow:List Own}{q:Hp}{c:Nat}{y:List Nat}{X E F:List (Nat×Oper)}{d:List (Nat×C6)}{K:St->Hp->Prop}{R:Act->World->Prop}{listed:Array Bool}
  (v:A06 P ⟨n,fr,bx,ow⟩ q ops.toList ops.toList.length d X E) (D:∀ x∈F,x∈E)
  (G:∀ a w st h be oe H,K st h->Sim P h0 w0 be oe H st h a w->R a w) (J:∀ j,j<ops.size->listed.getD j false=true)
  (I:R0p P h0 w0 ops y n fr bx ow q c F d K listed a w):R a w:=by
  obtain⟨dn,r,L,bx,Q,h',be,oe,H,C,_,_,M,V,_,u,o,S,z⟩:=I
  have N:r = []:=by
   cases r with
   |nil=>rfl
   |cons p aa =>
    have e:=M p mS
    have k:=(v.eff p (D _ (by rw[C];simp))).1
    grind
  subst N
  simp only[evC,J02]at o
  refine G a w _ h' be oe H o (u.refr (fr:=M0k L fr) λt=>?_)
  rw[o0d]
  have O:∀ t,Q3 L t≠none->∃(i:Nat) (b:Oper),ops[i]?=some b/\b.dst=some t/\i<ops.size:=λt Z=>by
   cases h0':Q3 d t with
   |none=>grind
   |some f =>
    obtain⟨i,b,e,k,m⟩:=v.key t f h0'
    grind
  cases hL:Q3 L t with
  |none =>
   have W:∀ s∈ops.toList,s.dst≠some t:=λs Y U=>by
    grind[List.getElem_of_mem]
   have g:=u.fr t
   grind[I2,E3,G4,P01]
  |some f =>
   cases f with
   |ef F=>trivial
   |pu av =>
    obtain⟨i,b,e,k,m⟩:=O t (by rw[hL];simp)
    obtain⟨T,l,A⟩:=z i b t e k (J i m)
    rw[hL]at l;cases l
    exact I2.fr (st:=⟨n,fr,bx,Q⟩) (fr:=G4 ops.toList fr) A
theorem h0l{ops:Array Oper}{st:St}{K:St->Hp->Prop}{Q:Exit->Act->World->Prop}{R:Act->World->Prop}(bq:Sim P h0 w0 be oe H st h a w)(aq:f03 st.n ops.toList=true)
  (T:m04 P st h ops.toList 0 [] [] [] λL X E=>evD (i00 L st ops.toList) ops.size P X E L st h K)
  (a0:∀ a w st h be oe H,K st h->Sim P h0 w0 be oe H st h a w->R a w) :
  ∃ Inv:Array Bool->Act->World->Prop,(∀(k:Nat) (o:Oper),ops.toList[k]?=some o->∀ e∈o.after,Region.binds .any e=true->e.on<k) /\
   (∀ listed a w j o,listed.size=ops.size->listed.getD j true=false->ops[j]?=some o->(∀ e∈o.after,Region.binds .any e=true->listed.getD e.on false=true)->Inv listed a w->o.guard=none/\o.wp P a w (Inv (listed.setIfInBounds j true)) Q) /\
   (∀ listed a w,(∀ j,j<ops.size->listed.getD j false=true)->Inv listed a w->R a w)/\Inv (Array.replicate ops.size false) a w:=by
 simp only[f03,Bool.and_eq_true]at aq
 obtain⟨⟨bu,bv⟩,bz⟩:=aq
 obtain⟨ax,ah⟩:=T05 bu
 have aN:∀(k:Nat) (o:Oper),ops.toList[k]?=some o->∀ e∈o.after,Region.binds .any e=true->e.on<k:=λk o a6 e a3 aq=>by
  have:=o04 bv k o a6 e a3 aq
  omega
 have bf:=b08 bz
 obtain⟨U,X,E,ai,N⟩:=B06 (ops:=ops.toList) ah (λj o t i am u v D bC=>by
  obtain⟨e,a3,aq,rfl⟩:=bf o (List.mem_of_getElem? u) t v i am D bC
  exact aN j o u e a3 aq) ops.toList 0 [] [] [] (λj=>by simp) ⟨λt f h=>(by cases h),λi am d G=>by omega,λj o b4=>by omega,λp m=>(by cases m),by simp,λp m=>(by cases m)⟩ T
 obtain⟨n,fr,bx,ow⟩:=st
 have ap:∀(listed:Array Bool) (j:Nat) (o:Oper),ops[j]?=some o->(∀ e∈o.after,Region.binds .any e=true->listed.getD e.on false=true)->∀ t,Operand.tmp t∈o.op.operands->∀(i:Nat) (am:Oper),ops.toList[i]?=some am->am.dst=some t->listed.getD i false=true:=λlisted j o v D t bQ i am bK aB=>by
  obtain⟨e,au,aw,rfl⟩:=bf o (List.mem_of_getElem? (i:=j) (by simpa using v)) t bQ i am bK aB
  exact D e au aw
 have init:∀(c:Nat) (F:List (Nat×Oper)) (EV:List (Nat×Oper)->List (Nat×Oper)->List (Nat×C6)->St->Hp->Prop),(∀ x∈F,x∈E)->EV [] F U ⟨n,fr,bx,ow⟩ h->k0n P h0 w0 ops (l0a E) n fr bx ow h c F U EV (Array.replicate ops.size false) a w:=λc F EV bF aj=>by
  refine⟨[],F,U,bx,ow,h,be,oe,H,rfl,λ_=>⟨rfl,λ_ _ h=>h,.inl rfl⟩,λj o u v=>by(simp[Array.getElem?_replicate]at v;split at v<;>cases v),λp m=>?_,λp m=>(by cases m),.inl rfl,bq.refr (fr:=G4 ops.toList fr) λt=>?_,aj,λt=>⟨id,λav=>id⟩,λj o d u v D=>?_⟩
  ·have:=(N.eff p (bF p m)).1
   have v:p.1<ops.size:=by simpa using this
   simp[v]
  ·by_cases b:∃ o∈ops.toList,o.dst=some t
   ·obtain⟨o,u,v⟩:=b
    rw[M02 u v]
    trivial
   ·rw[P01 λo bM ai=>b ⟨o,bM,ai⟩]
    exact bq.fr t
  ·simp[Array.getElem?_replicate]at D
   split at D<;>cases D
 rcases ai with⟨c,⟨aP,bH⟩,aj⟩|⟨k,p,ai⟩
 ·refine⟨R0p P h0 w0 ops (l0a E) n fr bx ow h c E U K,aN,(λlisted a w j o aa u v D G=>Y0u ah ax N (λ_=>U05) aP bH u v aa (ap listed j o v D) D G),(λlisted a w ak G=>s0u N (λx b=>b) a0 ak G),init c E _ (λx b=>b) aj⟩
 ·split at ai
  ·rename_i f b3 a6
   obtain⟨⟨a1,aP,bJ⟩,aj⟩:=ai
   obtain rfl:=f0l a1
   obtain⟨A,B,rfl,rfl⟩:=Y0f a6
   obtain⟨q,ay,bN⟩:=c0i bJ
   have bI:f∈A++f::B:=by simp
   have bg:=N.eff f bI
   have a4:ops[f.1]?=some f.2:=by simpa using bg.2.1
   have bj:f.1<ops.size:=by simpa using bg.1
   have a9:∀ x∈A++B,x∈A++f::B:=λx b=>by
    rcases List.mem_append.1 b with b|b
    ·exact List.mem_append_left _ b
    ·exact List.mem_append_right _ (mC _ b)
   have bR:((A++B).map λp=>p.1).Nodup:=by
    have:=N.nd
    rw[List.map_append,List.nodup_append]at this ⊢
    obtain⟨bp,ba,bb⟩:=this
    rw[List.map_cons,List.nodup_cons]at ba
    exact⟨bp,ba.2,λx b y al=>bb x b y (by rw[List.map_cons];exact mC _ al)⟩
   have perm:∀ I J,A++B=I++J->((I++f::J).map λp=>p.1).Nodup:=λI J e=>by
    have u:(A++f::B).Perm (I++f::J):=List.perm_middle.trans ((List.Perm.cons f (by rw[e])).trans List.perm_middle.symm)
    exact(u.map _).nodup N.nd
   have aE:∀ I J,A++B=I++J->∀ x,x∈I++f::J↔x∈A++f::B:=λI J e x=>by
    have u:x∈A++B↔x∈I++J:=by rw[e]
    simp only[List.mem_append,List.mem_cons]at u ⊢
    constructor
    ·rintro(h|h|h)
     ·rcases u.2 (.inl h)with h|h
      ·exact .inl h
      ·exact .inr (.inr h)
     ·exact .inr (.inl h)
     ·rcases u.2 (.inr h)with h|h
      ·exact .inl h
      ·exact .inr (.inr h)
    ·rintro(h|h|h)
     ·rcases u.1 (.inl h)with h|h
      ·exact .inl h
      ·exact .inr (.inr h)
     ·exact .inr (.inl h)
     ·rcases u.1 (.inr h)with h|h
      ·exact .inl h
      ·exact .inr (.inr h)
   let rd:=i00 U ⟨n,fr,bx,ow⟩ ops.toList
   let ab:List (Nat×Oper)->List (Nat×Oper)->List (Nat×C6)->St->Hp->Prop:=λdn r L st h=>M0s f rd (ops.size,l0a (A++f::B)) P (p-dn.length) r L st h K
   refine⟨λlisted a w=>(listed.getD f.1 true=false/\k0n P h0 w0 ops (l0a (A++f::B)) n fr bx ow h 0 (A++B) U ab listed a w) ∨
    (listed.getD f.1 false=true/\∃ I J,A++B=I++J/\(∀ p∈I,listed.getD p.1 false=true)/\R0p P h0 w0 ops (l0a (A++f::B)) n fr bx ow h 0 (I++f::J) U K listed a w),aN,(λlisted a w j o aa u v D G=>?_),(λlisted a w ak G=>?_),.inl ⟨by simp[bj],init 0 (A++B) ab a9 aj⟩⟩
   ·have a5:j<listed.size:=by rw[aa];exact(Array.getElem?_eq_some_iff.1 v).1
    have a8:∀ {x:Nat},listed.getD x false=true->(listed.setIfInBounds j true).getD x false=true:=λh=>getD_set_true h
    rcases G with⟨hf,G⟩|⟨hf,I,J,s,a2,G⟩
    ·have bh:=u05 hf
     by_cases aR:j=f.1
     ·
      subst aR
      rw[a4]at v;cases v
      obtain⟨dn,r,L,ao,az,h',be',oe',aA,s,aF,an,af,Z,aG,aH,ag,aJ,aK⟩:=G
      have aB:R0p P h0 w0 ops (l0a (A++f::B)) n fr bx ow h 0 (dn++f::r) U K listed a w :=
       ⟨dn,f::r,L,ao,az,h',be',oe',aA,rfl,aF,an,λp m=>by
        rcases List.mem_cons.1 m with rfl|m
        ·exact hf
        ·exact af p m,Z,aG,aH,by show evC _ _ _ (0-dn.length) _ _ _ _ _;rw[Nat.zero_sub];exact e0r ag,aJ,aK⟩
      have:=b0i (F:=dn++f::r) (j:=f.1) (o:=f.2) (Q:=Q) ah ax N (λ_=>U05) (λx b=>(aE dn r s x).1 b) (λb=>(aE dn r s _).2 b) (perm dn r s) (λM Y e S O ac=>by
       obtain⟨C,W,V⟩:=w07 (listed:=listed) e Z O
       cases C with
       |nil=>exact⟨r,by simpa using V.symm⟩
       |cons z C =>
        exfalso
        simp only[List.cons_append,List.cons.injEq]at V
        have:=S f (by rw[W,V.1];simp)
        rw[bh]at this;cases this) (λdn Y L bx ow h s ar T=>g0l T) (v07 _) u a4 aa (ap listed f.1 f.2 a4 D) D aB
      exact⟨this.1,Oper.wp_mono (λaL aU b => .inr ⟨by simp[a5],dn,r,s,λp m=>a8 (Z p m),b⟩) this.2⟩
     ·have bL:(j,o)≠f:=λe=>aR (by rw[←e])
      have bG:∀(j:Nat) (o:Oper),ops[j]?=some o->listed.getD j false=true->∀ e∈o.after,Region.binds .any e=true->listed.getD e.on false=true:=by
       obtain⟨_,_,_,_,_,_,_,_,_,_,_,an,_⟩:=G
       exact an
      have:=b0i (F:=A++B) (Q:=Q) (EV:=ab) ah ax N (λ_=>U05) a9 (λb=>by
       rcases List.mem_append.1 b with b|b
       ·exact List.mem_append_left _ b
       ·rcases List.mem_cons.1 b with b|b
        ·exact absurd b bL
        ·exact List.mem_append_right _ b) bR (λdn r s ar bo aC=>p0d D (λdn r s=>L03 dn r (by rw[←s];exact aP)) s bo aC) (λdn Y L aM aS h s ar T=>by
       have b5:dn.length<p:=by
        rcases Nat.lt_or_ge dn.length p with g|g
        ·exact g
        ·exfalso
         have bi:listed.getD f.1 false=true:=by
          rw[s]at ay
          obtain⟨e,au,aw,aQ⟩:=r7 bN
          rcases Nat.lt_or_ge p dn.length with O|O
          ·rw[List.getElem?_append_left O]at ay
           have bn:q∈dn:=List.mem_of_getElem? ay
           have:=(N.eff q (a9 q (by rw[s];exact List.mem_append_left _ bn))).2.1
           have:=bG q.1 q.2 (by simpa using this) (ar q bn) e au aw
           rwa [aQ]at this
          ·have W:p=dn.length:=by omega
           rw[W,List.getElem?_append_right (Nat.le_refl _)]at ay
           simp at ay
           subst ay
           have:=D e au aw
           rwa [aQ]at this
         rw[bh]at bi;cases bi
       obtain⟨bc,bl⟩:∃ bc,p-dn.length=bc+1:=⟨p-dn.length-1,by omega⟩
       have W:p-(dn ++ [(j,o)]).length=bc:=by simp;omega
       simp only[ab,bl,W,Nat.zero_sub]at T ⊢
       exact T.2) (v07 _) u v aa (ap listed j o v D) D G
      exact⟨this.1,Oper.wp_mono (λaL aU b => .inl ⟨by rw[getD_set_ne true aR];exact hf,b⟩) this.2⟩
    ·have aR:j≠f.1:=λe=>by
      subst e
      have:=u05 u
      rw[hf]at this;cases this
     have:=b0i (F:=I++f::J) (Q:=Q) ah ax N (λ_=>U05) (λx b=>(aE I J s x).1 b) (λb=>(aE I J s _).2 b) (perm I J s) (λM Y e S O ac=>by
      obtain⟨C,W,V⟩:=w07 (listed:=listed) (A:=I ++ [f]) (B:=J) (by simpa using e) (λp m=>by
       rcases List.mem_append.1 m with m|m
       ·exact a2 p m
       ·simp at m;rw[m];exact hf) O
      exact p0d (E:=Y) (dn:=[]) D (λdn bU ae=>L03 dn bU (by rw[←ae];exact L03 (I++C) Y (by rw[List.append_assoc,←V,←s];exact aP))) rfl O ac) (λdn Y L bx ow h s ar T=>g0l T) (v07 _) u v aa (ap listed j o v D) D G
     exact⟨this.1,Oper.wp_mono (λaL aU b => .inr ⟨a8 hf,I,J,s,λp m=>a8 (a2 p m),b⟩) this.2⟩
   ·rcases G with⟨hf,G⟩|⟨hf,I,J,s,a2,G⟩
    ·have:=ak f.1 bj
     rw[u05 hf]at this;cases this
    ·exact s0u N (λx b=>(aE I J s x).1 b) a0 ak G
  ·obtain⟨a1,aj⟩:=ai
   obtain rfl:=f0l a1
   let ab:List (Nat×Oper)->List (Nat×Oper)->List (Nat×C6)->St->Hp->Prop:=λ_ r L st h=>O0k (i00 U ⟨n,fr,bx,ow⟩ ops.toList) (ops.size,l0a E) P (C0h r) r L st h K
   refine⟨λlisted a w=>∃ F,(∀ x,x∈F↔x∈E)/\(F.map λp=>p.1).Nodup/\k0n P h0 w0 ops (l0a E) n fr bx ow h 0 F U ab listed a w,aN,(λlisted a w j o aa u v D G=>?_),(λlisted a w ak G=>?_),E,λx=>Iff.rfl,N.nd,init 0 E ab (λx b=>b) aj⟩
   ·obtain⟨F,ad,aO,G⟩:=G
    by_cases hjE:(j,o)∈E
    ·obtain⟨dn,r,L,ao,az,h',be',oe',aA,s,aF,an,af,Z,aG,aH,ag,aJ,aK⟩:=G
     have a5:j<listed.size:=by rw[aa];exact(Array.getElem?_eq_some_iff.1 v).1
     have aC:(j,o)∈r:=by
      have:=(ad (j,o)).2 hjE
      rw[s]at this
      rcases List.mem_append.1 this with b|b
      ·have S:=Z _ b
       have O:=u05 u
       rw[O]at S;cases S
      ·exact b
     obtain⟨A,B,rfl⟩:=List.append_of_mem aC
     have bm:(dn++(j,o)::(A++B)).Perm F:=by
      rw[s]
      exact List.Perm.append_left dn List.perm_middle.symm
     have aY:∀ x,x∈dn++(j,o)::(A++B)↔x∈E:=λx=>(bm.mem_iff).trans (ad x)
     have aZ:((dn++(j,o)::(A++B)).map λp=>p.1).Nodup:=(bm.map _).nodup_iff.2 aO
     have bO:∀ y∈A++B,w8 y.1 o=false:=λy al=>by
      cases hc:w8 y.1 o with
      |false=>rfl
      |true =>
       obtain⟨e,au,aw,aQ⟩:=r7 hc
       have S:=D e au aw
       have O:=u05 (af y (by
        rcases List.mem_append.1 al with al|al
        ·exact List.mem_append_left _ al
        ·exact List.mem_append_right _ (mC _ al)))
       rw[aQ,O]at S;cases S
     let aW:List (Nat×Oper)->List (Nat×Oper)->List (Nat×C6)->St->Hp->Prop:=λd r L st h=>match Nat.beq d.length dn.length with
      |true=>c0r (i00 U ⟨n,fr,bx,ow⟩ ops.toList) (ops.size,l0a E) P (C0h (A++B)) (j,o) (A++B) L st h K
      |false=>ab d r L st h
     have aB:k0n P h0 w0 ops (l0a E) n fr bx ow h 0 (dn++(j,o)::(A++B)) U aW listed a w :=
      ⟨dn,(j,o)::(A++B),L,ao,az,h',be',oe',aA,rfl,aF,an,λp m=>af p (by
       rcases List.mem_cons.1 m with rfl|m
       ·simp
       ·rcases List.mem_append.1 m with m|m
        ·exact List.mem_append_left _ m
        ·exact List.mem_append_right _ (mC _ m)),Z,aG,aH,by
       show(match Nat.beq dn.length dn.length with|true=>_|false=>_:Prop)
       rw[Nat.beq_refl]
       refine W0s (st:=⟨n,fr,ao,az⟩) bO ?_
       have e:C0h (A++(j,o)::B)=C0h (A++B)+1:=by rw[P0j,P0j];simp;omega
       have ag:O0k _ _ _ (C0h (A++(j,o)::B)) _ _ _ _ _:=ag
       rw[e]at ag
       exact ag,aJ,aK⟩
     have:=b0i (F:=dn++(j,o)::(A++B)) (EV:=aW) (Q:=Q) ah ax N (λ_=>U05) (λx b=>(aY x).1 b) (λb=>(aY _).2 b) aZ (λM Y e S O ac=>by
      obtain⟨C,W,V⟩:=w07 (listed:=listed) e Z O
      cases C with
      |nil=>exact⟨A++B,by simpa using V.symm⟩
      |cons z C =>
       exfalso
       simp only[List.cons_append,List.cons.injEq]at V
       have:=S (j,o) (by rw[W,V.1];simp)
       rw[u05 u]at this;cases this) (λM Y L aM aS h e S T=>by
      obtain⟨C,W,V⟩:=w07 (listed:=listed) (A:=dn) (B:=(j,o)::(A++B)) e Z (λp m=>by
       have b:p∈dn++(j,o)::(A++B):=by rw[e];exact List.mem_append_right _ m
       rcases List.mem_cons.1 m with rfl|bl
       ·exact u
       ·rcases List.mem_append.1 b with b|b
        ·exfalso
         have bk:=aZ
         rw[e,List.map_append,List.nodup_append]at bk
         obtain⟨bp,ba,bb⟩:=bk
         have aD:dn.length<=M.length∨M.length<dn.length:=Nat.lt_or_ge M.length dn.length |>.symm
         rcases aD with aD|aD
         ·have:p∈M:=by
           have ae:dn=M.take dn.length:=by
            have:=congrArg (List.take dn.length) e
            rw[List.take_append_of_le_length (Nat.le_refl _),List.take_length,List.take_append_of_le_length aD]at this
            exact this
           rw[ae]at b;exact List.mem_of_mem_take b
          exact bb p.1 (List.mem_map.2 ⟨p,this,rfl⟩) p.1 (List.mem_map.2 ⟨p,m,rfl⟩) rfl
         ·have:(j,o)∈dn:=by
           have ae:=congrArg (λl=>l[M.length]?) e
           simp only[List.getElem?_append_left aD,List.getElem?_append_right (Nat.le_refl _),Nat.sub_self,List.getElem?_cons_zero]at ae
           exact List.mem_of_getElem? ae
          have ac:=Z _ this
          rw[u05 u]at ac;cases ac
        ·exact af p (by
          rcases List.mem_cons.1 b with rfl|b
          ·simp
          ·rcases List.mem_append.1 b with b|b
           ·exact List.mem_append_left _ b
           ·exact List.mem_append_right _ (mC _ b)))
      have bD:C = []:=by
       cases C with
       |nil=>rfl
       |cons z C =>
        exfalso
        simp only[List.cons_append,List.cons.injEq]at V
        have:=S (j,o) (by rw[W,V.1];simp)
        rw[u05 u]at this;cases this
      subst bD
      simp only[List.append_nil]at W
      subst W
      have ae:Y=A++B:=by simpa using V.symm
      subst ae
      have T:(match Nat.beq M.length M.length with|true=>_|false=>_:Prop):=T
      rw[Nat.beq_refl]at T
      have a7:Nat.beq (M ++ [(j,o)]).length M.length=false:=by
       rw[List.length_append,List.length_singleton]
       exact d0r (by omega)
      have bE:aW (M ++ [(j,o)]) (A++B)=λL st h=>O0k (i00 U ⟨n,fr,bx,ow⟩ ops.toList) (ops.size,l0a E) P (C0h (A++B)) (A++B) L st h K:=by
       funext L st h
       show(match Nat.beq (M ++ [(j,o)]).length M.length with|true=>_|false=>_:Prop)=_
       rw[a7]
      rw[bE]
      simp only[Nat.zero_sub]
      exact T) (v07 _) u v aa (ap listed j o v D) D aB
     refine⟨this.1,Oper.wp_mono (λaL aU b=>?_) this.2⟩
     obtain⟨aX,bV,bt,aM,aS,bB,bA,bS,bs,bd,bW,bX,br,bY,bZ,b0,aV,b1,b2⟩:=b
     refine⟨dn++(j,o)::(A++B),aY,aZ,aX,bV,bt,aM,aS,bB,bA,bS,bs,bd,bW,bX,br,bY,bZ,b0,?_,b1,b2⟩
     have a7:Nat.beq aX.length dn.length=false:=by
      refine d0r λe=>?_
      obtain⟨b6,bT⟩:=List.append_inj bd e.symm
      have:=br (j,o) (by rw[←bT];simp)
      simp[a5]at this
     have aV:(match Nat.beq aX.length dn.length with|true=>_|false=>_:Prop):=aV
     rw[a7]at aV
     exact aV
    ·have:=b0i (F:=F) (EV:=ab) (Q:=Q) ah ax N (λ_=>U05) (λx b=>(ad x).1 b) (λb=>absurd b hjE) aO (λdn r s ar bo aC=>absurd ((ad _).1 (by rw[s];exact List.mem_append_right _ aC)) hjE)
      (λdn Y L aM aS h s ar T=>absurd ((ad (j,o)).1 (by rw[s];simp)) hjE) (v07 _) u v aa (ap listed j o v D) D G
     exact⟨this.1,Oper.wp_mono (λaL aU b=>⟨F,ad,aO,b⟩) this.2⟩
   ·obtain⟨F,ad,aO,dn,r,L,ao,az,h',be',oe',aA,s,aF,an,af,Z,aG,aH,ag,aJ,aK⟩:=G
    have bP:r = []:=by
     cases r with
     |nil=>rfl
     |cons p Y =>
      have S:=af p mS
      have O:=(N.eff p ((ad _).1 (by rw[s];simp))).1
      have ac:=ak p.1 (by simpa using O)
      rw[u05 S]at ac;cases ac
    subst bP
    exact s0u (c:=0) (F:=F) N (λx b=>(ad x).1 b) a0 ak ⟨dn,[],L,ao,az,h',be',oe',aA,s,aF,an,af,Z,aG,aH,ag,aJ,aK⟩
theorem S0p{ops:Array Oper}{st:St}{K:St->Hp->Prop}{Q:Exit->Act->World->Prop}(j:Sim P h0 w0 be oe H st h a w)(g:f03 st.n ops.toList=true)
  (i:m04 P st h ops.toList 0 [] [] [] λL X E=>evD (i00 L st ops.toList) ops.size P X E L st h K)
  (f:∀ a w st h be oe H,K st h->Sim P h0 w0 be oe H st h a w->Q .normal a w):wpAny P .any ops Q ops.size (Array.replicate ops.size false) a w:=by
 obtain⟨Inv,b,c,d,e⟩:=h0l (Q:=Q) (R:=λa w=>Q .normal a w) j g i f
 exact r0u (Inv:=Inv) b c d ops.size _ a w (by simp) (by simp[List.count_replicate]) e
theorem c0c{L l:Array Bool}{x:Bool}(h:L.toList=l.toList ++ [x]){j:Nat}(a:j<l.size)(b:Bool):L.getD j b=l.getD j b:=by
 rw[Array.getD_eq_getD_getElem?,Array.getD_eq_getD_getElem?,←Array.getElem?_toList,←Array.getElem?_toList,h,List.getElem?_append_left (by simpa using a)]
theorem T0p{L l:Array Bool}{x:Bool}(h:L.toList=l.toList ++ [x])(b:Bool):L.getD l.size b=x:=by
 rw[Array.getD_eq_getD_getElem?,←Array.getElem?_toList,h,List.getElem?_append_right (by simp)];simp
theorem Z0u{ops ops0:Array Oper}{o:Oper}{Q:Exit->Act->World->Prop}{Inv:Array Bool->Act->World->Prop}{a:Act}{w:World}(t:ops.toList=ops0.toList ++ [o])
  (q:∀(k:Nat) (o:Oper),ops.toList[k]?=some o->∀ e∈o.after,Region.binds .any e=true->e.on<k)
  (C:o.guard=none) (H:∀ k,k<ops0.size->∃ e∈o.after,Region.binds .any e=true/\e.on=k)
  (J:∀ listed a w j o,listed.size=ops0.size->listed.getD j true=false->ops0[j]?=some o->(∀ e∈o.after,Region.binds .any e=true->listed.getD e.on false=true)->Inv listed a w->o.guard=none/\o.wp P a w (Inv (listed.setIfInBounds j true)) Q)
  (A:∀ listed a w,(∀ j,j<ops0.size->listed.getD j false=true)->Inv listed a w->o.wp P a w (λa w=>Q .normal a w) Q)
  (h0:Inv (Array.replicate ops0.size false) a w):wpAny P .any ops Q ops.size (Array.replicate ops.size false) a w:=by
 have N:ops.size=ops0.size+1:=by
  have:=congrArg List.length t
  simpa using this
 refine r0u (Inv:=λL a w=>(∃ l:Array Bool,l.size=ops0.size/\L.toList=l.toList ++ [false]/\Inv l a w)∨((∀ j,j<ops.size->L.getD j false=true)/\Q .normal a w)) q (λL a w j m K y b p d=>?_) (λL a w f d=>?_) ops.size _ a w (by simp) (by simp[List.count_replicate]) (.inl ⟨_,by simp,by grind,h0⟩)
 ·rcases d with⟨l,g,c,d⟩|⟨f,_⟩
  ·have F:j<ops.size:=(Array.getElem?_eq_some_iff.1 b).1
   by_cases hj:j<ops0.size
   ·have z:ops0[j]?=some m:=by
     rw[←Array.getElem?_toList]at b ⊢
     grind
    obtain⟨v,x⟩:=J l a w j m g (by rw[←c0c c (by omega)];exact y) z (λe i h=>by
     have:=q j m (by rw[Array.getElem?_toList];exact b) e i h
     rw[←c0c c (by omega)];exact p e i h) d
    refine⟨v,Oper.wp_mono (λu M D => .inl ⟨_,by simpa using g,?_,D⟩) x⟩
    rw[Array.toList_setIfInBounds,c,List.set_append_left _ _ (by simpa [g] using hj),Array.toList_setIfInBounds]
   ·have E:j=ops0.size:=by omega
    have I:m=o:=by
     rw[←Array.getElem?_toList,t,List.getElem?_append_right (by simp;omega)]at b
     rw[E]at b;simp at b;exact b.symm
    subst I
    have f:∀ k,k<ops0.size->l.getD k false=true:=λk s=>by
     obtain⟨e,i,h,rfl⟩:=H k s
     rw[←c0c c (by omega)];exact p e i h
    refine⟨C,Oper.wp_mono (λu M n => .inr ⟨λk s=>?_,n⟩) (A l a w f d)⟩
    by_cases hkj:k=j
    ·rw[hkj];simp[Array.getD_eq_getD_getElem?,K,F]
    ·have G:k<ops0.size:=by omega
     have:=f k G
     rw[←c0c c (by omega)]at this
     rw[Array.getD_eq_getD_getElem?,Array.getElem?_setIfInBounds_ne (by omega),←Array.getD_eq_getD_getElem?];exact this
  grind
 ·rcases d with⟨l,g,c,d⟩|⟨_,n⟩
  ·have:=f ops0.size (by omega)
   rw[←g,T0p c]at this;cases this
  ·exact n
theorem u0e{o:Oper}:∀(ops:List Oper),J0f ops=some o->ops=K01 ops ++ [o]
 | [],h=>by simp[J0f]at h
 | [x],h=>by grind[J0f,Option.some.injEq,K01]
 |x::y::r,h=>by
  simp only[J0f]at h
  have:=u0e (y::r) (by simp only[J0f];exact h)
  rw[show K01 (x::y::r)=x::K01 (y::r) by simp only[K01],List.cons_append,←this]
theorem U0p{ops:List Oper}{o:Oper}(h:N0q ops=some o):ops=K01 ops ++ [o]/\o.guard=none/\e09 (K01 ops).length (K01 ops).length o=true:=by
 unfold N0q at h
 split at h
 ·rename_i f e
  split at h
  ·rename_i d c b
   split at h
   ·rename_i a
    cases h
    simp only[Bool.and_eq_true]at a
    grind[u0e]
   ·cases h
  ·cases h
 ·cases h
end
theorem x05:∀ {L:FL} {t:Nat} {x:List (Nat×Bool)×C6},f04 L t=some x->(t,x)∈L
 | [],t,x,h=>by cases h
 |(d,y)::r,t,x,h=>by
  simp only[f04]at h
  split at h
  ·simp_all
  ·exact mC _ (x05 h)
theorem V0a:∀ {L:FL} {t:Nat} {x:List (Nat×Bool)×C6},(t,x)∈L->∃ y,f04 L t=some y
 |(d,y)::r,t,x,h=>by
  simp only[f04]
  split
  ·exact⟨_,rfl⟩
  ·rename_i a
   rcases List.mem_cons.1 h with e|h
   ·simp_all
   ·exact V0a h
theorem V0p{bs:List BE}{x:BE}(e:∀ y∈bs,y.j≠x.j){j:Nat}{b:BE}(h:t03 bs j=some b):t03 (x::bs) j=some b:=by
 simp only[t03]
 split
 ·rename_i d
  obtain⟨a,c⟩:=n04 h
  simp_all
 ·exact h
abbrev Asg:=Nat->List (Nat×Bool)×Bool×C6
structure H0h (ops:List Oper) (A:Asg) (L:FL) (bs:List BE) (k:Nat):Prop where
 p1:∀ t x,(t,x)∈L->∃ i oi,i<k/\ops[i]?=some oi/\oi.dst=some t/\(A i).1=x.1/\(A i).2.2=x.2
 p2:∀ i oi d,i<k->ops[i]?=some oi->oi.dst=some d->∃ x,f04 L d=some x
 p3:∀ i,i<k->i<ops.length->cB bs (A i).1=some (A i).2.1
 p4:∀ x∈bs,x.j<k/\(∃ o,ops[x.j]?=some o/\o.dst=some x.d)/\(A x.j).1=x.ch/\(A x.j).2.2 = .pu (.val (.bool x.e))
structure n0a (bs bs':List BE):Prop where
 c:∀ ch c,cB bs ch=some c->cB bs' ch=some c
 e:∀ j b,t03 bs j=some b->t03 bs' j=some b
theorem n0a.refl(bs:List BE):n0a bs bs:=⟨λ_ _ h=>h,λ_ _ h=>h⟩
theorem n0a.trans{a b c:List BE}(d:n0a a b)(f:n0a b c):n0a a c:=⟨λch x h=>f.c ch x (d.c ch x h),λj b h=>f.e j b (d.e j b h)⟩
def OpU(P:Program)(st:St)(h:Hp)(L:FL)(bs:List BE)(o:Oper)(ch:List (Nat×Bool))(c:Bool):C6->Prop
 | .pu av=>w0a P L bs ch o st=some av∨∀ h',Sub h h'->imp ch c (G08 L st h' ch o.op.operands.toList [] λfr=>F8 P o { st with fr:=fr } h' (q0o av { st with fr:=fr } h'))
 | .ef F=>(∀ v a b,Sub a b->F v a->F v b)/\∀ h',Sub h h'->imp ch c (G08 L st h' ch o.op.operands.toList [] λfr=>P0k P o { st with fr:=fr } h' (O0q { st with fr:=fr } h' F))
theorem f0r{d:Option Tmp}{ch:List (Nat×Bool)}{f:C6}{L:FL}{p:Nat×List (Nat×Bool)×C6}(h:p∈A0j d ch f L):(∃ s,d=some s/\p=(s,ch,f))∨p∈L:=by
 cases d with
 |none=>exact .inr h
 |some s =>
  rcases List.mem_cons.1 h with h|h
  all_goals grind
theorem g0r{i:Nat}{d:Option Tmp}{ch:List (Nat×Bool)}{av:AV}{bs:List BE}{x:BE}(h:x∈B0j i d ch av bs):(∃ s e,d=some s/\av = .val (.bool e)/\x=⟨i,s,e,ch⟩)∨x∈bs:=by
 unfold B0j at h
 grind
theorem h0r{i:Nat}{d:Option Tmp}{ch:List (Nat×Bool)}{av:AV}{bs:List BE}(f:∀ y∈bs,y.j<i):n0a bs (B0j i d ch av bs):=by
 unfold B0j
 split
 ·split
  ·refine⟨λe c h=>j0n (λy a=>?_) h,λj b h=>V0p (λy a=>?_) h⟩<;>(grind)
  ·exact n0a.refl _
 ·exact n0a.refl _
theorem X0s(P:Program)(i:Nat)(L:FL)(bs:List BE)(st:St)(h:Hp)(K:St->Hp->Prop):evU P [] i L bs st h K=∀ h',Sub h h'->D0h h' L st.fr λfr=>K { st with fr:=fr } h':=by
 obtain⟨n,fr,bx,ow⟩:=st;rfl
theorem i0r(P:Program)(o:Oper)(l:List Oper)(i:Nat)(L:FL)(bs:List BE)(st:St)(h:Hp)(K:St->Hp->Prop)(a:evU P (o::l) i L bs st h K):
    ∃ ch c f,U00 bs o.guard=some ch/\cB bs ch=some c/\(OpU P st h L bs o ch c f/\∀ av,w0a P L bs ch o st=some av->f = .pu av)/\∃ j,j=(match f with
      | .pu av=>B0j i o.dst ch av bs
      | .ef _=>bs)/\evU P l (i+1) (A0j o.dst ch f L) j st h K:=by
  obtain⟨n,fr,bx,ow⟩:=st
  change (match U00 bs o.guard with
        |some ch=>match cB bs ch with
          |some c=>match w0a P L bs ch o ⟨n,fr,bx,ow⟩with
            |some av=>N01 av λav=>evU P l (i+1) (A0j o.dst ch (.pu av) L) (B0j i o.dst ch av bs) ⟨n,fr,bx,ow⟩ h K
            |none=>(∃ av,(∀ h',Sub h h'->imp ch c (G08 L ⟨n,fr,bx,ow⟩ h' ch o.op.operands.toList [] λfr=>F8 P o ⟨n,fr,bx,ow⟩ h' (q0o av ⟨n,fr,bx,ow⟩ h'))) /\
                  N01 av λav=>evU P l (i+1) (A0j o.dst ch (.pu av) L) (B0j i o.dst ch av bs) ⟨n,fr,bx,ow⟩ h K) ∨
                (∃ F:Value->Hp->Prop,(∀ v d b,Sub d b->F v d->F v b) /\
                  (∀ h',Sub h h'->imp ch c (G08 L ⟨n,fr,bx,ow⟩ h' ch o.op.operands.toList [] λfr=>P0k P o ⟨n,fr,bx,ow⟩ h' (O0q ⟨n,fr,bx,ow⟩ h' F))) /\
                  evU P l (i+1) (A0j o.dst ch (.ef F) L) bs ⟨n,fr,bx,ow⟩ h K)
          |none=>False
        |none=>False)at a
  split at a
  · rename_i ch g
    split at a
    · rename_i c e
      split at a
      · rename_i av p
        rw[u03]at a
        exact⟨ch,c,.pu av,g,e,⟨.inl p,λq h'=>by grind⟩,_,rfl,a⟩
      · rename_i s
        have k:∀(f:C6) av,w0a P L bs ch o ⟨n,fr,bx,ow⟩=some av->f = .pu av:=λf av h'=>by grind
        rcases a with⟨av,d,b⟩|⟨F,d,b,m⟩
        · rw[u03]at b
          exact⟨ch,c,.pu av,g,e,⟨.inr d,k _⟩,_,rfl,b⟩
        · exact⟨ch,c,.ef F,g,e,⟨⟨d,b⟩,k _⟩,_,rfl,m⟩
    · exact a.elim
  · exact a.elim
theorem Z0f{P:Program}{ops:List Oper}{st:St}{h:Hp}{K:St->Hp->Prop}(an:∀(i j:Nat) (n R:Oper) (d:Nat),ops[i]?=some n->ops[j]?=some R->n.dst=some d->R.dst=some d->i=j):
  ∀(l:List Oper) (k:Nat) (L:FL) (bs:List BE) (q:Asg),(∀ j,l[j]?=ops[k+j]?)->k+l.length=ops.length->H0h ops q L bs k->evU P l k L bs st h K ->
   ∃(A:Asg) (M:FL) (v:List BE),(∀ i,i<k->A i=q i)/\n0a bs v/\H0h ops A M v ops.length /\
    (∀ j o,k<=j->ops[j]?=some o->∃ S D,U00 v o.guard=some (A j).1/\H0h ops A S D j/\n0a D v/\cB D (A j).1=some (A j).2.1/\(OpU P st h S D o (A j).1 (A j).2.1 (A j).2.2/\∀ av,w0a P S D (A j).1 o st=some av->(A j).2.2 = .pu av)) /\
    (∀ h',Sub h h'->D0h h' M st.fr λfr=>K { st with fr:=fr } h')
 | [],k,L,bs,q,W,ae,g,ad=>by
  have af:k=ops.length:=by simpa using ae
  grind[n0a.refl,X0s,List.getElem?_eq_some_iff]
 |o::l,k,L,bs,q,W,ae,g,ad=>by
  have Y:ops[k]?=some o:=by simpa using (W 0).symm
  have au:∀ j,l[j]?=ops[k+1+j]?:=λj=>by have:=W (j+1);grind
  have af:k+1+l.length=ops.length:=by grind
  obtain⟨ch,c,f,u,ac,aw,V,aq,ar⟩:=i0r P o l k L bs st h K ad
  let C:Asg:=λi=>if i=k then(ch,c,f)else q i
  have N:C k=(ch,c,f):=by simp[C]
  have aa:∀ i,i<k->C i=q i:=λi m=>by grind
  have az:∀ y∈bs,y.j<k:=λy ay=>(g.p4 y ay).1
  have J:n0a bs V:=by
   grind[h0r,n0a.refl]
  have ax:H0h ops C (A0j o.dst ch f L) V (k+1):=by
   refine⟨λt x a=>?_,λi n d m I Q=>?_,λi m X=>?_,λx a=>?_⟩
   ·rcases f0r a with⟨ai,ah,e⟩|a
    ·grind
    ·obtain⟨i,n,s,E,G,H,am⟩:=g.p1 t x a
     grind
   ·rcases Nat.lt_or_ge i k with z|z
    ·obtain⟨x,a⟩:=g.p2 i n d z I Q
     cases hd:o.dst with
     |none=>exact⟨x,a⟩
     |some ai=>exact V0a (x:=x) (mC _ (x05 a))
    ·have:i=k:=by omega
     subst this
     rw[Y]at I;cases I
     rw[Q]
     exact V0a mS
   ·rcases Nat.lt_or_ge i k with z|z
    ·rw[aa i z];exact J.c _ _ (g.p3 i z X)
    ·have:i=k:=by omega
     subst this
     rw[N];exact J.c _ _ ac
   ·subst aq
    cases f with
    |ef F =>
     obtain⟨s,E,G,H⟩:=g.p4 x a
     grind
    |pu av =>
     rcases g0r a with⟨ai,e,ah,ao,rfl⟩|a
     ·refine⟨nS _,⟨o,Y,ah⟩,by rw[N],?_⟩
      rw[N,ao]
     ·obtain⟨s,E,G,H⟩:=g.p4 x a
      grind
  obtain⟨A,M,v,ab,T,aj,ak,al⟩:=Z0f an l (k+1) _ V C au af ax ar
  have U:A k=(ch,c,f):=by rw[ab k (nS _),N]
  have O:∀ i,i<k->A i=q i:=λi m=>by rw[ab i (Nat.lt_succ_of_lt m),aa i m]
  refine⟨A,M,v,O,J.trans T,aj,λj R aA Z=>?_,al⟩
  rcases Nat.lt_or_ge k j with ag|ag
  ·exact ak j R ag Z
  ·have:j=k:=by omega
   subst this
   rw[Y]at Z;cases Z
   refine⟨L,bs,?_,⟨λt x a=>?_,λi n d m I Q=>g.p2 i n d m I Q,λi m X=>?_,λx a=>?_⟩,J.trans T,by rw[U];exact ac,by rw[U];exact aw⟩
   ·rw[U]
    cases hg:o.guard with
    |none=>rw[hg]at u;exact u
    |some p =>
     obtain⟨aB,w⟩:=p
     rw[hg]at u
     simp only[U00]at u ⊢
     split at u
     ·rename_i b ap
      rw[(J.trans T).e _ _ ap]
      exact u
     ·cases u
   ·obtain⟨i,n,s,E,G,H,am⟩:=g.p1 t x a
    grind
   ·rw[O i m];exact g.p3 i m X
   ·obtain⟨s,E,G,H⟩:=g.p4 x a
    exact⟨s,E,by rw[O _ s];exact G,by rw[O _ s];exact H⟩
section
variable {P:Program} {h0:Hp} {w0:World} {be:Nat->Nat} {oe:Nat->Value} {H:Hp} {st:St} {h:Hp} {a:Act} {w:World} {o:Oper} {K:AV->St->Hp->Prop} {Q:Exit->Act->World->Prop}
theorem i0l(i:Sim P h0 w0 be oe H st h a w){t n:Nat}{f:Array (Nat×Operand)}(m:o.op = .buildSlice t n f)(z:f.toList = [])(c:P0q P t n st h K):o.wp P a w (Nx P h0 w0 st be oe K a o.dst) Q:=by
 unfold P0q at c
 split at c
 rotate_left
 ·exact c.elim
 rename_i e u
 split at c
 rotate_left
 ·exact c.elim
 rename_i sz s k
 have l:=Nat.eq_of_beq_eq_true k
 subst l
 have p:f = #[]:=by grind
 subst p
 have v:wpS P (execOp a.eval o) h (λg h'=>∃ b,h b=none/\g = .value (.slice (some ⟨b,0,none⟩) 0 0)/\h'=h.set b (.cells #[] e (0,0))):=by
  unfold execOp;rw[m]
  refine A8 _ _ _ ?_
  simp only[Instr.buildSlice,P2,l6 (c00 u),O01 s,Nat.zero_mul,C3]
  rw[if_neg (by omega)]
  simp only[C3,if_true,Instr.fill,Array.map_empty,P2,newRow,newObj,wpS]
  exact λb d=>⟨b,d,rfl,by rw[show Array.range 0 = #[] from rfl,Array.map_empty]⟩
 obtain⟨g,h',A,q,⟨b,d,rfl,rfl⟩,j⟩:=r00 _ _ _ (i09 i) v
 obtain⟨y,x⟩:=i.moved j
 exact U7 q ⟨_,_,_,_,_,_,_,c b d,rfl,x,rfl,j7.refl _ _ _⟩
theorem j0l(m:Sim P h0 w0 be oe H st h a w){t:TypeId}{p q:Operand}{as:Array Operand}{S:Array TypeId}(M:o.op = .call { callee := .builtin .append,args:=as,argTypes:=S })
  (G:as = #[p,q]) (O:S = #[t,t]) (d:Q0q P t p q st h K):o.wp P a w (Nx P h0 w0 st be oe K a o.dst) Q:=by
 unfold Q0q at d
 split at d
 rotate_left
 ·exact d.elim
 rename_i e ab
 split at d
 rotate_left
 ·exact d.elim
 rename_i sz by_ z aa T ad
 split at d
 rotate_left
 ·exact d.elim
 rename_i ae
 obtain⟨i,y,D,ah,aj⟩:=T0a aa T ad
 have A:=c00 ab
 have af:z.cells.size=i.size:=by rw[D];simpa using g03 _ _ ae
 have g:=m.rdO p
 split at d
 rotate_left
 ·exact d.elim
 rename_i n s Z
 rw[Z]at g
 have v:a.eval p = .slice (some ⟨n,s,none⟩) 0 0:=g
 obtain⟨b,⟨N,X,L⟩,l⟩:=O05 m (Nat.succ_pos sz) d
 have ag:i.size=sz+1:=D
 have ai:i.bytes=by_+1:=ah
 rw[←D]at l
 rw[←ag]at L
 rw[←ai]at N
 have U:0<i.bytes:=by grind
 have an:b.length<=140737488355328:=Nat.le_trans (Nat.le_mul_of_pos_right _ U) N
 have Y:((0+b.length:Nat):Int)<=9223372036854775807:=by omega
 have J:=I03 b (λx C=>(l.1 x C).1)
 have R:=i09 m
 by_cases hn:b = []
 ·have k:(Builtin.append_ #[t,t] o.type #[.slice (some ⟨n,s,none⟩) 0 0,a.eval q]).run P w = .ok (.slice (some ⟨n,s,none⟩) 0 0) w:=by
   subst hn
   rcases l.2 with⟨E,c,f,I⟩|⟨c,f,_⟩
   ·rw[f]
    simp[Builtin.append_,run_underlying A,sizeOf,typeInfo,y,Builtin.lenOf,Builtin.firstCells,loadCells,loadCellsFrom,storeCells]
   ·rw[f]
    simp[Builtin.append_,run_underlying A,sizeOf,typeInfo,y,Builtin.lenOf,Builtin.firstCells,storeCells]
  rw[←v]at k
  exact U7 (w03 M G O k) ⟨_,_,h,_,_,_,_,X hn,rfl,m,v,j7.refl _ _ _⟩
 ·rcases l.2 with⟨E,F,f,I⟩|⟨F,f,ac⟩
  rotate_left
  ·exact absurd ac hn
  have ao:0<b.length:=by
   grind
  have k:=run_append_grow (P:=P) w t o.type e i z A y aj ⟨n,s,none⟩ 0 0 [] (by simp) (λj u W=>by simp at W) E b.length F b.flatten J I (by omega) Y (growslice_fits (by omega) (by grind[k07]))
  have am:=grownCap_ge w (0+b.length) 0 e
  have V:grownCap w (0+b.length) 0 e<=maxLen:=grownCap_le_maxLen w _ 0 e (by unfold maxLen;omega)
  rw[←f,←v]at k
  obtain⟨al,ak⟩:=m.moved (T2.newD R (.cells ([].toArray++b.flatten.toArray++Builtin.zeroCells z.cells (grownCap w (0+b.length) 0 e-(0+b.length))) e (0,0)) rfl)
  refine U7 (w03 M G O k) ⟨_,_,_,_,_,_,_,L _ _ ⟨λx C=>l.1 x C,.inr ⟨w.heap.size,grownCap w (0+b.length) 0 e,_,?_,V02 R,rfl,by omega,V,?_,?_⟩⟩,rfl,ak,rfl,j7.refl _ _ _⟩
  ·rw[Nat.zero_add]
  ·simp only[Array.size_append,List.size_toArray,J,size_zeroCells,af,List.length_nil,←Nat.add_mul,Nat.zero_add]
   grind
  grind
theorem k0l(e:Sim P h0 w0 be oe H st h a w)(b:P0k P o st h K):o.wp P a w (Nx P h0 w0 st be oe K a o.dst) Q:=by
 unfold P0k at b
 split at b
 ·grind[i0l,C00]
 ·rename_i as j d
  split at b
  ·rename_i x y t i f g
   split at b
   ·rename_i c
    have:=Nat.eq_of_beq_eq_true c
    subst this
    exact j0l e d (by grind) (by grind) b
   ·exact b.elim
  ·exact b.elim
 grind[C00]
end
section
variable {P:Program} {h0:Hp} {w0:World} {be:Nat->Nat} {oe:Nat->Value} {H:Hp} {h:Hp} {a:Act} {w:World}
def Q0j(st:St)(be:Nat->Nat)(oe:Nat->Value)(h:Hp)(bs:List BE)(x:List (Nat×Bool)×C6)(v:Value):Prop:=cB bs x.1=some true->V06 st be oe h x.2 v
theorem A02{L:FL}{st:St}{h:Hp}{bs:List BE}{ch:List (Nat×Bool)}{val:Nat->Value}{K:List (Nat×AV)->Prop}(d:cB bs ch=some true):∀ {l:List Operand} {acc:List (Nat×AV)},
  (∀ t,I2 st be oe (E3 acc t) (val t))->(∀ t,Operand.tmp t∈l->(∀ x,f04 L t=some x->Q0j st be oe h bs x (val t))/\(f04 L t=none->I2 st be oe (E3 st.fr t) (val t))) ->
  G08 L st h ch l acc K->∃ fr,K fr/\∀ t,I2 st be oe (E3 fr t) (val t)
 | [],acc,c,b,a=>⟨acc,a,c⟩
 | .tmp t::r,acc,c,b,a=>by
  have j:∀ u,Operand.tmp u∈r->_:=λu i=>b u (mC _ i)
  have k:=b t mS
  have put:∀ av,I2 st be oe av (val t)->∀ u,I2 st be oe (E3 ((t,av)::acc) u) (val u):=λav g u=>by
   grind[V3]
  simp only[G08]at a
  split at a
  ·rename_i n f e
   split at a
   ·rename_i m
    have hf:=k.1 _ e (e0a m d)
    cases f with
    |pu av=>exact A02 d (put av hf) j a
    |ef F=>exact A02 d (put (.val (val t)) rfl) j (a _ hf)
   ·exact a.elim
  ·rename_i e
   exact A02 d (put _ (k.2 e)) j a
 | .const v::r,acc,c,b,a=>A02 (l:=r) d c (λu i=>b u (mC _ i)) a
 | .global v::r,acc,c,b,a=>A02 (l:=r) d c (λu i=>b u (mC _ i)) a
 | .func v::r,acc,c,b,a=>A02 (l:=r) d c (λu i=>b u (mC _ i)) a
theorem d0i{st:St}{val:Nat->Value}{K:List (Nat×AV)->Prop}:∀ {L:FL} {fr:List (Nat×AV)},(∀ p∈L,p.2.1 = []->V06 st be oe h p.2.2 (val p.1)) ->
  (∀ t,(∀ x,(t,x) ∉ L)->I2 st be oe (E3 fr t) (val t))->D0h h L fr K->∃ fr,K fr/\∀ t,I2 st be oe (E3 fr t) (val t)
 | [],fr,b,c,a=>⟨fr,a,λt=>c t (by simp)⟩
 |(d,ch,f)::r,fr,b,c,a=>by
  have step:∀ av,I2 st be oe av (val d)->D0h h r ((d,av)::fr) K->∃ fr,K fr/\∀ t,I2 st be oe (E3 fr t) (val t):=λav g a =>
   d0i (L:=r) (fr:=(d,av)::fr) (λp e=>b p (mC _ e)) (λt i=>by
    grind[V3]) a
  cases ch with
  |nil =>
   have hf:=b (d,[],f) mS rfl
   cases f with
   |pu av=>exact step av hf a
   |ef F=>exact step (.val (val d)) rfl (a _ hf)
  |cons p q =>
   refine step .dead trivial ?_
   cases f<;>exact a
theorem j0r{st:St}{L:FL}{bs:List BE}{ch:List (Nat×Bool)}{o:Oper}{av:AV}(c:w0a P L bs ch o st=some av)(z:cB bs ch=some true)
  (an:∀ t,(∀ x,f04 L t=some x->Q0j st be oe h bs x (a.tmps.getD t undef))/\(f04 L t=none->I2 st be oe (E3 st.fr t) (a.tmps.getD t undef))∨Operand.tmp t ∉ o.op.operands)
  (az:∀ x∈bs,∀ y,f04 L x.d=some y->y=(x.ch,.pu (.val (.bool x.e)))) (ai:∀ x∈bs,t03 bs x.j=some x) (ax:∀ x∈bs,∃ y,f04 L x.d=some y)
  (U:∀ {fr:List (Nat×AV)},(∀ t,I2 st be oe (E3 fr t) (a.tmps.getD t undef))->Sim P h0 w0 be oe H { st with fr:=fr } h a w) {Q:Exit->Act->World->Prop} :
  o.wp P a w (λF l=>∃ v be' oe' D,F=a.put o.dst v/\(∃ fr,Sim P h0 w0 be' oe' D { st with fr:=fr } h a l)/\j7 st be oe st be' oe'/\I2 st be' oe' av v) Q:=by
 have I:Sim P h0 w0 be oe H { st with fr:=[] } h a w:=U (λt=>trivial)
 have rd:∀(x:Operand) (J:List (Nat×Bool)),cB bs J=some true->(∀ t,x = .tmp t->Operand.tmp t∈o.op.operands)->I2 st be oe (rdU L st J x) (a.eval x):=by
  intro x J ag f
  cases x with
  |tmp t =>
   have Z:=(an t).resolve_right (λC=>C (f t rfl))
   simp only[rdU]
   split
   ·rename_i au A e
    split
    ·rename_i S
     have:=Z.1 _ e (e0a S ag)
     have g:I2 st be oe A (a.tmps.getD t undef):=this
     have s:=I.rdA (I2.fr (st:=st) (fr:=[]) g)
     have p:rdA { st with fr:=[] } A=rdA st A:=by obtain⟨n,fr,bx,ow⟩:=st;cases A<;>rfl
     rw[p]at s
     exact I2.fr (st := { st with fr:=[] }) (fr:=st.fr) s
    ·trivial
   ·trivial
   ·rename_i e
    have g:=Z.2 e
    have s:=I.rdA (I2.fr (st:=st) (fr:=[]) g)
    have p:rdA { st with fr:=[] } (E3 st.fr t)=rdA st (E3 st.fr t):=by obtain⟨n,fr,bx,ow⟩:=st;cases E3 fr t<;>rfl
    rw[p]at s
    exact I2.fr (st := { st with fr:=[] }) (fr:=st.fr) s
  |const v=>exact rfl
  |global v=>trivial
  |func v=>exact rfl
 have done:∀ {v:Value},(∀ l,(execOp a.eval o).run P l = .ok (.value v) l ∨ ¬ Vis H l)->I2 st be oe av v->o.wp P a w (λF l=>∃ v be' oe' D,F=a.put o.dst v/\(∃ fr,Sim P h0 w0 be' oe' D { st with fr:=fr } h a l)/\j7 st be oe st be' oe'/\I2 st be' oe' av v) Q:=λ{v} m g =>
  U7 ((m w).resolve_right λC=>C I.mv.vis) ⟨v,be,oe,H,rfl,⟨[],I⟩,j7.refl _ _ _,g⟩
 unfold w0a at c
 split at c
 ·rename_i x f
  have g:=rd x ch z (λt e=>by rw[f];simp[Op.operands,e])
  refine done (v:=a.eval x) (λl => .inl (by unfold execOp;rw[f];rfl)) ?_
  revert c
  cases m:rdU L st ch x<;>intro c<;>first|(cases c;done)|(cases c;rw[m]at g;exact g)
 ·rename_i x f
  have g:=rd x ch z (λt e=>by rw[f];simp[Op.operands,e])
  refine done (v:=a.eval x) (λl => .inl (by unfold execOp;rw[f];rfl)) ?_
  revert c
  cases m:rdU L st ch x<;>intro c<;>first|(cases c;done)|(cases c;rw[m]at g;exact g)
 ·rename_i t x f
  have g:=rd x ch z (λt e=>by rw[f];simp[Op.operands,e])
  split at c
  ·rename_i i off m
   rw[m]at g
   split at c
   ·rename_i cs ty C
    have ap:∃ u,x = .tmp u:=by
     cases x with
     |tmp u=>exact⟨u,rfl⟩
     |const v=>simp[rdU,rdO]at m
     |global v=>simp[rdU,rdO]at m
     |func v=>simp[rdU,rdO]at m
    obtain⟨u,rfl⟩:=ap
    have ah:F8 P o { st with fr:=[(u,.box i off)] } h λT st' h'=>T=av/\st' = { st with fr:=[(u,.box i off)] }/\h'=h:=by
     have al:rdO { st with fr:=[(u,.box i off)] } (.tmp u) = .box i off:=by
      show rdA _ (E3 [(u,AV.box i off)] u)=_
      rw[V3,if_pos rfl]
      simp only[rdA,C]
     simp only[F8,f,al,C]
     grind[F0f,E05,s0j,i6]
    have s1:=U (fr:=[(u,.box i off)]) (λaA=>by
     rw[V3]
     split
     ·rename_i e;subst e;exact g
     ·trivial)
    refine Oper.wp_mono (λF l f=>?_) (C00 s1 ah)
    obtain⟨T,st',aw,v,be',oe',D,⟨K,p,ad⟩,af,s2,s,G⟩:=f
    rw[p,ad]at s2
    rw[K,p]at s
    rw[p]at G
    exact⟨v,be',oe',D,af,⟨_,s2⟩,⟨G.bl,G.be,G.sm⟩,I2.fr (st := { st with fr:=[(u,.box i off)] }) (fr:=st.fr) s⟩
   ·cases c
  ·cases c
 ·rename_i t x k f
  have g:=rd x ch z (λt e=>by rw[f];simp[Op.operands,e])
  split at c
  ·rename_i i off M m Y
   rw[m]at g
   cases c
   refine done (v:=ptr (be i) (off+M)) (λl=>?_) ⟨g.1,rfl⟩
   by_cases hvis:Vis H l
   ·exact .inl (R.run_of (R.exec_fieldAddr (H:=H) f Y g.2) l hvis)
   ·exact .inr hvis
  ·rename_i sl j sz ar M m Y
   rw[m]at g
   cases c
   obtain⟨b,aa,n,ac,K,p⟩:=g
   refine done (v:=ptr b (aa+(j.toNat*sz+ar)+M)) (λl=>?_) ⟨b,aa,n,ac,K,by simp[Nat.add_assoc]⟩
   grind[Vis,R.run_of,R.exec_fieldAddr]
  ·cases c
 ·rename_i ab x y f
  have g:=rd (.tmp ab) ch z (λt e=>by rw[f];cases e;simp[Op.operands])
  split at c
  ·rename_i e q S ak
   rw[S]at g
   have ae:a.eval (.tmp ab) = .bool e:=g
   split at c
   ·rename_i am
    obtain⟨aj,ay⟩:=l0d ak
    have W:=e0a am z
    have X:q.e=e:=by
     grind[rdU,bool,Go.H.rdA]
    have V:=ai q aj
    split at c
    ·rename_i bx by_ ao aq
     cases c
     refine done (v := .bool (cond e bx by_)) (λl => .inl ?_) rfl
     unfold execOp;rw[f]
     simp only[ae,Sem.run_bind,asBool,Sem.run_pure,Result.andThen_ok]
     cases e with
     |true =>
      have O:cB bs ((q.j,true)::q.ch)=some true:=by
       rw[t05,V,W];simp[lit,X]
      have E:=rd x _ O (λt e=>by rw[f];simp[Op.operands,e])
      rw[ao]at E
      have N:a.eval x = .bool bx:=E
      simp[N]
     |false =>
      have O:cB bs ((q.j,false)::q.ch)=some true:=by
       rw[t05,V,W];simp[lit,X]
      have E:=rd y _ O (λt e=>by rw[f];simp[Op.operands,e])
      rw[aq]at E
      have N:a.eval y = .bool by_:=E
      simp[N]
    ·cases c
   ·cases c
  ·cases c
 ·cases c
theorem Sim.untail{st:St}{t:List Own}(c:Sim P h0 w0 be oe H { st with ow:=st.ow++t } h a w)(hf:∀ u,I2 st be oe (E3 st.fr u) (a.tmps.getD u undef))
  (m:∀ i cs ty,nth st.bx i=some (.live cs ty)->∃ vs,C2 st oe cs vs/\H (be i)=some (.cells vs.toArray ty (0,0))):Sim P h0 w0 be oe H st h a w:=by
 have up:∀ i o,nth st.ow i=some o->nth (st.ow++t) i=some o:=λi o b=>by
  grind[L05,List.getElem?_append_left,List.getElem?_eq_some_iff]
 refine⟨c.mv,c.sub,λi cs ty b=>⟨(c.box i cs ty b).1,m i cs ty b⟩,c.pub,λi f e sz by_ nn xs b=>c.own i f e sz by_ nn xs (up i _ b),λi f v b=>c.frz i f v (up i _ b),c.bb,
  λi j s1 e sz by_ nn xs s2 l p k n q g b d=>c.oo i j s1 e sz by_ nn xs s2 l p k n q g (up i _ b) (up j _ d),λi cs ty j s1 e sz by_ nn xs b d=>c.bo i cs ty j s1 e sz by_ nn xs b (up j _ d),c.dfr,c.siz,hf⟩
def W0a(P:Program)(h0:Hp)(w0:World)(ops:Array Oper)(st:St)(h:Hp)(A:Asg)(sk:Nat->Bool)(kp:List (Nat×Value))(listed:Array Bool)(a:Act)(w:World):Prop :=
 ∃ be oe H h',Sub h h'/\Sim P h0 w0 be oe H { st with fr:=G4 ops.toList st.fr } h' a w/\(∀ p∈kp,a.tmps.getD p.1 undef=p.2) /\
  ∀ j o d,sk j=false->ops[j]?=some o->o.dst=some d->listed.getD j false=true->((A j).2.1=true->V06 st be oe h' (A j).2.2 (a.tmps.getD d undef))/\((A j).2.1=false->a.tmps.getD d undef=undef)
theorem Y0s{st st':St}(t:d0n st st'):∃ r,st' = { st with ow:=st.ow++r }:=by
 obtain⟨n,fr,bx,ow⟩:=st
 obtain⟨g,b,a,h⟩:=st'
 obtain⟨c,d,e,r,f⟩:=t
 grind
theorem Z0s{b:Type}{l r:List b}{i:Nat}(a:i<l.length):nth (l++r) i=nth l i:=by
 rw[L05,L05,List.getElem?_append_left a]
theorem e0i{st:St}{r:List Own}{i a:Nat}(b:stamp st i=some a):stamp { st with ow:=st.ow++r } i=some a:=by
 grind[stamp,nth,Z0s,x02]
theorem L0t{ops:Array Oper}{st:St}{A:Asg}{sk:Nat->Bool}{kp:List (Nat×Value)}{bd:FL}{aj:List BE}{listed:Array Bool}{j:Nat}{o:Oper}{Q:Exit->Act->World->Prop}
  (bq:∀(i j:Nat) (f a3:Oper) (d:Nat),ops.toList[i]?=some f->ops.toList[j]?=some a3->f.dst=some d->a3.dst=some d->i=j)
  (al:∀ o∈ops.toList,∀ d,o.dst=some d->d<st.n)
  (bp:∀(k:Nat) (o:Oper),ops.toList[k]?=some o->∀ e∈o.after,Region.binds .any e=true->e.on<k)
  (aR:∀ o∈ops.toList,∀ t,Operand.tmp t∈o.op.operands->∀(i:Nat) (f:Oper),ops.toList[i]?=some f->f.dst=some t->∃ e∈o.after,Region.binds .any e=true/\e.on=i)
  (bD:∀ o∈ops.toList,∀ i w,o.guard=some (i,w)->w8 i o=true)
  (ar:H0h ops.toList A bd aj ops.toList.length)
  (aP:∀ j o,ops.toList[j]?=some o->∃ U E,U00 aj o.guard=some (A j).1/\H0h ops.toList A U E j/\n0a E aj/\cB E (A j).1=some (A j).2.1/\(OpU P st h U E o (A j).1 (A j).2.1 (A j).2.2/\∀ av,w0a P U E (A j).1 o st=some av->(A j).2.2 = .pu av))
  (ca:sk j=false) (cc:∀(i:Nat) (f:Oper) (d:Nat),ops.toList[i]?=some f->f.dst=some d->sk i=true->∀ D∈ops.toList,Operand.tmp d ∉ D.op.operands)
  (bN:∀ i,sk i=true->(A i).2.2 = .pu (.val undef)) (cb:∀ p∈kp,∃(i:Nat) (f:Oper),ops.toList[i]?=some f/\f.dst=some p.1/\sk i=true)
  (aU:ops[j]?=some o) (aW:∀ e∈o.after,Region.binds .any e=true->listed.getD e.on false=true) (ah:W0a P h0 w0 ops st h A sk kp listed a w) :
  (Region.wanted o (yielded ops a.tmps)=true->o.wp P a w (W0a P h0 w0 ops st h A sk kp (listed.setIfInBounds j true)) Q) /\
  (Region.wanted o (yielded ops a.tmps)=false->W0a P h0 w0 ops st h A sk kp (listed.setIfInBounds j true) (a.put o.dst undef) w):=by
 obtain⟨be,oe,H,h',aF,ad,keep,az⟩:=ah
 have am:ops.toList[j]?=some o:=by simpa using aU
 have ak:o∈ops.toList:=List.mem_of_getElem? am
 have aS:j<ops.toList.length:=(List.getElem?_eq_some_iff.1 am).1
 obtain⟨U,E,ab,X,bR,au,M,_⟩:=aP j o am
 have ag:cB aj (A j).1=some (A j).2.1:=ar.p3 j aS aS
 have aZ:Region.wanted o (yielded ops a.tmps)=(A j).2.1:=by
  unfold Region.wanted
  cases hg:o.guard with
  |none =>
   rw[hg]at ab
   cases hch':(A j).1 with
   |nil=>rw[hch']at ag;exact oJ ag
   |cons p q=>rw[hch']at ab;cases ab
  |some p =>
   obtain⟨i,aL⟩:=p
   rw[hg]at ab
   simp only[U00]at ab
   split at ab
   ·rename_i b K
    obtain⟨bH,rfl⟩:=n04 K
    obtain⟨G,⟨D,s,O⟩,ao,af⟩:=ar.p4 b bH
    have aD:listed.getD b.j false=true:=by
     obtain⟨e,S,bt,an⟩:=r7 (bD o ak b.j aL hg)
     rw[←an];exact aW e S bt
    have bM:sk b.j=false:=by
     cases e:sk b.j with
     |false=>rfl
     |true=>rw[bN b.j e]at af;cases af
    have hf:=az b.j D b.d bM (by simpa using s) O aD
    have aQ:=ar.p3 b.j G G
    rw[ao]at aQ
    have ac:b.d<a.tmps.size:=by rw[ad.siz];exact al D (List.mem_of_getElem? s) b.d O
    have aH:a.tmps[b.d]?=some (if(A b.j).2.1=true then .bool b.e else undef):=by
     rw[Array.getElem?_eq_getElem ac]
     have bE:a.tmps.getD b.d undef=a.tmps[b.d]:=by simp[ac]
     cases L:(A b.j).2.1 with
     |true =>
      have:=hf.1 L
      rw[af,bE]at this
      have J:a.tmps[b.d] = .bool b.e:=this
      rw[J];rfl
     |false =>
      grind
    have aJ:yielded ops a.tmps b.j=if(A b.j).2.1=true then some b.e else none:=by
     unfold yielded
     have:ops[b.j]?=some D:=by simpa using s
     simp only[this,O,oB,aH]
     cases (A b.j).2.1<;>rfl
    have bA:(A j).1=(b.j,aL)::b.ch:=by
     grind
    rw[bA,t05,K,aQ]at ag
    simp only[Option.some.injEq]at ag
    simp only[aJ,←ag]
    cases (A b.j).2.1<;>cases aL<;>cases b.e<;>rfl
   ·cases ab
 have bZ:∀ i f,ops.toList[i]?=some f->∀ F,(A i).2.2 = .ef F->∀ v I J,Sub I J->F v I->F v J:=λi f aw F br=>by
  obtain⟨b0,b3,_,_,_,_,aV,_⟩:=aP i f aw
  rw[br]at aV
  exact aV.1
 have fin:∀ {fr:List (Nat×AV)} {ae:Act} {T:World} {R:Hp} {be':Nat->Nat} {oe':Nat->Value} {N:Hp} {v:Value},Sub h' R->ae=a.put o.dst v->Sim P h0 w0 be' oe' N { st with fr:=fr } R a T ->
   j7 st be oe st be' oe'->((A j).2.1=true->V06 st be' oe' R (A j).2.2 v)->((A j).2.1=false->v=undef)->W0a P h0 w0 ops st h A sk kp (listed.setIfInBounds j true) ae T:=by
  intro fr ae T R be' oe' N v aY aa bW ap aH bO
  subst aa
  have bn:j7 { st with fr:=G4 ops.toList st.fr } be oe { st with fr:=G4 ops.toList st.fr } be' oe':=⟨ap.bl,ap.be,ap.sm⟩
  have s1:Sim P h0 w0 be' oe' N { st with fr:=G4 ops.toList st.fr } R a T :=
   bW.refr (fr:=G4 ops.toList st.fr) λt=>I2.fr (st := { st with fr:=G4 ops.toList st.fr }) ((ad.fr t).grow bn)
  have s2:Sim P h0 w0 be' oe' N { st with fr:=G4 ops.toList st.fr } R (a.put o.dst v) T:=by
   cases W:o.dst with
   |none=>exact s1
   |some d =>
    have aE:=s1.put (d:=d) (av := .dead) (v:=v) (al o ak d W) trivial
    refine aE.refr (fr:=G4 ops.toList st.fr) λt=>?_
    have g:=aE.fr t
    grind[V3,M02]
  have cm:∀ d,o.dst≠some d->(a.put o.dst v).tmps.getD d undef=a.tmps.getD d undef:=λd W=>by
   cases aC:o.dst with
   |none=>rfl
   |some V=>simp[Act.put,Array.getElem?_setIfInBounds_ne (λe=>W (by rw[aC,e]):V≠d)]
  refine⟨be',oe',N,R,λb x K=>aY b x (aF b x K),s2,λp aE=>?_,λi f d aG I J aO=>?_⟩
  ·grind
  by_cases hij:j=i
  ·subst hij
   rw[aU]at I;cases I
   have ac:d<a.tmps.size:=by rw[ad.siz];exact al o ak d J
   have:(a.put o.dst v).tmps.getD d undef=v:=by
    rw[J]
    simp[Act.put,ac]
   rw[this]
   exact⟨aH,bO⟩
  ·have bG:listed.getD i false=true:=by rw[getD_set_ne false hij]at aO;exact aO
   have bJ:∀ V,o.dst=some V->V≠d:=λV aC e=>by
    subst e
    exact hij (bq j i o f V am (by simpa using I) aC J)
   have:(a.put o.dst v).tmps.getD d undef=a.tmps.getD d undef:=by
    cases W:o.dst with
    |none=>rfl
    |some V=>simp[Act.put,Array.getElem?_setIfInBounds_ne (bJ V W)]
   rw[this]
   obtain⟨ai,bS⟩:=az i f d aG I J bG
   refine⟨λL=>?_,bS⟩
   have ai:=ai L
   cases hA:(A i).2.2 with
   |pu av=>rw[hA]at ai;exact I2.grow ap ai
   |ef F=>rw[hA]at ai;exact bZ i f (by simpa using I) F hA _ _ _ aY ai
 refine⟨λbQ=>?_,λbP=>?_⟩
 rotate_left
 ·have L:(A j).2.1=false:=by rw[←aZ];exact bP
  exact fin (fr:=G4 ops.toList st.fr) (λ_ _ h=>h) rfl ad (j7.refl _ _ _) (λh=>by rw[L]at h;cases h) (λ_=>rfl)
 have L:(A j).2.1=true:=by rw[←aZ];exact bQ
 rw[L]at au M
 have b8:cB aj (A j).1=some true:=by rw[ag,L]
 have bY:∀ t x,f04 U t=some x->Q0j st be oe h' E x (a.tmps.getD t undef)∨Operand.tmp t ∉ o.op.operands:=λt x m=>by
  by_cases C:Operand.tmp t∈o.op.operands
  ·refine .inl λbC=>?_
   obtain⟨i,f,G,s,O,ao,af⟩:=X.p1 t x (x05 m)
   obtain⟨e,S,K,an⟩:=aR o ak t C i f s O
   have aD:listed.getD i false=true:=by rw[←an];exact aW e S K
   have bB:(A i).2.1=true:=by
    have I:=ar.p3 i (List.getElem?_eq_some_iff.1 s).1 (List.getElem?_eq_some_iff.1 s).1
    rw[ao,bR.c _ _ bC]at I
    exact(oJ I).symm
   have aG:sk i=false:=by
    grind
   have:=(az i f t aG (by simpa using s) O aD).1 bB
   rwa [af]at this
  ·exact .inr C
 have bm:∀ t,Operand.tmp t∈o.op.operands->f04 U t=none->I2 st be oe (E3 st.fr t) (a.tmps.getD t undef):=λt C bK=>by
  have g:=ad.fr t
  have bI:E3 (G4 ops.toList st.fr) t=E3 st.fr t:=P01 λD bL W=>by
   obtain⟨i,ah,e⟩:=List.getElem_of_mem bL
   have aw:ops.toList[i]?=some D:=by rw[List.getElem?_eq_getElem ah,e]
   obtain⟨bk,S,K,an⟩:=aR o ak t C i D aw W
   have ac:=bp j o am bk S K
   rw[an]at ac
   obtain⟨x,m⟩:=X.p2 i D t ac aw W
   rw[bK]at m;cases m
  rw[←bI]
  exact I2.fr (st := { st with fr:=G4 ops.toList st.fr }) (fr:=st.fr) g
 have a4:∀ t,Operand.tmp t∈o.op.operands->(∀ x,f04 U t=some x->Q0j st be oe h' E x (a.tmps.getD t undef))/\(f04 U t=none->I2 st be oe (E3 st.fr t) (a.tmps.getD t undef)):=λt C =>
  ⟨λx m=>(bY t x m).resolve_right λal=>al C,bm t C⟩
 have mk:∀ {fr:List (Nat×AV)},(∀ t,I2 st be oe (E3 fr t) (a.tmps.getD t undef))->Sim P h0 w0 be oe H { st with fr:=fr } h' a w:=λ{fr} g=>ad.refr (fr:=fr) λt=>I2.fr (g t)
 cases hA:(A j).2.2 with
 |pu av =>
  rw[hA]at M
  rcases M with M|M
  ·refine Oper.wp_mono (λae T m=>?_) (j0r (be:=be) (oe:=oe) (H:=H) (h:=h') M au (λt=>?_) (λx m y aJ=>?_) (λx m=>?_) (λx m=>?_) mk)
   ·obtain⟨v,be',oe',N,aa,⟨fr,s2⟩,Z,s⟩:=m
    exact fin (λ_ _ h=>h) aa s2 Z (λ_=>by rw[hA];exact s) (λh=>by rw[L]at h;cases h)
   ·grind
   ·obtain⟨G,⟨D,s,O⟩,ao,af⟩:=X.p4 x m
    obtain⟨i,f,a1,a2,cd,ce,cf⟩:=X.p1 x.d y (x05 aJ)
    grind
   ·have aK:∀(l:List BE),x∈l->∃ b,t03 l x.j=some b:=by
     intro l
     induction l with
     |nil=>intro h;cases h
     |cons z l a0 =>
      intro h
      simp only[t03]
      split
      ·exact⟨_,rfl⟩
      grind[absurd,Nat.ne_of_beq_eq_false]
    obtain⟨b,K⟩:=aK E m
    obtain⟨bv,bu⟩:=n04 K
    obtain⟨_,⟨cg,ax,aM⟩,aN,ay⟩:=X.p4 b bv
    obtain⟨_,⟨ci,bg,bh⟩,bi,bj⟩:=X.p4 x m
    rw[bu]at ax aN ay
    rw[bg]at ax;cases ax
    rw[bh]at aM
    rw[bj]at ay
    have b5:x.d=b.d:=by simpa using aM
    have b6:x.ch=b.ch:=bi.symm.trans aN
    have b7:x.e=b.e:=by simpa using ay
    rw[K]
    obtain⟨b4,b2,be',b1⟩:=b
    obtain⟨ct,cq,cr,cp⟩:=x
    grind
   ·obtain⟨G,⟨D,s,O⟩,_,_⟩:=X.p4 x m
    exact X.p2 x.j D x.d G s O
  ·obtain⟨fr,S,g⟩:=A02 (acc:=[]) (be:=be) (oe:=oe) (val:=λt=>a.tmps.getD t undef) au (λt=>trivial) (λt C=>a4 t (by simpa using C)) (o09 (bs:=E) (M h' aF) rfl)
   refine Oper.wp_mono (λae T m=>?_) (C00 (mk g) S)
   obtain⟨bf,st',R,v,be',oe',N,⟨rfl,rfl,rfl⟩,aa,s2,s,Z⟩:=m
   exact fin (λ_ _ h=>h) aa s2 ⟨Z.bl,Z.be,Z.sm⟩ (λ_=>by rw[hA];exact I2.fr (st := { st with fr:=fr }) (fr:=st.fr) s) (λh=>by rw[L]at h;cases h)
 |ef F =>
  rw[hA]at M
  obtain⟨_,M⟩:=M
  obtain⟨fr,S,g⟩:=A02 (acc:=[]) (be:=be) (oe:=oe) (val:=λt=>a.tmps.getD t undef) au (λt=>trivial) (λt C=>a4 t (by simpa using C)) (o09 (bs:=E) (M h' aF) rfl)
  refine Oper.wp_mono (λae T m=>?_) (k0l (mk g) S)
  obtain⟨bf,st',R,v,be',oe',N,bF,aa,s2,s,Z⟩:=m
  obtain⟨ck,J,⟨C,a1,a2⟩,bb,bo⟩:=v03 s2 s bF
  obtain⟨r,rfl⟩:=Y0s C
  have aq:j7 st be oe st be' oe':=by
   have aB:=Z.trans bo
   refine⟨aB.bl,aB.be,λi ba aX=>?_⟩
   obtain⟨s1,a5,cj,a6⟩:=aB.sm i ba aX
   have a7:stamp { n:=st.n,fr:=fr,bx:=st.bx,ow:=st.ow++r } i=some ba:=e0i (st := { st with fr:=fr }) aX
   grind
  have bz:∀ i cs ty,nth st.bx i=some (.live cs ty)->∃ vs,C2 { st with fr:=fr } oe' cs vs/\N (be' i)=some (.cells vs.toArray ty (0,0)):=λi cs ty ah=>by
   obtain⟨_,Y,a5,_⟩:=ad.box i cs ty ah
   obtain⟨_,vs,a6,a7⟩:=bb.box i cs ty ah
   refine⟨vs,?_,a7⟩
   have aK:∀(cs:List P5) (Y vs:List Value),C2 { st with fr:=G4 ops.toList st.fr } oe cs Y->C2 { n:=st.n,fr:=fr,bx:=st.bx,ow:=st.ow++r } oe' cs vs->C2 { st with fr:=fr } oe' cs vs:=by
    intro cs
    induction cs with
    |nil=>intro Y vs _ g;cases vs with
     |nil=>trivial
     |cons v vs=>exact g.elim
    |cons c cs a0 =>
     intro Y vs aA G
     cases Y with
     |nil=>exact aA.elim
     |cons cn Y =>
      cases vs with
      |nil=>exact G.elim
      |cons co vs =>
       refine⟨?_,a0 Y vs aA.2 G.2⟩
       cases c with
       |val x=>exact G.1
       |own k s1 =>
        obtain⟨bc,a8,_,_⟩:=aA.1
        obtain⟨cl,a9,bT,bU⟩:=G.1
        have bV:stamp { n:=st.n,fr:=fr,bx:=st.bx,ow:=st.ow++r } k=some bc:=e0i (st := { st with fr:=fr }) a8
        rw[bV]at a9
        cases a9
        exact⟨bc,a8,bT,bU⟩
   exact aK cs Y vs a5 a6
  have bX:Sim P h0 w0 be' oe' N { st with fr:=fr } J a T:=Sim.untail (st := { st with fr:=fr }) (t:=r) bb (λu=>I2.grow (st := { st with fr:=fr }) (st' := { st with fr:=fr }) ⟨aq.bl,aq.be,aq.sm⟩ (I2.fr (g u))) bz
  exact fin (fr:=fr) a1 aa bX aq (λ_=>by rw[hA];exact a2) (λh=>by rw[L]at h;cases h)
theorem W0a.start{ops:Array Oper}{st:St}{A:Asg}{sk:Nat->Bool}(f:Sim P h0 w0 be oe H st h a w):W0a P h0 w0 ops st h A sk [] (Array.replicate ops.size false) a w:=by
 refine⟨be,oe,H,h,λ_ _ h=>h,f.refr (fr:=G4 ops.toList st.fr) λt=>?_,λp k=>(by cases k),λj o d _ c e b=>?_⟩
 ·by_cases hx:∃ o∈ops.toList,o.dst=some t
  ·obtain⟨o,c,e⟩:=hx
   rw[M02 c e]
   trivial
  ·rw[P01 λo i g=>hx ⟨o,i,g⟩]
   exact f.fr t
 ·simp[Array.getElem?_replicate]at b
  split at b<;>cases b
theorem A0o{ops:Array Oper}{st:St}{A:Asg}{sk:Nat->Bool}{kp:List (Nat×Value)}{q:FL}{D:List BE}{K:St->Hp->Prop}{listed:Array Bool}
  (T:∀ i,sk i=true->(A i).2.2 = .pu (.val undef)) (Y:∀(i j:Nat) (b C:Oper) (d:Nat),ops.toList[i]?=some b->ops.toList[j]?=some C->b.dst=some d->C.dst=some d->i=j)
  (c:H0h ops.toList A q D ops.toList.length) (N:∀ h',Sub h h'->D0h h' q st.fr λfr=>K { st with fr:=fr } h') (ab:∀ j,j<ops.size->listed.getD j false=true)
  (f:W0a P h0 w0 ops st h A sk kp listed a w):∃ be oe H h' fr,K { st with fr:=fr } h'/\Sim P h0 w0 be oe H { st with fr:=G4 ops.toList st.fr } h' a w/\(∀ p∈kp,a.tmps.getD p.1 undef=p.2) /\
   ∀ t,(∀(i:Nat) (b:Oper),ops.toList[i]?=some b->b.dst=some t->sk i=false)->I2 st be oe (E3 fr t) (a.tmps.getD t undef):=by
 obtain⟨be,oe,H,h',S,W,keep,X⟩:=f
 have M:∀ t,(∃(i:Nat) (b:Oper),ops.toList[i]?=some b/\b.dst=some t/\sk i=true) ∨ ¬ ∃(i:Nat) (b:Oper),ops.toList[i]?=some b/\b.dst=some t/\sk i=true:=λt=>Classical.em _
 have l:∃ val:Nat->Value,∀ t,((∃(i:Nat) (b:Oper),ops.toList[i]?=some b/\b.dst=some t/\sk i=true)->val t=undef)/\((¬ ∃(i:Nat) (b:Oper),ops.toList[i]?=some b/\b.dst=some t/\sk i=true)->val t=a.tmps.getD t undef) :=
  Classical.axiomOfChoice (r:=λt v=>((∃(i:Nat) (b:Oper),ops.toList[i]?=some b/\b.dst=some t/\sk i=true)->v=undef)/\((¬ ∃(i:Nat) (b:Oper),ops.toList[i]?=some b/\b.dst=some t/\sk i=true)->v=a.tmps.getD t undef)) λt=>by
   rcases M t with h|h
   ·exact⟨undef,λ_=>rfl,λn=>absurd h n⟩
   grind
 obtain⟨val,l⟩:=l
 obtain⟨fr,aa,g⟩:=d0i (st:=st) (be:=be) (oe:=oe) (val:=val) (λp R J=>by
  obtain⟨t,x⟩:=p
  obtain⟨i,b,h0,E,F,G,I⟩:=c.p1 t x R
  cases hsk:sk i with
  |true =>
   have e:=(l t).1 ⟨i,b,E,F,hsk⟩
   have s:=T i hsk
   rw[I]at s
   show V06 st be oe h' x.2 (val t)
   rw[s,e];exact rfl
  |false =>
  have u : ¬ ∃(i:Nat) (b:Oper),ops.toList[i]?=some b/\b.dst=some t/\sk i=true:=λ⟨k,ok,o,z,U⟩=>by
   grind
  have Z:(A i).2.1=true:=by
   have:=c.p3 i h0 h0
   rw[G,show x.1 = [] from J]at this
   exact(oJ this).symm
  grind) (λt y=>by
  have u : ¬ ∃(i:Nat) (b:Oper),ops.toList[i]?=some b/\b.dst=some t/\sk i=true:=λ⟨k,ok,o,z,U⟩=>by
   obtain⟨x,m⟩:=c.p2 k ok t (List.getElem?_eq_some_iff.1 o).1 o z
   exact y x (x05 m)
  rw[(l t).2 u]
  have O:E3 (G4 ops.toList st.fr) t=E3 st.fr t:=P01 λV Q L=>by
   obtain⟨i,f,e⟩:=List.getElem_of_mem Q
   obtain⟨x,m⟩:=c.p2 i V t f (by rw[List.getElem?_eq_getElem f,e]) L
   exact y x (x05 m)
  have:=W.fr t
  rw[O]at this
  exact I2.fr (st := { st with fr:=G4 ops.toList st.fr }) (fr:=st.fr) this) (N h' S)
 grind
theorem d08:∀ {l:List Oper},o0f l=true->∀ o∈l,∀ i w,o.guard=some (i,w)->w8 i o=true
 | [],h,o,a=>by cases a
 |y::r,h,o,a=>by
  simp only[o0f,Bool.and_eq_true]at h
  rcases List.mem_cons.1 a with rfl|a
  ·grind
  ·exact d08 h.2 o a
theorem a0v{ops:Array Oper}{Q:Exit->Act->World->Prop}{Inv:Array Bool->Act->World->Prop}(hB:∀(k:Nat) (o:Oper),ops.toList[k]?=some o->∀ e∈o.after,Region.binds .any e=true->e.on<k)
  (hstep:∀ listed a w j o,ops[j]?=some o->(∀ e∈o.after,Region.binds .any e=true->listed.getD e.on false=true)->Inv listed a w ->
   (Region.wanted o (yielded ops a.tmps)=true->o.wp P a w (Inv (listed.setIfInBounds j true)) Q)/\(Region.wanted o (yielded ops a.tmps)=false->Inv (listed.setIfInBounds j true) (a.put o.dst undef) w))
  (hQ:∀ listed a w,(∀ j,j<ops.size->listed.getD j false=true)->Inv listed a w->Q .normal a w) :
  ∀(fuel:Nat) (listed:Array Bool) (a:Act) (w:World),listed.size=ops.size->listed.toList.count true+fuel=ops.size->Inv listed a w->wpAny P .any ops Q fuel listed a w
 |0,listed,a,w,hsz,hc,hi=>by
  have hall':∀ j,j<ops.size->listed.getD j false=true:=λj hj=>by
   have h1:∀ b∈listed.toList,true=b:=List.count_eq_length.1 (by grind)
   have hlt:j<listed.size:=by omega
   have:=h1 listed[j] (by simp)
   simp[hlt,←this]
  refine⟨?_,hQ listed a w hall' hi⟩
  simp_all[Region.ready,List.mem_cons_self,mem_ready,Array.getElem?_eq_some_iff]
 |fuel+1,listed,a,w,hsz,hc,hi=>by
  refine⟨λhr=>hQ listed a w (n0d hB hsz hr) hi,λj hj=>?_⟩
  obtain⟨h1,o,h2,h3⟩:=mem_ready.1 hj
  unfold wpOp
  simp only[h2]
  obtain⟨ht,hf⟩:=hstep listed a w j o h2 h3 hi
  have next:∀ a' w',Inv (listed.setIfInBounds j true) a' w'->wpAny P .any ops Q fuel (listed.setIfInBounds j true) a' w':=λa' w' hi'=>a0v hB hstep hQ fuel _ a' w' (by simpa using hsz) (by rw[count_set h1];omega) hi'
  cases hw:Region.wanted o (yielded ops a.tmps)with
  |true =>
   rw[if_pos rfl]
   exact .inl (Oper.wp_mono next (ht hw))
  |false =>
   grind
theorem M0t{ops:Array Oper}{Q:Exit->Act->World->Prop}{Inv:Array Bool->Act->World->Prop}(hB:∀(k:Nat) (o:Oper),ops.toList[k]?=some o->∀ e∈o.after,Region.binds .any e=true->e.on<k)
  (hstep:∀ listed a w j o,ops[j]?=some o->(∀ e∈o.after,Region.binds .any e=true->listed.getD e.on false=true)->Inv listed a w ->
   (Region.wanted o (yielded ops a.tmps)=true->o.wp P a w (Inv (listed.setIfInBounds j true)) Q)/\(Region.wanted o (yielded ops a.tmps)=false->Inv (listed.setIfInBounds j true) (a.put o.dst undef) w))
  (hQ:∀ listed a w,(∀ j,j<ops.size->listed.getD j false=true)->Inv listed a w->Q .normal a w) :
  ∀(l:List Oper) (k:Nat) (listed:Array Bool) (a:Act) (w:World),(∀ j,l[j]?=ops.toList[k+j]?)->k+l.length=ops.size->listed.size=ops.size->(∀ j,j<k->listed.getD j false=true)->Inv listed a w->wpList P ops Q l a w
 | [],k,listed,a,w,hl,hk,hsz,hp,hi=>hQ listed a w (λj hj=>hp j (by simp at hk;omega)) hi
 |o::l,k,listed,a,w,hl,hk,hsz,hp,hi=>by
  have ho:ops.toList[k]?=some o:=by simpa using (hl 0).symm
  have hl':∀ j,l[j]?=ops.toList[k+1+j]?:=λj=>by have:=hl (j+1);grind
  obtain⟨ht,hf⟩:=hstep listed a w k o (by simpa using ho) (λe he hb=>hp _ (hB k o ho e he hb)) hi
  have next:∀ a' w',Inv (listed.setIfInBounds k true) a' w'->wpList P ops Q l a' w':=λa' w' hi' =>
   M0t hB hstep hQ l (k+1) _ a' w' hl' (by grind) (by simpa using hsz) (λj hj=>by
    by_cases e:k=j
    ·subst e
     have:k<listed.size:=by grind
     simp[this]
    ·rw[getD_set_ne false e];exact hp j (by omega)) hi'
  unfold wpList
  cases hw:Region.wanted o (yielded ops a.tmps)with
  |true =>
   rw[if_pos rfl]
   exact .inl (Oper.wp_mono next (ht hw))
  |false =>
   grind
theorem l0l{ops:Array Oper}{st:St}{K:St->Hp->Prop}{Q:Exit->Act->World->Prop}(hb:y04 st.n ops.toList=true)(he:evU P ops.toList 0 [] [] st h K)
  (hQ:∀ a w st h be oe H,K st h->Sim P h0 w0 be oe H st h a w->Q .normal a w) :
  (∀ {be:Nat->Nat} {oe:Nat->Value} {H:Hp} {a:Act} {w:World},Sim P h0 w0 be oe H st h a w->wpAny P .any ops Q ops.size (Array.replicate ops.size false) a w) /\
  (∀ {be:Nat->Nat} {oe:Nat->Value} {H:Hp} {a:Act} {w:World},Sim P h0 w0 be oe H st h a w->wpList P ops Q ops.toList a w):=by
 simp only[y04,f03,Bool.and_eq_true]at hb
 obtain⟨⟨⟨b1,b2⟩,b3⟩,b4⟩:=hb
 obtain⟨hn,hD⟩:=T05 b1
 have hB:∀(k:Nat) (o:Oper),ops.toList[k]?=some o->∀ e∈o.after,Region.binds .any e=true->e.on<k:=λk o hk e he' hb=>by
  have:=o04 b2 k o hk e he' hb
  omega
 have hdep:=b08 b3
 have hgd:=d08 b4
 obtain⟨A,Lf,Bf,_,_,hP,hall,hfin⟩:=Z0f (ops:=ops.toList) hD ops.toList 0 [] [] (λ_=>([],true,.pu .dead)) (λj=>by simp) (by simp)
  ⟨λt x h=>(by cases h),λi oi d hi=>by omega,λi hi=>by omega,λx hx=>(by cases hx)⟩ he
 have step:∀ listed a w j o,ops[j]?=some o->(∀ e∈o.after,Region.binds .any e=true->listed.getD e.on false=true)->W0a P h0 w0 ops st h A (λ_=>false) [] listed a w ->
   (Region.wanted o (yielded ops a.tmps)=true->o.wp P a w (W0a P h0 w0 ops st h A (λ_=>false) [] (listed.setIfInBounds j true)) Q)/\(Region.wanted o (yielded ops a.tmps)=false->W0a P h0 w0 ops st h A (λ_=>false) [] (listed.setIfInBounds j true) (a.put o.dst undef) w) :=
  λlisted a w j o h1 h2 h3=>L0t hD hn hB hdep hgd hP (λj o ho=>hall j o (Nat.zero_le _) ho) rfl (λ_ _ _ _ _ h=>nomatch h) (λ_ h=>nomatch h) (λ_ hp=>nomatch hp) h1 h2 h3
 have done:∀ listed a w,(∀ j,j<ops.size->listed.getD j false=true)->W0a P h0 w0 ops st h A (λ_=>false) [] listed a w->Q .normal a w:=λlisted a w hl hi=>by
  obtain⟨be,oe,H,h',fr,hk,s,_,g⟩:=A0o (sk:=λ_=>false) (λ_ h=>nomatch h) hD hP hfin hl hi
  exact hQ a w _ h' be oe H hk (s.refr (fr:=fr) λt=>I2.fr (g t λ_ _ _ _=>rfl))
 refine⟨λs=>?_,λs=>?_⟩
 ·exact a0v hB step done ops.size _ _ _ (by simp) (by simp[List.count_replicate]) (W0a.start s)
 ·exact M0t hB step done ops.toList 0 _ _ _ (λj=>by simp) (by simp) (by simp) (λj hj=>by omega) (W0a.start s)
end
def M04(H:Hp):List (Nat×Obj)->Hp
 | []=>H
 |p::l=>(M04 H l).set p.1 p.2
theorem p04{H:Hp}{b:Nat}:∀ {l:List (Nat×Obj)},(∀ p∈l,p.1≠b)->M04 H l b=H b
 | [],_=>rfl
 |p::l,h=>by
  rw[M04,Hp.set_other _ _ λe=>h p mS e.symm]
  exact p04 λq a=>h q (mC _ a)
theorem V05{H:Hp}:∀ {l:List (Nat×Obj)},(l.map λp=>p.1).Nodup->∀ {p:Nat×Obj},p∈l->M04 H l p.1=some p.2
 | [],_,p,h=>nomatch h
 |q::l,a,p,h=>by
  rw[List.map_cons,List.nodup_cons]at a
  rcases List.mem_cons.1 h with rfl|h
  ·exact Hp.set_same _ _ _
  ·rw[M04,Hp.set_other _ _ λe=>a.1 (List.mem_map.2 ⟨p,h,e⟩)]
   exact V05 a.2 h
theorem r09{H:Hp}{l:List (Nat×Obj)}(b:Nat):(∃ p∈l,p.1=b)∨∀ p∈l,p.1≠b:=by
 grind
theorem a0g{a H:Hp}{f w:World}{l:List (Nat×Obj)}(k:Vis (M04 a l) f)(i:∀ p∈l,a p.1=none/\p.1<f.heap.size)(g:(l.map λp=>p.1).Nodup)(m:T2 a f H w):
  T2 (M04 a l) f (M04 H l) w:=by
 refine⟨m.os,m.tape,m.output,m.size,λb e j=>?_,λb o c=>?_,λb e=>?_,m.fz,m.dn⟩
 ·rcases r09 (H:=a) (l:=l) b with⟨p,d,rfl⟩|c
  ·grind[V05]
  ·rw[p04 c]at j;exact m.keep b e j
 ·rcases r09 (H:=a) (l:=l) b with⟨p,d,rfl⟩|h
  ·rw[V05 g d]at c;cases c
   rw[m.keep p.1 (i p d).2 (i p d).1]
   exact k p.1 _ (V05 g d)
  ·rw[p04 h]at c;exact m.vis b o c
 ·rcases r09 (H:=a) (l:=l) b with⟨p,d,rfl⟩|h
  ·grind[V05]
  ·rw[p04 h]at e ⊢
   exact m.fresh b e
section
variable {P:Program} {h0:Hp} {w0:World} {be:Nat->Nat} {oe:Nat->Value} {H:Hp} {h:Hp} {a:Act} {w:World}
theorem Sim.base{st:St}(b:Sim P h0 w0 be oe H st h a w){c:Hp}{e d:World}(m:T2 c e H d):Sim P c e be oe H st h a d :=
 ⟨m,b.sub,b.box,b.pub,b.own,b.frz,b.bb,b.oo,b.bo,b.dfr,b.siz,b.fr⟩
theorem Sim.more{st:St}(c:Sim P h0 w0 be oe H st h a w){l:List (Nat×Obj)}(v:∀ p∈l,H p.1=none){j:Hp}{n:World}(m:T2 j n (M04 H l) w):Sim P j n be oe (M04 H l) st h a w:=by
 have keep:∀ b,H b≠none->M04 H l b=H b:=λb d=>p04 λp x e=>d (by grind)
 refine⟨m,λb o d=>by rw[keep b (by rw[c.sub b o d];simp)];exact c.sub b o d,λi cs ty f=>?_,c.pub,λi k e sz by_ nn xs f=>?_,c.frz,c.bb,c.oo,c.bo,c.dfr,c.siz,c.fr⟩
 ·obtain⟨s,vs,t,u⟩:=c.box i cs ty f
  grind
 ·refine(c.own i k e sz by_ nn xs f).keep λg q=>?_
  obtain⟨y,_,_,_,z⟩:=(c.own i k e sz by_ nn xs f).block q
  grind
theorem Sim.claim{st:St}(c:Sim P h0 w0 be oe H st h a w){cs:List P5}{vs:List Value}{t:TypeId}{b:Nat}(E:C2 st oe cs vs)(D:H b=some (.cells vs.toArray t (0,0)))(F:h b=none)
  (K:∀ i cs ty,nth st.bx i=some (.live cs ty)->be i≠b) (L:∀ i s e sz by_ nn xs g,nth st.ow i=some ⟨s,.live e sz by_ nn xs⟩->(oe i).ownBlock=some g->g≠b) :
  let be':=λj=>if j=st.bx.length then b else be j
  let st':St := { st with bx:=st.bx ++ [.live cs t] }
  Sim P h0 w0 be' oe H st' h a w/\j7 st be oe st' be' oe:=by
 intro be' st'
 have l:j7 st be oe st' be' oe:=by
  refine⟨by simp[st'],λi d=>?_,λi c G=>⟨c,G,Nat.le_refl _,λ_=>rfl⟩⟩
  grind
 have m:∀ i cs ty,nth st.bx i=some (.live cs ty)->be' i=be i:=λi cs ty d=>by simp[be',Nat.ne_of_lt (x02 d)]
 have k:∀ i x,nth st'.bx i=some x->(i=st.bx.length/\x = .live cs t)∨(i≠st.bx.length/\nth st.bx i=some x):=by
  grind[U02]
 refine⟨⟨c.mv,c.sub,?_,?_,c.own,c.frz,?_,c.oo,?_,c.dfr,c.siz,λt=>(c.fr t).grow l⟩,l⟩
 ·intro i cs' ty d
  rcases k i _ d with⟨rfl,e⟩|⟨e,f⟩
  ·cases e
   exact⟨by simp[be',F],vs,E.grow l,by simp[be',D]⟩
  ·obtain⟨z,J,A,C⟩:=c.box i cs' ty f
   rw[m i cs' ty f]
   exact⟨z,J,A.grow l,C⟩
 ·intro i u d
  rcases k i _ d with⟨_,e⟩|⟨e,f⟩
  ·cases e
  ·simp[be',e,c.pub i u f]
 ·intro i j v I M N d o e
  rcases k i _ d with⟨rfl,n⟩|⟨n,f⟩<;>rcases k j _ o with⟨rfl,y⟩|⟨y,q⟩
  ·rfl
  ·grind
  ·grind
  ·rw[m i _ _ f,m j _ _ q]at e;exact c.bb i j _ _ _ _ f q e
 ·intro i v I j s e sz by_ nn xs d o p
  rcases k i _ d with⟨rfl,n⟩|⟨n,f⟩
  ·grind
  ·rw[m i _ _ f]at p;exact c.bo i _ _ j _ _ _ _ _ _ f o p
def d0c(a:Act)(d:Nat):Nat:=match a.tmps.getD d undef with
 | .pointer (some ⟨b,_,_⟩)=>b
 |_=>0
theorem x07{a:Act}{d b:Nat}(e:a.tmps.getD d undef=ptr b 0):d0c a d=b:=by
 unfold d0c;rw[e];rfl
def t0v(P:Program)(H h:Hp)(a:Act)(n:Nat)(o:Oper):Prop:=J05 o=true->∃ d t z,o.op = .alloc t/\o.dst=some d/\d<n/\u01 P t=some z/\a.tmps.getD d undef=ptr (d0c a d) 0/\H (d0c a d)=some (.cells z.cells t (0,0))/\h (d0c a d)=none
def u0v(a:Act)(o c:Oper):Prop:=J05 o=true->J05 c=true->∀ d b,o.dst=some d->c.dst=some b->d0c a d≠d0c a b
theorem R0j{st:St}{h:Hp}{d:Nat}:b09 ⟨st,h,[],[]⟩ d=false:=rfl
theorem l0n{K:St->Hp->Prop}{fd:List (Nat×AV)}:∀(l:List Oper) (st:St) (be:Nat->Nat),Sim P h0 w0 be oe H { st with fr:=fd } h a w ->
  (∀ t,(∀ o∈l,J05 o=true->o.dst≠some t)->I2 st be oe (E3 st.fr t) (a.tmps.getD t undef))->(∀ o∈l,t0v P H h a st.n o)->l.Pairwise (u0v a) ->
  (∀ i cs ty,nth st.bx i=some (.live cs ty)->∀ o∈l,J05 o=true->∀ d,o.dst=some d->be i≠d0c a d) ->
  (∀ i k e sz by_ nn xs g,nth st.ow i=some ⟨k,.live e sz by_ nn xs⟩->(oe i).ownBlock=some g->∀ o∈l,J05 o=true->∀ d,o.dst=some d->g≠d0c a d) ->
  doA (J04 P) l st h K->∃ st' be',K st' h/\Sim P h0 w0 be' oe H st' h a w
 | [],st,be,x,q,_,_,_,_,j=>⟨st,be,j,x.refr (fr:=st.fr) λt=>I2.fr (st:=st) (q t λo p=>nomatch p)⟩
 |o::l,st,be,x,q,y,s,A,p,j=>by
  rw[List.pairwise_cons]at s
  have j:(match J05 o with
   |true=>J04 P o st h λst h=>doA (J04 P) l st h K
   |false=>doA (J04 P) l st h K):=j
  cases hal:J05 o with
  |false =>
   rw[hal]at j
   exact l0n l st be x (λt U=>q t λc b G=>by
    grind) (λc b=>y c (mC _ b)) s.2 (λi cs ty f c b=>A i cs ty f c (mC _ b)) (λi k e sz by_ nn xs g f m c b=>p i k e sz by_ nn xs g f m c (mC _ b)) j
  |true =>
   rw[hal]at j
   obtain⟨d,t,z,O,v,W,Q,R,C,S⟩:=y o mS hal
   simp only[J04,F8,O,Q,b0d,v,E0f,R0j]at j
   have L:Nat.blt d (st.withBx (st.bx ++ [.live (vals z.cells.toList) t])).n=true:=by
    grind
   simp only[L]at j
   obtain⟨n,fr,bx,ow⟩:=st
   have N:doA (J04 P) l ⟨n,(d,.box bx.length 0)::fr,bx ++ [.live (vals z.cells.toList) t],ow⟩ h K:=j
   have J:z.cells=z.cells.toList.toArray:=by simp
   rw[J]at C
   obtain⟨s2,F⟩:=x.claim (C2.vals _ oe _) C S (λi cs ty f=>A i cs ty f o mS hal d v) (λi k e sz by_ nn xs g f m=>p i k e sz by_ nn xs g f m o mS hal d v)
   refine l0n l ⟨n,(d,.box bx.length 0)::fr,bx ++ [.live (vals z.cells.toList) t],ow⟩ _ s2 (λu V=>?_) (λc b=>y c (mC _ b)) s.2 (λi cs ty f c b I D M=>?_) (λi k e sz by_ nn xs g f m c b=>p i k e sz by_ nn xs g f m c (mC _ b)) N
   ·show I2 _ _ _ (E3 ((d,.box bx.length 0)::fr) u) _
    rw[V3]
    split
    ·rename_i e
     subst e
     refine⟨by simp,?_⟩
     rw[R];simp
    ·rename_i e
     have E:=q u λc b G T=>by
      grind
     exact I2.fr (st:=⟨n,fd,bx ++ [.live (vals z.cells.toList) t],ow⟩) (I2.grow F (I2.fr (st:=⟨n,fr,bx,ow⟩) (fr:=fd) E))
   ·simp only[U02]at f
    split at f
    ·rename_i e
     subst e
     simp only[if_pos]
     exact s.1 c b hal I d D v M
    grind
theorem C06{d:Nat}:∀ {l:List Operand},f09 d l=false->Operand.tmp d ∉ l
 | [],_,h=>nomatch h
 |x::r,a,h=>by
  rcases List.mem_cons.1 h with e|b
  ·subst e
   simp[f09]at a
  ·cases x<;>simp only[f09,Bool.or_eq_false_iff]at a
   ·exact C06 a.2 b
   all_goals exact C06 a b
theorem v0e{d:Nat}:∀ {l:List Oper},I0f d l=false->∀ o∈l,Operand.tmp d ∉ o.op.operands
 | [],_,o,h=>nomatch h
 |y::r,a,o,h=>by
  simp only[I0f,Bool.or_eq_false_iff]at a
  rcases List.mem_cons.1 h with rfl|h
  ·exact λb=>C06 a.1 (by simpa using b)
  ·exact v0e a.2 o h
theorem m0l{all:List Oper}:∀ {l:List Oper},okA P all l=true->∀ o∈l,J05 o=true->∃ t d z,o.op = .alloc t/\o.guard=none/\o.dst=some d/\u01 P t=some z/\∀ c∈all,Operand.tmp d ∉ c.op.operands
 | [],_,o,h,_=>nomatch h
 |y::r,a,o,h,b=>by
  simp only[okA,Bool.and_eq_true]at a
  rcases List.mem_cons.1 h with rfl|h
  ·grind[J05,v0e]
  ·exact m0l a.2 o h b
theorem n0l{o:Oper}(h:J05 o=false):h01 o=o:=by
 grind[h01,J05]
theorem R8(o:Oper):(h01 o).dst=o.dst:=by unfold h01;split<;>rfl
theorem o0l(o:Oper):(h01 o).after=o.after:=by unfold h01;split<;>rfl
theorem p0l(o:Oper):(h01 o).guard=o.guard:=by unfold h01;split<;>rfl
theorem S8:∀(l:List Oper) (i:Nat),(j6 l)[i]?=(l[i]?).map h01
 | [],i=>by simp[j6]
 |o::r,0=>by simp[j6]
 |o::r,i+1=>by simp[j6,S8 r i]
theorem f0i:∀(l:List Oper),(j6 l).length=l.length
 | []=>rfl
 |o::r=>by simp[j6,f0i r]
theorem q0l{o:Oper}{d:Nat}(h:Operand.tmp d∈(h01 o).op.operands):Operand.tmp d∈o.op.operands:=by
 grind[J05,n0l,h01,Op.operands]
abbrev v0v:=List (Nat×Nat×Obj)
def skA(a:List Oper)(i:Nat):Bool:=match a[i]? with
 |some o=>J05 o
 |none=>false
def q0d(P:Program)(h0:Hp)(w0:World)(e:List Oper)(st:St)(h:Hp)(A:Asg)(listed:Array Bool)(a:Act)(w:World):Prop :=
 ∃(c:v0v) (f:Hp) (g:World),T2 h0 w0 (M04 f (c.map λp=>p.2)) g/\(∀ p∈c,f p.2.1=none/\p.2.1<g.heap.size)/\((c.map λp=>p.2).map λp=>p.1).Nodup /\
  W0a P f g (j6 e).toArray st h A (skA e) (c.map λp=>(p.1,ptr p.2.1 0)) listed a w /\
  (∀(j:Nat) (o:Oper) t d z,e[j]?=some o->o.op = .alloc t->o.dst=some d->u01 P t=some z->listed.getD j false=true->∃ b,(d,b,Obj.cells z.cells t (0,0))∈c) /\
  ∀ p∈c,∃(j:Nat) (o:Oper),e[j]?=some o/\J05 o=true/\o.dst=some p.1/\listed.getD j false=true
theorem q0d.start{f:List Oper}{st:St}{A:Asg}{m:Nat}(g:Sim P h0 w0 be oe H st h a w):q0d P h0 w0 f st h A (Array.replicate m false) a w:=by
 refine⟨[],H,w,g.mv,λp b=>(by cases b),by simp,?_,λj o t d z _ _ _ _ e=>?_,λp b=>(by cases b)⟩
 ·have l:Sim P H w be oe H st h a w:=g.base (T2.refl g.mv.vis)
  refine⟨be,oe,H,h,λ_ _ h=>h,l.refr (fr:=G4 (j6 f) st.fr) λt=>?_,λp b=>(by cases b),λj o d _ i k c=>?_⟩
  ·by_cases hx:∃ o∈j6 f,o.dst=some t
   ·obtain⟨o,i,k⟩:=hx
    rw[M02 i k]
    trivial
   ·rw[P01 λo q n=>hx ⟨o,q,n⟩]
    exact l.fr t
  ·simp[Array.getElem?_replicate]at c
   split at c<;>cases c
 ·simp[Array.getElem?_replicate]at e
  split at e<;>cases e
theorem N0t{f:List Oper}{st:St}{A:Asg}{ar:FL}{Y:List BE}{listed:Array Bool}{j:Nat}{o:Oper}{Q:Exit->Act->World->Prop}
  (ac:∀(i j:Nat) (l ao:Oper) (d:Nat),(j6 f)[i]?=some l->(j6 f)[j]?=some ao->l.dst=some d->ao.dst=some d->i=j)
  (ad:∀ o∈j6 f,∀ d,o.dst=some d->d<st.n)
  (az:∀(k:Nat) (o:Oper),(j6 f)[k]?=some o->∀ e∈o.after,Region.binds .any e=true->e.on<k)
  (aF:∀ o∈j6 f,∀ t,Operand.tmp t∈o.op.operands->∀(i:Nat) (l:Oper),(j6 f)[i]?=some l->l.dst=some t->∃ e∈o.after,Region.binds .any e=true/\e.on=i)
  (aG:∀ o∈j6 f,∀ i w,o.guard=some (i,w)->w8 i o=true)
  (aA:H0h (j6 f) A ar Y (j6 f).length)
  (aC:∀ j o,(j6 f)[j]?=some o->∃ Z J,U00 Y o.guard=some (A j).1/\H0h (j6 f) A Z J j/\n0a J Y/\cB J (A j).1=some (A j).2.1/\(OpU P st h Z J o (A j).1 (A j).2.1 (A j).2.2/\∀ av,w0a P Z J (A j).1 o st=some av->(A j).2.2 = .pu av))
  (aU:∀(i:Nat) (l:Oper) (d:Nat),(j6 f)[i]?=some l->l.dst=some d->skA f i=true->∀ af∈j6 f,Operand.tmp d ∉ af.op.operands)
  (aR:∀ i,skA f i=true->(A i).2.2 = .pu (.val undef)) (aB:∀ o∈f,J05 o=true->∃ t d z,o.op = .alloc t/\o.guard=none/\o.dst=some d/\u01 P t=some z/\∀ af∈f,Operand.tmp d ∉ af.op.operands)
  (a6:listed.getD j true=false)
  (K:f[j]?=some o) (aP:∀ e∈o.after,Region.binds .any e=true->listed.getD e.on false=true) (aH:q0d P h0 w0 f st h A listed a w) :
  (Region.wanted o (yielded (j6 f).toArray a.tmps)=true->o.wp P a w (q0d P h0 w0 f st h A (listed.setIfInBounds j true)) Q) /\
  (Region.wanted o (yielded (j6 f).toArray a.tmps)=false->q0d P h0 w0 f st h A (listed.setIfInBounds j true) (a.put o.dst undef) w):=by
 obtain⟨s,S,X,ae,L,V,am,ai,ab⟩:=aH
 have aN:o∈f:=List.mem_of_getElem? K
 have I:(j6 f)[j]?=some (h01 o):=by rw[S8,K];rfl
 have aL:listed.getD j false=false:=by
  grind
 have aK:j<listed.size:=by
  grind
 have ay:∀ p∈s,∃(i:Nat) (l:Oper),(j6 f)[i]?=some l/\l.dst=some p.1/\skA f i=true:=λp c=>by
  obtain⟨i,l,m,D,y,_⟩:=ab p c
  exact⟨i,h01 l,by rw[S8,m];rfl,by rw[R8];exact y,by unfold skA;rw[m];exact D⟩
 cases hisa:J05 o with
 |false =>
  have aJ:=n0l hisa
  rw[aJ]at I
  have aS:skA f j=false:=by unfold skA;rw[K];exact hisa
  have up:∀ aa E,W0a P S X (j6 f).toArray st h A (skA f) (s.map λp=>(p.1,ptr p.2.1 0)) (listed.setIfInBounds j true) aa E->q0d P h0 w0 f st h A (listed.setIfInBounds j true) aa E:=λaa E aY=>by
   refine⟨s,S,X,ae,L,V,aY,λi l t d z m D y G O=>?_,λp c=>?_⟩
   ·by_cases e:j=i
    ·grind[J05]
    ·rw[getD_set_ne false e]at O
     exact ai i l t d z m D y G O
   grind[getD_set_true]
  have a8:=L0t (P:=P) (h0:=S) (w0:=X) (ops:=(j6 f).toArray) (Q:=Q) (sk:=skA f) (kp:=s.map λp=>(p.1,ptr p.2.1 0)) (by simpa using ac) (by simpa using ad) (by simpa using az) (by simpa using aF) (by simpa using aG) (by simpa using aA) (by simpa using aC) aS (by simpa using aU) aR (λp c=>by
   obtain⟨q,C,rfl⟩:=List.mem_map.1 c
   simpa using ay q C) (by simpa using I) aP am
  grind[Oper.wp_mono]
 |true =>
  obtain⟨t,d,z,aZ,a0,F,a1,a7⟩:=aB o aN hisa
  refine⟨λ_=>?_,λM=>?_⟩
  rotate_left
  ·unfold Region.wanted at M;rw[a0]at M;cases M
  obtain⟨be,oe,H,h',aQ,R,keep,ax⟩:=am
  have an:T2 h0 w0 (M04 H (s.map λp=>p.2)) w:=ae.trans (a0g ae.vis (λp c=>by
   obtain⟨q,C,rfl⟩:=List.mem_map.1 c
   exact L q C) V R.mv)
  have ah:∀ p∈s,H p.2.1=none:=λp c=>R.mv.none_of (L p c).2 (L p c).1
  have M:wpS P (execOp a.eval o) (M04 H (s.map λp=>p.2)) (λn ag=>∃ b,M04 H (s.map λp=>p.2) b=none/\n = .value (ptr b 0)/\ag=(M04 H (s.map λp=>p.2)).set b (.cells z.cells t (0,0))):=by
   unfold execOp;rw[aZ]
   refine A8 _ _ _ ?_
   simp only[Instr.alloc,newVar,newRow,newObj,P2,W0b a1,C3,wpS]
   exact λb T=>⟨b,T,rfl,rfl⟩
  obtain⟨n,ag,E,aO,⟨b,T,rfl,rfl⟩,U⟩:=r00 _ _ _ an.vis M
  refine U7 aO ?_
  have ak:∀ p∈s,p.2.1≠b:=λp c e=>by
   have:=V05 (H:=H) V (List.mem_map.2 ⟨p,c,rfl⟩)
   rw[e,T]at this;cases this
  have aj:H b=none:=by
   rw[←T,p04]
   intro p c
   obtain⟨q,C,rfl⟩:=List.mem_map.1 c
   exact ak q C
  have aX:Vis H E:=λx a2 N=>by
   refine U.vis x a2 ?_
   rw[Hp.set_other _ _ λe=>by subst e;rw[aj]at N;cases N]
   rw[p04]
   ·exact N
   ·intro p c e
    obtain⟨q,C,rfl⟩:=List.mem_map.1 c
    rw[←e,ah q C]at N;cases N
  have aM:d<a.tmps.size:=by rw[R.siz];exact ad (h01 o) (List.mem_of_getElem? I) d (by rw[R8];exact F)
  have a5:(a.put o.dst (ptr b 0)).tmps.getD d undef=ptr b 0:=by rw[F];simp[Act.put,aM]
  have aq:∀ u,u≠d->(a.put o.dst (ptr b 0)).tmps.getD u undef=a.tmps.getD u undef:=λu aV=>by
   rw[F];simp[Act.put,Array.getElem?_setIfInBounds_ne (Ne.symm aV)]
  have a3:∀ p∈s,p.1≠d:=λp c e=>by
   obtain⟨i,l,m,D,y,G⟩:=ab p c
   have:=ac i j (h01 l) (h01 o) d (by rw[S8,m];rfl) I (by rw[R8,y,e]) (by rw[R8];exact F)
   subst this
   rw[aL]at G;cases G
  have s1:Sim P H E be oe H { st with fr:=G4 (j6 f) st.fr } h' a E:=(by simpa using R:Sim P S X be oe H { st with fr:=G4 (j6 f) st.fr } h' a w).base (T2.refl aX)
  have s2:Sim P H E be oe H { st with fr:=G4 (j6 f) st.fr } h' (a.put o.dst (ptr b 0)) E:=by
   have c:=s1.put (d:=d) (av := .dead) (v:=ptr b 0) (ad (h01 o) (List.mem_of_getElem? I) d (by rw[R8];exact F)) trivial
   rw[F]
   refine c.refr (fr:=G4 (j6 f) st.fr) λu=>?_
   have g:=c.fr u
   rw[V3]at g
   split at g
   ·rename_i e
    subst e
    rw[M02 (List.mem_of_getElem? I) (by rw[R8];exact F)]
    trivial
   ·exact g
  refine⟨(d,b,.cells z.cells t (0,0))::s,H,E,?_,λp c=>?_,?_,⟨be,oe,H,h',aQ,by simpa using s2,λp c=>?_,λi l u W m D y=>?_⟩,λi l a4 aw z' m D y G O=>?_,λp c=>?_⟩
  ·exact an.trans U
  ·rcases List.mem_cons.1 c with rfl|c
   ·exact⟨aj,U.vis.lt (by rw[Hp.set_same];simp)⟩
   ·exact⟨ah p c,Nat.lt_of_lt_of_le (L p c).2 (Nat.le_trans R.mv.size U.size)⟩
  ·rw[List.map_cons,List.map_cons,List.nodup_cons]
   refine⟨λaE=>?_,V⟩
   obtain⟨q,C,e⟩:=List.mem_map.1 aE
   obtain⟨p,c,rfl⟩:=List.mem_map.1 C
   exact ak p c e
  ·rw[List.map_cons]at c
   rcases List.mem_cons.1 c with rfl|c
   ·exact a5
   ·obtain⟨q,C,rfl⟩:=List.mem_map.1 c
    rw[aq _ (a3 q C)]
    exact keep _ c
  ·have al:j≠i:=λe=>by
    subst e
    have ap:J05 o=false:=by unfold skA at W;rw[K]at W;exact W
    rw[hisa]at ap;cases ap
   rw[getD_set_ne false al]at y
   have aW:u≠d:=λe=>by
    subst e
    exact al (ac j i (h01 o) l u I (by simpa using m) (by rw[R8];exact F) D)
   rw[aq u aW]
   exact ax i l u W m D y
  ·by_cases e:j=i
   ·grind[List.mem_cons_self]
   ·rw[getD_set_ne false e]at O
    obtain⟨au,aD⟩:=ai i l a4 aw z' m D y G O
    exact⟨au,mC _ aD⟩
  ·rcases List.mem_cons.1 c with rfl|c
   ·exact⟨j,o,K,hisa,F,by simp[aK]⟩
   ·obtain⟨i,l,m,D,y,G⟩:=ab p c
    exact⟨i,l,m,D,y,getD_set_true G⟩
theorem g0i{a m:Type}{f:a->m}:∀ {l:List a},(l.map f).Nodup->∀ {p q:a},p∈l->q∈l->f p=f q->p=q
 | [],_,p,q,h,_,_=>nomatch h
 |x::l,b,p,q,g,j,e=>by
  rw[List.map_cons,List.nodup_cons]at b
  rcases List.mem_cons.1 g with c|i<;>rcases List.mem_cons.1 j with d|k
  ·rw[c,d]
  ·grind
  ·grind
  ·exact g0i b.2 i k e
theorem a0t{c:List Oper}{st:St}{A:Asg}{U:FL}{ac:List BE}{K:St->Hp->Prop}{listed:Array Bool}
  (W:∀(i j:Nat) (M ab:Oper) (d:Nat),(j6 c)[i]?=some M->(j6 c)[j]?=some ab->M.dst=some d->ab.dst=some d->i=j)
  (an:∀ o∈j6 c,∀ d,o.dst=some d->d<st.n)
  (ap:∀ i,skA c i=true->(A i).2.2 = .pu (.val undef)) (aj:∀ o∈c,J05 o=true->∃ t d z,o.op = .alloc t/\o.guard=none/\o.dst=some d/\u01 P t=some z/\∀ au∈c,Operand.tmp d ∉ au.op.operands)
  (ah:H0h (j6 c) A U ac (j6 c).length) (ak:∀ h',Sub h h'->D0h h' U st.fr λfr=>doA (J04 P) c { st with fr:=fr } h' K) (Y:∀ j,j<c.length->listed.getD j false=true)
  (y:q0d P h0 w0 c st h A listed a w):∃ st' h' be oe H,K st' h'/\Sim P h0 w0 be oe H st' h' a w:=by
 obtain⟨N,aC,aJ,aa,Z,S,aq,ag,aD⟩:=y
 obtain⟨be,oe,H,h',fr,am,E,keep,g⟩:=A0o (K:=λst h=>doA (J04 P) c st h K) (ops:=(j6 c).toArray) ap (by simpa using W) (by simpa using ah) ak (λj s=>Y j (by simpa [f0i] using s)) aq
 have ar:T2 h0 w0 (M04 H (N.map λp=>p.2)) w:=aa.trans (a0g aa.vis (λp J=>by
  grind) S E.mv)
 have Q:∀ p∈N,H p.2.1=none:=λp J=>E.mv.none_of (Z p J).2 (Z p J).1
 have ax:=E.more (l:=N.map λp=>p.2) (λp J=>by
  grind) ar
 have F:∀ o∈c,J05 o=true->∃ t d z b,o.op = .alloc t/\o.dst=some d/\u01 P t=some z/\(d,b,Obj.cells z.cells t (0,0))∈N/\a.tmps.getD d undef=ptr b 0:=λo u q=>by
  obtain⟨t,d,z,C,m,D,k,v⟩:=aj o u q
  obtain⟨j,s⟩:=List.getElem?_of_mem u
  obtain⟨b,I⟩:=ag j o t d z s C D k (Y j (List.getElem?_eq_some_iff.1 s).1)
  exact⟨t,d,z,b,C,D,k,I,keep _ (List.mem_map.2 ⟨_,I,rfl⟩)⟩
 have ao:∀ b,H b=none->h' b=none:=λb I=>by
  cases e:h' b with
  |none=>rfl
  |some o=>rw[E.sub b o e]at I;cases I
 refine(l0n (K:=K) (fd:=G4 (j6 c).toArray.toList st.fr) c { st with fr:=fr } be ax (λt aF=>?_) (λo u q=>?_) ?_ (λi cs ty y o u q d x=>?_) (λi ay e sz by_ nn xs aB y al o u q d x=>?_) am).elim λst' L=>L.elim λbe' L=>⟨st',h',be',oe,_,L.1,L.2⟩
 ·refine I2.fr (st:=st) (fr:=fr) (g t λi M O T=>?_)
  have O:(j6 c)[i]?=some M:=by simpa using O
  rw[S8]at O
  grind[J05,skA,absurd,R8,List.mem_of_getElem?]
 ·obtain⟨t,d,z,b,C,m,D,k,v⟩:=F o u q
  have R:=x07 v
  obtain⟨j,s⟩:=List.getElem?_of_mem u
  refine⟨d,t,z,C,m,an (h01 o) (List.mem_of_getElem? (i:=j) (by rw[S8,s];rfl)) d (by rw[R8];exact m),D,by rw[R];exact v,by rw[R];exact V05 S (List.mem_map.2 ⟨_,k,rfl⟩),by rw[R];exact ao b (Q _ k)⟩
 ·rw[List.pairwise_iff_getElem]
  intro i j y s aE q ai d ad x X e
  obtain⟨t,V,z,b,C,m,D,k,v⟩:=F _ (List.getElem_mem y) q
  obtain⟨aH,aA,z',az,O,T,aG,av,aw⟩:=F _ (List.getElem_mem s) ai
  rw[m]at x;cases x
  rw[T]at X;cases X
  rw[x07 v,x07 aw]at e
  subst e
  have:=g0i (f:=λp:Nat×Nat×Obj=>p.2.1) (by have:=S;rw[List.map_map]at this;exact this) k av rfl
  have af:d=ad:=congrArg Prod.fst this
  subst af
  have:=W i j (h01 c[i]) (h01 c[j]) d (by rw[S8,List.getElem?_eq_getElem y];rfl) (by rw[S8,List.getElem?_eq_getElem s];rfl) (by rw[R8];exact m) (by rw[R8];exact T)
  omega
 ·obtain⟨t,V,z,b,C,m,D,k,v⟩:=F o u q
  rw[m]at x;cases x
  rw[x07 v]
  intro e
  obtain⟨_,vs,_,G⟩:=E.box i cs ty y
  rw[e,Q _ k]at G;cases G
 ·obtain⟨t,V,z,b,C,m,D,k,v⟩:=F o u q
  rw[m]at x;cases x
  rw[x07 v]
  intro ae
  obtain⟨_,_,_,_,G⟩:=(E.own i ay e sz by_ nn xs y).block al
  rw[ae,Q _ k]at G;cases G
theorem b0v{ops:Array Oper}{Q:Exit->Act->World->Prop}{Inv:Array Bool->Act->World->Prop}(hB:∀(k:Nat) (o:Oper),ops.toList[k]?=some o->∀ e∈o.after,Region.binds .any e=true->e.on<k)
  (hstep:∀ listed a w j o,listed.size=ops.size->listed.getD j true=false->ops[j]?=some o->(∀ e∈o.after,Region.binds .any e=true->listed.getD e.on false=true)->Inv listed a w ->
   (Region.wanted o (yielded ops a.tmps)=true->o.wp P a w (Inv (listed.setIfInBounds j true)) Q)/\(Region.wanted o (yielded ops a.tmps)=false->Inv (listed.setIfInBounds j true) (a.put o.dst undef) w))
  (hQ:∀ listed a w,(∀ j,j<ops.size->listed.getD j false=true)->Inv listed a w->Q .normal a w) :
  ∀(fuel:Nat) (listed:Array Bool) (a:Act) (w:World),listed.size=ops.size->listed.toList.count true+fuel=ops.size->Inv listed a w->wpAny P .any ops Q fuel listed a w
 |0,listed,a,w,hsz,hc,hi=>by
  have hall':∀ j,j<ops.size->listed.getD j false=true:=λj hj=>by
   have h1:∀ b∈listed.toList,true=b:=List.count_eq_length.1 (by grind)
   have hlt:j<listed.size:=by omega
   have:=h1 listed[j] (by simp)
   simp[hlt,←this]
  refine⟨?_,hQ listed a w hall' hi⟩
  cases hr:Region.ready .any ops listed with
  |nil=>rfl
  |cons j r =>
   grind[Region.ready,List.mem_cons_self,mem_ready,Array.getElem?_eq_some_iff]
 |fuel+1,listed,a,w,hsz,hc,hi=>by
  refine⟨λhr=>hQ listed a w (n0d hB hsz hr) hi,λj hj=>?_⟩
  obtain⟨h1,o,h2,h3⟩:=mem_ready.1 hj
  unfold wpOp
  simp only[h2]
  obtain⟨ht,hf⟩:=hstep listed a w j o hsz h1 h2 h3 hi
  have next:∀ a' w',Inv (listed.setIfInBounds j true) a' w'->wpAny P .any ops Q fuel (listed.setIfInBounds j true) a' w':=λa' w' hi'=>b0v hB hstep hQ fuel _ a' w' (by simpa using hsz) (by rw[count_set h1];omega) hi'
  cases hw:Region.wanted o (yielded ops a.tmps)with
  |true =>
   rw[if_pos rfl]
   exact .inl (Oper.wp_mono next (ht hw))
  |false =>
   grind
theorem r0d{x:Nat}:∀ {l:List Nat},e0n x l=true↔x∈l
 | []=>by simp[e0n]
 |y::r=>by
  simp only[e0n,Bool.or_eq_true,List.mem_cons,r0d (l:=r)]
  simp_all
theorem h0i{ops:List Oper}{i:Nat}:∀ {l:List Nat},O0s ops i l=true->∃ j o,j∈l/\ops[j]?=some o/\w8 i o=true
 | [],h=>by cases h
 |j::r,h=>by
  simp only[O0s,Bool.or_eq_true]at h
  rcases h with h|h
  ·grind[L05,List.mem_cons_self]
  ·obtain⟨c,o,a,b⟩:=h0i h
   grind
theorem X0a{ops:List Oper}{G:Nat->Prop}(a:∀ i j o,G j->ops[j]?=some o->w8 i o=true->G i):∀(n:Nat) (acc:List Nat),(∀ j∈acc,G j)->∀ i∈U0h ops n acc,G i
 |0,acc,h=>h
 |n+1,acc,h=>by
  unfold U0h
  split
  ·rename_i b
   obtain⟨j,o,c,d,e⟩:=h0i b
   exact X0a a n _ λi f=>by
    grind
  ·exact X0a a n acc h
theorem Y0a{d:Nat}:∀ {l:List Oper},y0a d l=false->∀ o∈l,o.dst≠some d
 | [],_,o,h=>nomatch h
 |y::r,a,o,h=>by
  simp only[y0a,Bool.or_eq_false_iff]at a
  rcases List.mem_cons.1 h with rfl|h
  ·intro b
   simp_all
  ·exact Y0a a.2 o h
theorem W06{b:List Nat}{t:Nat}:∀ {l:List Oper} {k:Nat},K05 b t l k=true->∀(i:Nat) (o:Oper),l[i]?=some o->o.dst=some t->k+i∈b
 | [],k,_,i,o,h,_=>by simp at h
 |y::r,k,a,i,o,h,c=>by
  simp only[K05,Bool.and_eq_true]at a
  cases i with
  |zero =>
   simp_all[r0d]
  |succ i =>
   have:=W06 a.2 i o (by simpa using h) c
   grind
theorem G0a{i d:Nat}:∀ {l:List Oper},m07 i d l=true->∀ o∈l,Operand.tmp d∈o.op.operands->w8 i o=true
 | [],_,o,h,_=>nomatch h
 |y::r,b,o,h,c=>by
  simp only[m07,Bool.and_eq_true,Bool.or_eq_true]at b
  rcases List.mem_cons.1 h with rfl|h
  ·rcases b.1 with a|a
   ·have e:f09 d o.op.operands.toList=false:=by simpa using a
    exact absurd (show Operand.tmp d∈o.op.operands.toList by simpa using c) (C06 e)
   ·exact a
  ·exact G0a b.2 o h c
theorem b0g:∀ {l:List Oper},Q0k l=true->∀ o∈l,F0b o.op=false
 | [],_,o,h=>nomatch h
 |y::r,a,o,h=>by
  simp only[Q0k,Bool.and_eq_true]at a
  rcases List.mem_cons.1 h with rfl|h
  ·simpa using a.1
  ·exact b0g a.2 o h
def x03(o:Oper)(f:Operand->Value):Option Value:=match o.op with
 | .extract x k=>match f x with
  | .tuple vs=>vs[k]?
  |_=>none
 | .move x=>some (f x)
 | .assign x=>some (f x)
 | .pick c x y=>match f c with
  | .bool q=>some (if q=true then f x else f y)
  |_=>none
 |_=>none
theorem y05{x:Operand}{a b:Act}(h:∀ t∈e0d x,a.tmps.getD t undef=b.tmps.getD t undef):a.eval x=b.eval x:=by
 cases x with
 |tmp t=>exact h t (List.mem_singleton.2 rfl)
 |const v=>rfl
 |global g=>rfl
 |func f=>rfl
theorem N04{o:Oper}{a:List Nat}(h:x0a o=some a):o.guard=none/\((∃ x k,o.op = .extract x k/\a=e0d x)∨(∃ x,o.op = .move x/\a=e0d x)∨(∃ x,o.op = .assign x/\a=e0d x)∨∃ c x y,o.op = .pick c x y/\a=e0d c++(e0d x++e0d y)):=by
 unfold x0a at h
 split at h
 ·cases h
 ·rename_i b
  refine⟨b,?_⟩
  split at h
  ·rename_i x k e;cases h;exact .inl ⟨x,k,e,rfl⟩
  ·rename_i x e;cases h;exact .inr (.inl ⟨x,e,rfl⟩)
  ·rename_i x e;cases h;exact .inr (.inr (.inl ⟨x,e,rfl⟩))
  ·rename_i c x y e;cases h;exact .inr (.inr (.inr ⟨c,x,y,e,rfl⟩))
  ·cases h
theorem s09{o:Oper}{g:List Nat}{a b:Act}(h:x0a o=some g)(e:∀ t∈g,a.tmps.getD t undef=b.tmps.getD t undef):x03 o a.eval=x03 o b.eval:=by
 obtain⟨_,⟨x,k,d,rfl⟩|⟨x,d,rfl⟩|⟨x,d,rfl⟩|⟨c,x,y,d,rfl⟩⟩:=N04 h
 ·unfold x03;rw[d];simp only[y05 e]
 ·unfold x03;rw[d];simp only[y05 e]
 ·unfold x03;rw[d];simp only[y05 e]
 ·unfold x03;rw[d]
  simp only[y05 (x:=c) λt f=>e t (List.mem_append_left _ f),y05 (x:=x) λt f=>e t (List.mem_append_right _ (List.mem_append_left _ f)),y05 (x:=y) λt f=>e t (List.mem_append_right _ (List.mem_append_right _ f))]
theorem c0g{o:Oper}{f:List Nat}{a:Act}{v:Value}(h:x0a o=some f)(b:x03 o a.eval=some v)(w:World):(execOp a.eval o).run P w = .ok (.value v) w:=by
 obtain⟨_,⟨x,k,e,_⟩|⟨x,e,_⟩|⟨x,e,_⟩|⟨c,x,y,e,_⟩⟩:=N04 h
 ·unfold x03 at b;rw[e]at b
  simp only at b
  split at b
  ·rename_i vs d
   unfold execOp;rw[e]
   simp only[Instr.extract,d,b]
   rfl
  ·cases b
 ·unfold x03 at b;rw[e]at b;cases b
  unfold execOp;rw[e];rfl
 ·unfold x03 at b;rw[e]at b;cases b
  unfold execOp;rw[e];rfl
 ·unfold x03 at b;rw[e]at b
  simp only at b
  split at b
  ·rename_i q d
   cases b
   unfold execOp;rw[e]
   simp only[d,asBool]
   cases q<;>rfl
  ·cases b
theorem b0t{o:Oper}{i:List Nat}{a:Act}{w:World}{f:Act->World->Prop}(h:x0a o=some i)(b:o.wp P a w f λ_ _ _=>False):∃ v,x03 o a.eval=some v/\f (a.put o.dst v) w:=by
 obtain⟨_,⟨x,k,e,_⟩|⟨x,e,_⟩|⟨x,e,_⟩|⟨c,x,y,e,_⟩⟩:=N04 h
 ·cases hx:x03 o a.eval with
  |some v =>
   refine⟨v,rfl,?_⟩
   unfold Oper.wp at b
   rw[c0g h hx w]at b
   exact b
  |none =>
   exfalso
   unfold x03 at hx;rw[e]at hx
   simp only at hx
   unfold Oper.wp execOp at b;rw[e]at b
   simp only[Instr.extract]at b
   split at hx
   ·rename_i vs g
    rw[g]at b
    simp only[hx]at b
    exact b
   ·rename_i d
    generalize a.eval x=z at b d
    cases z<;>first|exact b|exact absurd rfl (d _)
 ·refine⟨_,by unfold x03;rw[e],?_⟩
  unfold Oper.wp execOp at b;rw[e]at b
  exact b
 ·refine⟨_,by unfold x03;rw[e],?_⟩
  unfold Oper.wp execOp at b;rw[e]at b
  exact b
 ·cases hx:x03 o a.eval with
  |some v =>
   refine⟨v,rfl,?_⟩
   unfold Oper.wp at b
   rw[c0g h hx w]at b
   exact b
  |none =>
   exfalso
   unfold x03 at hx;rw[e]at hx
   simp only at hx
   unfold Oper.wp execOp at b;rw[e]at b
   simp only at b
   split at hx
   ·cases hx
   ·rename_i d
    generalize a.eval c=z at b d
    cases z<;>first|exact b|exact absurd rfl (d _)
def d0g(as a:Act)(D:Nat->Prop):Prop:=as.tmps.size=a.tmps.size/\as.defers=a.defers/\∀ d,¬ D d->as.tmps.getD d undef=a.tmps.getD d undef
theorem O04(a:Act)(d u:Nat)(v:Value):(a.put (some d) v).tmps.getD u undef=if d=u/\d<a.tmps.size then v else a.tmps.getD u undef:=by
 by_cases e:d=u
 all_goals simp_all[Act.put,if_neg,Array.getElem?_setIfInBounds_ne]
theorem d0g.put{as a:Act}{b:Nat->Prop}(l:d0g as a b)(d:Option Nat)(v:Value):d0g (as.put d v) (a.put d v) b:=by
 cases d with
 |none=>exact l
 |some d =>
  refine⟨by simp[Act.put,l.1],l.2.1,λu c=>?_⟩
  rw[O04,O04,l.1,l.2.2 u c]
theorem c0t{o:Oper}{as a:Act}{w:World}{k:Nat->Prop}{m:Act->World->Prop}{Q:Exit->Act->World->Prop}(l:d0g as a k)(s:F0b o.op=false)(z:∀ d,Operand.tmp d∈o.op.operands -> ¬ k d)
  (i:o.wp P as w m λ_ _ _=>False):o.wp P a w (λp j=>∃ g,m g j/\d0g g p k/\(∃ v,g=as.put o.dst v∨∃ x,g = { as with defers:=x }.put o.dst v)/\∃ v,p=a.put o.dst v∨∃ x,p = { a with defers:=x }.put o.dst v) Q:=by
 have u:execOp as.eval o=execOp a.eval o:=execOp_congr o (λcs b e=>by rw[e]at s;cases s) λx A=>by
  cases x with
  |tmp d=>exact l.2.2 d (z d A)
  |_=>rfl
 unfold Oper.wp at *
 rw[u]at i
 generalize (execOp a.eval o).run P w=r at i
 have fin:∀(v:Value) (j:World),m (as.put o.dst v) j->∃ g,m g j/\d0g g (a.put o.dst v) k/\(∃ v,g=as.put o.dst v∨∃ x,g = { as with defers:=x }.put o.dst v)/\∃ t,a.put o.dst v=a.put o.dst t∨∃ x,a.put o.dst v = { a with defers:=x }.put o.dst t :=
  λv j h=>⟨_,h,l.put o.dst v,⟨v,.inl rfl⟩,v,.inl rfl⟩
 cases r with
 |ok n j =>
  cases n with
  |value v=>exact fin v j i
  |skip=>exact fin undef j i
  |defer d =>
   refine⟨_,i,d0g.put (as := { as with defers:=d::as.defers }) (a := { a with defers:=d::a.defers }) ⟨l.1,by simp[l.2.1],l.2.2⟩ o.dst undef,⟨_,.inr ⟨_,rfl⟩⟩,_,.inr ⟨_,rfl⟩⟩
  |enter f args =>
   refine Calls.mono i λe q h=>?_
   cases e with
   |returned v=>exact fin v q h
   |panicked c=>exact h.elim
   |outgrown=>obtain⟨_,_,h⟩:=h;exact h.elim
  |row row args=>exact Rows.mono i λv q h=>fin v q h
  |_=>exact i.elim
 |halt y j=>cases y<;>exact i.elim
theorem Sim.like{st:St}{as a:Act}{h0:Hp}{w0:World}{be:Nat->Nat}{oe:Nat->Value}{H h:Hp}{w:World}(b:Sim P h0 w0 be oe H st h as w){c:Nat->Prop}(l:d0g as a c)(e:∀ d,¬ c d):Sim P h0 w0 be oe H st h a w :=
 ⟨b.mv,b.sub,b.box,b.pub,b.own,b.frz,b.bb,b.oo,b.bo,by rw[←l.2.1];exact b.dfr,by rw[←l.1];exact b.siz,λt=>by rw[←l.2.2 t (e t)];exact b.fr t⟩
theorem i0i:∀ {l:List Oper} {k:Nat},R0q k l=true->(∀ o∈l,o.guard=none)/\∀(i:Nat) (o:Oper),l[i+1]?=some o->w8 (k+i) o=true
 | [],k,h=>⟨λo b=>(nomatch b),λi o a=>(nomatch a)⟩
 | [x],k,h=>by
  rw[R0q]at h
  grind
 |x::y::r,k,h=>by
  rw[R0q]at h
  simp only[Bool.and_eq_true]at h
  obtain⟨c,d⟩:=i0i (l:=y::r) h.2
  refine⟨λo b=>?_,λi o a=>?_⟩
  ·grind
  ·cases i with
   |zero=>grind
   |succ i =>
    grind
theorem r0l{o:Oper}{st:St}{K:St->Hp->Prop}{Q:Exit->Act->World->Prop}(p:Sim P h0 w0 be oe H st h a w)(k:J04 P o st h K):
  o.wp P a w (λf j=>∃ st' h' be' oe' e,K st' h'/\Sim P h0 w0 be' oe' e st' h' f j) Q:=by
 refine Oper.wp_mono (λf j n=>?_) (C00 p k)
 obtain⟨av,st',h',v,be',oe',e,l,rfl,q,g,s⟩:=n
 obtain⟨A,t,u,y,z⟩:=R05 (ops := #[o]) (i:=0) (rs:=⟨st',h',[],[]⟩) (ch:=[]) (c:=true) (v:=v) q ⟨(λx b=>nomatch b),(λx b=>nomatch b),(λd ch av m=>nomatch m)⟩ (by rfl) rfl (λ_=>g) (λh=>by cases h) l
 grind
theorem e0c{c d:List Oper}{a:List Nat}:∀ {l:List Oper} {k:Nat},p0f c d a l k=true->∀(i:Nat) (o:Oper),l[i]?=some o->e0n (k+i) a=true∨s0o c d a (k+i) o=true
 | [],k,_,i,o,h=>by simp at h
 |y::r,k,b,i,o,h=>by
  simp only[p0f,Bool.and_eq_true,Bool.or_eq_true]at b
  cases i with
  |zero=>grind
  |succ i =>
   have:=e0c b.2 i o (by simpa using h)
   grind
theorem e0g{c d:List Oper}{b:List Nat}:∀ {e:List Nat},r0o c d b e=true->∀ t∈e,y0a t d=false/\K05 b t c 0=true
 | [],_,t,h=>by cases h
 |x::r,a,t,h=>by
  simp only[r0o,Bool.and_eq_true,Bool.not_eq_true']at a
  rcases List.mem_cons.1 h with rfl|h
  ·exact a.1
  ·exact e0g a.2 t h
theorem m0n{c a:List Oper}{b:List Nat}{i:Nat}{o:Oper}(h:s0o c a b i o=true):∃ e d,x0a o=some e/\o.dst=some d/\y0a d a=false/\(∀ t∈e,y0a t a=false/\K05 b t c 0=true)/\m07 i d a=true:=by
 unfold s0o at h
 split at h
 ·rename_i t d f g
  simp only[Bool.and_eq_true,Bool.not_eq_true']at h
  exact⟨t,d,f,g,h.1.1,e0g h.1.2,h.2⟩
 ·cases h
theorem W0p{ops:Array Oper}{m:Nat}{st:St}{K:St->Hp->Prop}{Q:Exit->Act->World->Prop}(hb:okZ P st.n m ops.toList=true)(he:evT P (J04 P) m ops.toList st h K)
  (hQ:∀ a w st h be oe H,K st h->Sim P h0 w0 be oe H st h a w->Q .normal a w) (s:Sim P h0 w0 be oe H st h a w):wpAny P .any ops Q ops.size (Array.replicate ops.size false) a w:=by
 simp only[okZ,y04,f03,Bool.and_eq_true,Bool.or_eq_true]at hb
 obtain⟨⟨⟨⟨⟨⟨⟨b1,b2⟩,b3⟩,b4⟩,b5⟩,b6⟩,b7⟩,b8⟩:=hb
 generalize hpre:ops.toList.take m=pre at b1 b2 b3 b4 b5 b8
 obtain⟨hn,hD⟩:=T05 b1
 have hB:∀(k:Nat) (o:Oper),(j6 pre)[k]?=some o->∀ e∈o.after,Region.binds .any e=true->e.on<k:=λk o hk e he' hb=>by
  have:=o04 b2 k o hk e he' hb
  omega
 have hdep:=b08 b3
 have hgd:=d08 b4
 have hal:=m0l b5
 have hBB:∀(k:Nat) (o:Oper),ops.toList[k]?=some o->∀ e∈o.after,Region.binds .any e=true->e.on<k:=λk o hk e he' hb=>by
  have:=o04 b6 k o hk e he' hb
  omega
 obtain⟨sq1,sq2⟩:=i0i b7
 unfold evT at he
 rw[hpre]at he
 obtain⟨A,Lf,Bf,_,_,hP,hall,hfin⟩:=Z0f (ops:=j6 pre) hD (j6 pre) 0 [] [] (λ_=>([],true,.pu .dead)) (λj=>by simp) (by simp)
  ⟨λt x h=>(by cases h),λi oi d hi=>by omega,λi hi=>by omega,λx hx=>(by cases hx)⟩ he
 have hpl:pre.length=min m ops.size:=by rw[←hpre];simp
 have hpg:∀ j,j<m->ops.toList[j]?=pre[j]?:=λj hj=>by rw[←hpre,List.getElem?_take,if_pos hj]
 have hdg:∀ j,(ops.toList.drop m)[j]?=ops.toList[m+j]?:=λj=>List.getElem?_drop
 have hsr:∀(i:Nat) (oi:Oper) (d:Nat),(j6 pre)[i]?=some oi->oi.dst=some d->skA pre i=true->∀ o'∈j6 pre,Operand.tmp d ∉ o'.op.operands:=λi oi d q1 q2 q3 o' ho' hc=>by
  rw[S8]at q1
  unfold skA at q3
  cases e:pre[i]? with
  |none=>rw[e]at q1;cases q1
  |some o0 =>
   rw[e]at q1 q3
   cases q1
   obtain⟨t,d1,z,k1,k2,k3,k4,k5⟩:=hal o0 (List.mem_of_getElem? e) q3
   rw[R8,k3]at q2;cases q2
   obtain⟨j,hj⟩:=List.getElem?_of_mem ho'
   rw[S8]at hj
   cases e2:pre[j]? with
   |none=>rw[e2]at hj;cases hj
   |some o1 =>
    rw[e2]at hj;cases hj
    exact k5 o1 (List.mem_of_getElem? e2) (q0l hc)
 have hsb:∀ i,skA pre i=true->(A i).2.2 = .pu (.val undef):=λi q3=>by
  unfold skA at q3
  cases e:pre[i]? with
  |none=>rw[e]at q3;cases q3
  |some o0 =>
   rw[e]at q3
   obtain⟨t,d1,z,k1,k2,k3,k4,k5⟩:=hal o0 (List.mem_of_getElem? e) q3
   obtain⟨Lj,bj,_,_,_,_,_,hu⟩:=hall i (h01 o0) (Nat.zero_le _) (by rw[S8,e];rfl)
   refine hu _ ?_
   unfold h01
   rw[k1]
   rfl
 let Rest:Nat->Act->World->Prop:=λk a w=>∃ st' h' be oe H,doT (J04 P) (ops.toList.drop k) st' h' K/\Sim P h0 w0 be oe H st' h' a w
 let ml:=U0h ops.toList m [m]
 let Dl:Array Bool->Nat->Prop:=λlisted u=>∃(i:Nat) (o:Oper),pre[i]?=some o/\listed.getD i false=false/\o.dst=some u
 let Lat:Array Bool->Act->Act->Prop:=λlisted as a=>∀(i:Nat) (o:Oper) (t:List Nat) (d:Nat),pre[i]?=some o->listed.getD i false=false->x0a o=some t->o.dst=some d->x03 o a.eval=some (as.tmps.getD d undef)
 let Inv:Array Bool->Act->World->Prop:=λlisted a w=>(∀(j:Nat) (o:Oper),ops[j]?=some o->listed.getD j false=true->∀ e∈o.after,Region.binds .any e=true->listed.getD e.on false=true) /\
  (((∀ k,m<=k->listed.getD k false=false)/\q0d P h0 w0 pre st h A listed a w)∨∃ k as,m<k/\k<=ops.size/\(∀ i,i<k->listed.getD i false=true∨(i<m/\i ∉ ml))/\(∀ i,k<=i->listed.getD i false=false)/\Rest k as w/\d0g as a (Dl listed)/\Lat listed as a)
 have lateOf:m<ops.size->∀(i:Nat) (o:Oper),pre[i]?=some o->i ∉ ml->∃ t d,x0a o=some t/\o.dst=some d/\y0a d (ops.toList.drop m)=false/\(∀ x∈t,y0a x (ops.toList.drop m)=false/\K05 ml x pre 0=true)/\m07 i d (ops.toList.drop m)=true:=λhm i o hi hml=>by
  rcases b8 with h|h
  ·exfalso
   have:ops.toList.drop m = []:=by
    cases e:ops.toList.drop m with
    |nil=>rfl
    |cons x r=>rw[e]at h;cases h
   have:=List.drop_eq_nil_iff.1 this
   simp at this;omega
  ·have:=e0c h.1 i o hi
   rw[Nat.zero_add]at this
   rcases this with h1|h1
   ·exact absurd (r0d.1 h1) hml
   ·exact m0n h1
 have noselT:m<ops.size->Q0k (ops.toList.drop m)=true:=λhm=>by
  rcases b8 with h|h
  ·exfalso
   have:ops.toList.drop m = []:=by
    cases e:ops.toList.drop m with
    |nil=>rfl
    |cons x r=>rw[e]at h;cases h
   have:=List.drop_eq_nil_iff.1 this
   simp at this;omega
  ·exact h.2
 have preD:∀(i j:Nat) (oi oj:Oper) (d:Nat),pre[i]?=some oi->pre[j]?=some oj->oi.dst=some d->oj.dst=some d->i=j:=λi j oi oj d h1 h2 h3 h4 =>
  hD i j (h01 oi) (h01 oj) d (by rw[S8,h1];rfl) (by rw[S8,h2];rfl) (by rw[R8];exact h3) (by rw[R8];exact h4)
 have preN:∀(i:Nat) (o:Oper) (d:Nat),pre[i]?=some o->o.dst=some d->d<st.n:=λi o d h1 h2 =>
  hn (h01 o) (List.mem_of_getElem? (i:=i) (by rw[S8,h1];rfl)) d (by rw[R8];exact h2)
 have unl:∀ {listed:Array Bool} {j:Nat},listed.getD j true=false->listed.getD j false=false/\j<listed.size:=λ{listed j} hj=>by
  rcases Nat.lt_or_ge j listed.size with h|h
  ·simp[h]at hj ⊢;exact hj
  ·simp[Array.getElem?_eq_none h]at hj
 have allpre:∀ {listed:Array Bool} {a:Act} {w:World},(∀ j,j<pre.length->listed.getD j false=true)->q0d P h0 w0 pre st h A listed a w->Rest m a w:=λ{listed a w} hl hi =>
  a0t (K:=λst h=>doT (J04 P) (ops.toList.drop m) st h K) hD hn hsb hal hP hfin hl hi
 have tail:∀ {Q:Exit->Act->World->Prop} {k:Nat} {o:Oper} {a:Act} {w:World},ops[k]?=some o->Rest k a w->o.wp P a w (Rest (k+1)) Q:=λ{Q k o a w} ho hr=>by
  obtain⟨st',h',be,oe,H,hd,s'⟩:=hr
  have hk:k<ops.toList.length:=by simpa using (Array.getElem?_eq_some_iff.1 ho).1
  have e:ops.toList.drop k=o::ops.toList.drop (k+1):=by
   rw[List.drop_eq_getElem_cons hk]
   congr 1
   have:ops.toList[k]?=some o:=by simpa using ho
   rw[List.getElem?_eq_getElem hk]at this
   exact oJ this
  rw[e]at hd
  exact r0l s' hd
 have virt:m<ops.size->∀ {listed:Array Bool} {a:Act} {w:World},listed.size=ops.size->(∀ i,i<m->i∈ml->listed.getD i false=true)->q0d P h0 w0 pre st h A listed a w ->
   ∀ k,k<=pre.length->∃ l2 as,l2.size=ops.size/\(∀ i,i<k->l2.getD i false=true)/\(∀ i,k<=i->l2.getD i false=listed.getD i false)/\q0d P h0 w0 pre st h A l2 as w /\
    d0g as a (λu=>∃(i:Nat) (o:Oper),i<k/\pre[i]?=some o/\listed.getD i false=false/\o.dst=some u) /\
    ∀(i:Nat) (o:Oper) (t:List Nat) (d:Nat),i<k->pre[i]?=some o->listed.getD i false=false->x0a o=some t->o.dst=some d->x03 o a.eval=some (as.tmps.getD d undef):=by
  intro hmN listed a w hsz hml hA k
  induction k with
  |zero=>exact λ_=>⟨listed,a,hsz,λi hi=>by omega,λi _=>rfl,hA,⟨rfl,rfl,λ_ _=>rfl⟩,λi o t d hi=>by omega⟩
  |succ k ih =>
   intro hk
   obtain⟨l2,as,z1,z2,z3,z4,z5,z6⟩:=ih (by omega)
   cases hlk:listed.getD k false with
   |true =>
    refine⟨l2,as,z1,λi hi=>?_,λi hi=>z3 i (by omega),z4,⟨z5.1,z5.2.1,λu hu=>z5.2.2 u λ⟨i,o,q1,q2⟩=>hu ⟨i,o,by omega,q2⟩⟩,λi o t d hi q1 q2 q3 q4=>?_⟩
    ·by_cases e:i=k
     ·subst e;rw[z3 i (Nat.le_refl _)];exact hlk
     ·exact z2 i (by omega)
    ·have:i≠k:=λe=>by subst e;rw[hlk]at q2;cases q2
     exact z6 i o t d (by omega) q1 q2 q3 q4
   |false =>
    obtain⟨o,ho⟩:∃ o,pre[k]?=some o:=⟨pre[k],List.getElem?_eq_getElem (by omega)⟩
    have hkm:k<m:=by omega
    have hkml:k ∉ ml:=λh=>by rw[hml k hkm h]at hlk;cases hlk
    obtain⟨t,d,y1,y2,y3,y5,y6⟩:=lateOf hmN k o ho hkml
    have hg:=(N04 y1).1
    have hl2k:l2.getD k false=false:=by rw[z3 k (Nat.le_refl _)];exact hlk
    have hks:k<l2.size:=by rw[z1];omega
    have hun2:l2.getD k true=false:=by
     simp[hks]at hl2k ⊢;exact hl2k
    have hoL:ops.toList[k]?=some o:=by rw[hpg k hkm];exact ho
    have st1:=(N0t (Q:=λ_ _ _=>False) hD hn hB hdep hgd hP (λj o ho=>hall j o (Nat.zero_le _) ho) hsr hsb hal hun2 ho (λe he1 he2=>z2 e.on (hBB k o hoL e he1 he2)) z4).1 (by unfold Region.wanted;rw[hg])
    obtain⟨v,v1,v2⟩:=b0t y1 st1
    have hasz:as.tmps.size=st.n:=by
     obtain⟨_,_,_,_,_,_,iu,_,_⟩:=z4
     obtain⟨_,_,_,_,_,s,_⟩:=iu
     exact s.siz
    have htne:∀ x∈t,¬ ∃(i:Nat) (o:Oper),i<k/\pre[i]?=some o/\listed.getD i false=false/\o.dst=some x:=λx hx ⟨i,o',q1,q2,q3,q4⟩=>by
     have:=W06 (y5 x hx).2 i o' q2 q4
     rw[Nat.zero_add]at this
     rw[hml i (by omega) this]at q3;cases q3
    rw[s09 y1 λx hx=>z5.2.2 x (htne x hx)]at v1
    rw[y2]at v2
    refine⟨l2.setIfInBounds k true,as.put (some d) v,by simpa using z1,λi hi=>?_,λi hi=>?_,v2,⟨by simp[Act.put,z5.1],z5.2.1,λu hu=>?_⟩,λi o' t' d' hi q1 q2 q3 q4=>?_⟩
    ·by_cases e:k=i
     ·subst e;simp[hks]
     ·rw[getD_set_ne false e];exact z2 i (by omega)
    ·rw[getD_set_ne false (by omega)];exact z3 i (by omega)
    ·rw[O04,if_neg λe=>hu ⟨k,o,by omega,ho,hlk,by rw[y2,e.1]⟩]
     exact z5.2.2 u λ⟨i,o',q1,q2⟩=>hu ⟨i,o',by omega,q2⟩
    ·rw[O04]
     by_cases e:i=k
     ·subst e
      rw[ho]at q1;cases q1
      rw[y1]at q3;cases q3
      rw[y2]at q4;cases q4
      rw[if_pos ⟨rfl,by rw[hasz];exact preN i o d ho y2⟩]
      exact v1
     ·rw[if_neg λh=>e (preD i k o' o d' q1 ho q4 (by rw[y2,h.1]))]
      exact z6 i o' t' d' (by omega) q1 q2 q3 q4
 refine b0v (Inv:=Inv) hBB (λlisted a w j o hsz hun ho hrd hi=>?_) (λlisted a w hl hi=>?_) ops.size _ a w (by simp) (by simp[List.count_replicate]) ⟨λj o _ h=>?_,.inl ⟨λk _=>?_,q0d.start s⟩⟩
 rotate_left 2
 ·simp[Array.getElem?_replicate]at h
  split at h<;>cases h
 ·simp[Array.getElem?_replicate]
  split<;>simp
 rotate_left 1
 ·rcases hi.2 with⟨hm,hA⟩|⟨k,as,k1,k2,k3,k4,hr,lk,lt⟩
  ·have hms:ops.size<=m:=by
    rcases Nat.lt_or_ge m ops.size with h|h
    ·have:=hm m (Nat.le_refl _)
     rw[hl m h]at this;cases this
    ·exact h
   obtain⟨st',h',be,oe,H,hd,s'⟩:=allpre (λj hj=>hl j (by omega)) hA
   rw[List.drop_eq_nil_of_le (by simpa using hms)]at hd
   exact hQ a w st' h' be oe H hd s'
  ·have hk:k=ops.size:=by
    rcases Nat.lt_or_ge k ops.size with h|h
    ·have:=k4 k (Nat.le_refl _)
     rw[hl k h]at this;cases this
    ·omega
   subst hk
   obtain⟨st',h',be,oe,H,hd,s'⟩:=hr
   rw[List.drop_eq_nil_of_le (by simp)]at hd
   refine hQ a w st' h' be oe H hd (s'.like lk λu ⟨i,o,q1,q2,q3⟩=>?_)
   have:=(List.getElem?_eq_some_iff.1 q1).1
   rw[hl i (by omega)]at q2;cases q2
 ·obtain⟨hcl,hi⟩:=hi
  obtain⟨hjf,hjs⟩:=unl hun
  have hcl':∀(i:Nat) (oi:Oper),ops[i]?=some oi->(listed.setIfInBounds j true).getD i false=true->∀ e∈oi.after,Region.binds .any e=true->(listed.setIfInBounds j true).getD e.on false=true:=λi oi h1 h2 e he1 he2=>by
   by_cases hij:j=i
   ·subst hij
    rw[ho]at h1;cases h1
    exact getD_set_true (hrd e he1 he2)
   ·rw[getD_set_ne false hij]at h2
    exact getD_set_true (hcl i oi h1 h2 e he1 he2)
  have hoL:ops.toList[j]?=some o:=by simpa using ho
  have hjlt:j<ops.size:=(Array.getElem?_eq_some_iff.1 ho).1
  by_cases hjm:j<m
  ·rcases hi with⟨hm,hA⟩|⟨k,as,k1,k2,k3,k4,hr,lk,lt⟩
   ·have hop:pre[j]?=some o:=by rw[←hpg j hjm];exact hoL
    have st1:=N0t (Q:=Q) hD hn hB hdep hgd hP (λj o ho=>hall j o (Nat.zero_le _) ho) hsr hsb hal hun hop hrd hA
    have hyd:Region.wanted o (yielded ops a.tmps)=Region.wanted o (yielded (j6 pre).toArray a.tmps):=by
     unfold Region.wanted
     cases hg:o.guard with
     |none=>rfl
     |some p =>
      obtain⟨i,wv⟩:=p
      obtain⟨e,he1,he2,he3⟩:=r7 (hgd (h01 o) (List.mem_of_getElem? (i:=j) (by rw[S8,hop];rfl)) i wv (by rw[p0l];exact hg))
      rw[o0l]at he1
      have hlt:=hBB j o hoL e he1 he2
      rw[he3]at hlt
      have hig:=hpg i (by omega)
      have:yielded ops a.tmps i=yielded (j6 pre).toArray a.tmps i:=by
       unfold yielded
       have e1:ops[i]?=pre[i]?:=by rw[←hig];simp
       have e2:(j6 pre).toArray[i]?=(pre[i]?).map h01:=by simp[S8]
       rw[e1,e2]
       cases pre[i]? with
       |none=>rfl
       |some o0=>simp[R8]
      simp only[this]
    rw[hyd]
    have up:∀ a' w',q0d P h0 w0 pre st h A (listed.setIfInBounds j true) a' w'->Inv (listed.setIfInBounds j true) a' w':=λa' w' hx=>⟨hcl',.inl ⟨λk hk=>by rw[getD_set_ne false (by omega)];exact hm k hk,hx⟩⟩
    exact⟨λhw=>Oper.wp_mono up (st1.1 hw),λhw=>up _ _ (st1.2 hw)⟩
   ·have hop:pre[j]?=some o:=by rw[←hpg j hjm];exact hoL
    have hjml:j ∉ ml:=by
     rcases k3 j (by omega)with h|h
     ·rw[hjf]at h;cases h
     ·exact h.2
    obtain⟨t,d,y1,y2,y3,y5,y6⟩:=lateOf (by omega) j o hop hjml
    have hg:=(N04 y1).1
    refine⟨λ_=>?_,λhw=>by unfold Region.wanted at hw;rw[hg]at hw;cases hw⟩
    unfold Oper.wp
    rw[c0g y1 (lt j o t d hop hjf y1 y2) w]
    refine⟨hcl',.inr ⟨k,as,k1,k2,λi hi=>?_,λi hi=>?_,hr,⟨by rw[y2];simp[Act.put,lk.1],by rw[y2];exact lk.2.1,λu hu=>?_⟩,λi o' t' d' q1 q2 q3 q4=>?_⟩⟩
    ·rcases k3 i hi with h|h
     ·exact .inl (getD_set_true h)
     ·exact .inr h
    ·rw[getD_set_ne false (by omega)];exact k4 i hi
    ·rw[y2,O04]
     by_cases e:d=u
     ·subst e
      by_cases hlt:d<a.tmps.size
      ·rw[if_pos ⟨rfl,hlt⟩]
      ·rw[if_neg λh=>hlt h.2]
       have e1:∀(x:Act),¬ d<x.tmps.size->x.tmps.getD d undef=undef:=λx hx=>by
        simp[Array.getElem?_eq_none (Nat.le_of_not_lt hx)]
       rw[e1 a hlt,e1 as (by rw[lk.1];exact hlt)]
     ·rw[if_neg λh=>e h.1]
      refine lk.2.2 u λ⟨i,o',q1,q2,q3⟩=>?_
      by_cases e2:j=i
      ·subst e2
       rw[hop]at q1;cases q1
       rw[y2]at q3;cases q3
       exact e rfl
      ·exact hu ⟨i,o',q1,by rw[getD_set_ne false e2];exact q2,q3⟩
    ·have e2:j≠i:=λe2=>by subst e2;simp[hjs]at q2
     rw[getD_set_ne false e2]at q2
     have hi':=(List.getElem?_eq_some_iff.1 q1).1
     have himl:i ∉ ml:=by
      rcases k3 i (by omega)with h|h
      ·rw[q2]at h;cases h
      ·exact h.2
     obtain⟨t2,d2,x1,x2,x3,x5,x6⟩:=lateOf (by omega) i o' q1 himl
     rw[q3]at x1;cases x1
     rw[←lt i o' t' d' q1 q2 q3 q4]
     refine s09 q3 λx hx=>?_
     rw[y2,O04,if_neg λh=>?_]
     have:=W06 (x5 x hx).2 j o hop (by rw[y2,h.1])
     rw[Nat.zero_add]at this
     exact hjml this
  ·have hg:o.guard=none:=sq1 o (List.mem_of_getElem? (i:=j-m) (by rw[hdg];rw[show m+(j-m)=j by omega];exact hoL))
   have prev:m<j->listed.getD (j-1) false=true:=λhlt=>by
    have:=sq2 (j-m-1) o (by rw[hdg];rw[show m+(j-m-1+1)=j by omega];exact hoL)
    obtain⟨e,he1,he2,he3⟩:=r7 this
    have:=hrd e he1 he2
    rw[he3,show m+(j-m-1)=j-1 by omega]at this
    exact this
   refine⟨λ_=>?_,λhw=>by unfold Region.wanted at hw;rw[hg]at hw;cases hw⟩
   have hmt:o∈ops.toList.drop m:=List.mem_of_getElem? (i:=j-m) (by rw[hdg,show m+(j-m)=j by omega];exact hoL)
   have go:∀ as,(∀ i,i<j->listed.getD i false=true∨(i<m/\i ∉ ml))->(∀ i,j<=i->listed.getD i false=false)->Rest j as w->d0g as a (Dl listed)->Lat listed as a->o.wp P a w (Inv (listed.setIfInBounds j true)) Q:=λas q1 q2 hr lk lt=>by
    have hjD:∀ u,Dl (listed.setIfInBounds j true) u↔Dl listed u:=λu=>by
     constructor
     ·rintro⟨i,o',p1,p2,p3⟩
      have:=(List.getElem?_eq_some_iff.1 p1).1
      rw[getD_set_ne false (by omega)]at p2
      exact⟨i,o',p1,p2,p3⟩
     ·rintro⟨i,o',p1,p2,p3⟩
      have:=(List.getElem?_eq_some_iff.1 p1).1
      exact⟨i,o',p1,by rw[getD_set_ne false (by omega)];exact p2,p3⟩
    have lateU:∀(i:Nat) (o':Oper),pre[i]?=some o'->listed.getD i false=false->i ∉ ml:=λi o' p1 p2=>by
     have:=(List.getElem?_eq_some_iff.1 p1).1
     rcases q1 i (by omega)with h|h
     ·rw[p2]at h;cases h
     ·exact h.2
    refine Oper.wp_mono (λa' w' hx=>?_) (c0t (Q:=Q) lk (b0g (noselT (by omega)) o hmt) (λu hu ⟨i,o',p1,p2,p3⟩=>?_) (tail (Q:=λ_ _ _=>False) ho hr))
    ·obtain⟨as',hr',lk',⟨v1,hv1⟩,v2,hv2⟩:=hx
     have e1:∀ u,o.dst≠some u->as'.tmps.getD u undef=as.tmps.getD u undef:=λu hu=>by
      cases hd:o.dst with
      |none =>
       rw[hd]at hv1
       rcases hv1 with h|⟨x,h⟩<;>rw[h]<;>rfl
      |some d =>
       rw[hd]at hv1 hu
       rcases hv1 with h|⟨x,h⟩<;>rw[h,O04,if_neg λh=>hu (by rw[h.1])]
     have e2:∀ u,o.dst≠some u->a'.tmps.getD u undef=a.tmps.getD u undef:=λu hu=>by
      cases hd:o.dst with
      |none =>
       rw[hd]at hv2
       rcases hv2 with h|⟨x,h⟩<;>rw[h]<;>rfl
      |some d =>
       rw[hd]at hv2 hu
       rcases hv2 with h|⟨x,h⟩<;>rw[h,O04,if_neg λh=>hu (by rw[h.1])]
     refine⟨hcl',.inr ⟨j+1,as',by omega,by omega,λi hi=>?_,λi hi=>?_,hr',⟨lk'.1,lk'.2.1,λu hu=>lk'.2.2 u λh=>hu ((hjD u).2 h)⟩,λi o' t d p1 p2 p3 p4=>?_⟩⟩
     ·by_cases e:j=i
      ·subst e;left;simp[hjs]
      ·rw[getD_set_ne false e];exact q1 i (by omega)
     ·rw[getD_set_ne false (by omega)];exact q2 i (by omega)
     ·have hi':=(List.getElem?_eq_some_iff.1 p1).1
      rw[getD_set_ne false (by omega)]at p2
      obtain⟨t2,d2,x1,x2,x3,x5,x6⟩:=lateOf (by omega) i o' p1 (lateU i o' p1 p2)
      rw[p3]at x1;cases x1
      rw[p4]at x2;cases x2
      rw[e1 d (Y0a x3 o hmt),s09 p3 λx hx=>e2 x (Y0a (x5 x hx).1 o hmt)]
      exact lt i o' t d p1 p2 p3 p4
    ·obtain⟨t2,d2,x1,x2,x3,x5,x6⟩:=lateOf (by omega) i o' p1 (lateU i o' p1 p2)
     rw[p3]at x2;cases x2
     obtain⟨e,he1,he2,he3⟩:=r7 (G0a x6 o hmt hu)
     have:=hrd e he1 he2
     rw[he3,p2]at this;cases this
   rcases hi with⟨hm,hA⟩|⟨k,as,k1,k2,k3,k4,hr,lk,lt⟩
   ·have hjm':j=m:=by
     rcases Nat.lt_or_ge m j with h|h
     ·have:=prev h
      rw[hm (j-1) (by omega)]at this;cases this
     ·omega
    subst hjm'
    have hml:∀ i,i<j->i∈ml->listed.getD i false=true:=λi hi hmi=>by
     have:=X0a (G:=λi=>i=j∨listed.getD i false=true) (ops:=ops.toList) (λi' j' o' hG ho' he'=>?_) j [j] (λx hx => .inl (by simpa using hx)) i hmi
     ·rcases this with h|h
      ·omega
      ·exact h
     ·obtain⟨e,he1,he2,he3⟩:=r7 he'
      rw[←he3]
      right
      rcases hG with rfl|hG
      ·rw[hoL]at ho';cases ho'
       exact hrd e he1 he2
      ·exact hcl j' o' (by simpa using ho') hG e he1 he2
    obtain⟨l2,as,z1,z2,z3,z4,z5,z6⟩:=virt hjlt (by assumption) hml hA pre.length (Nat.le_refl _)
    refine go as (λi hi=>?_) hm (allpre (λi hi=>z2 i hi) z4) ⟨z5.1,z5.2.1,λu hu=>z5.2.2 u λ⟨i,o',p1,p2⟩=>hu ⟨i,o',p2⟩⟩ (λi o' t d p1 p2 p3 p4=>z6 i o' t d (List.getElem?_eq_some_iff.1 p1).1 p1 p2 p3 p4)
    by_cases h:i∈ml
    ·exact .inl (hml i hi h)
    ·exact .inr ⟨hi,h⟩
   ·have hjk:j=k:=by
     have h1:k<=j:=by
      rcases Nat.lt_or_ge j k with h|h
      ·rcases k3 j h with h2|h2
       ·rw[hjf]at h2;cases h2
       ·omega
      ·exact h
     rcases Nat.lt_or_ge k j with h|h
     ·have:=prev (by omega)
      rw[k4 (j-1) (by omega)]at this;cases this
     ·omega
    subst hjk
    exact go as k3 k4 hr lk lt
end
section
variable {P:Program} {h0:Hp} {w0:World} {Q:Exit->Act->World->Prop} {ops:Array Oper} {K:RS->Prop}
theorem s0l{be:Nat->Nat}{oe:Nat->Value}{H:Hp}{rs:RS}{a:Act}{w:World}{o:Oper}{i:Nat}{e:RS->Prop}(f:Sim P h0 w0 be oe H rs.st rs.h a w)(r:n09 ops be oe rs a i)(m:ops[i]?=some o)
  {ch:List (Nat×Bool)} {c:Bool} (j:U00 rs.bs o.guard=some ch) (d:cB rs.bs ch=some c) (k:evG P o ch c rs λav=>E0f o.dst i ch av rs e) :
  ∃ v b,e b/\n09 ops be oe b (a.put o.dst v) (i+1)/\Sim P h0 w0 be oe H b.st b.h (a.put o.dst v) w/\Region.wanted o (yielded ops a.tmps)=c /\
   (c=true->∀ g,CW H w g->o.quietAt P a (CW H w) g v)/\(c=false->v=undef):=by
 obtain⟨av,l,n⟩:=P0p f r d k
 have p:=O0p r j d
 cases c with
 |true =>
  grind[R05]
 |false =>
  obtain⟨b,q,_,s,t⟩:=R05 (v:=undef) f r m d (λh=>by cases h) (λ_=>rfl) l
  grind
theorem D06(f:∀ rs a w be oe H,K rs->Sim P h0 w0 be oe H rs.st rs.h a w->Q .normal a w):∀(l:List Oper) (i:Nat) (rs:RS) (a:Act) (w:World) (be:Nat->Nat) (oe:Nat->Value) (H:Hp),
  (∀ j,l[j]?=ops[i+j]?)->Sim P h0 w0 be oe H rs.st rs.h a w->n09 ops be oe rs a i->l0e P l i rs K->wpList P ops Q l a w
 | [],i,rs,a,w,be,oe,H,_,d,_,b=>f rs a w be oe H b d
 |o::l,i,rs,a,w,be,oe,H,y,d,r,b=>by
  have z:ops[i]?=some o:=by simpa using (y 0).symm
  have s:∀ j,l[j]?=ops[i+1+j]?:=λj=>by have:=y (j+1);grind
  have O:∀ ch c,U00 rs.bs o.guard=some ch->cB rs.bs ch=some c->(evG P o ch c rs λav=>E0f o.dst i ch av rs λrs=>l0e P l (i+1) rs K)->wpList P ops Q (o::l) a w:=by
   intro ch c G F b
   obtain⟨v,p,k,A,n,u,L,t⟩:=s0l d r z G F b
   unfold wpList
   rw[u]
   cases c with
   |false =>
    rw[if_neg (by simp),←t rfl]
    exact D06 f l (i+1) p _ w be oe H s n A k
   |true =>
    rw[if_pos rfl]
    refine .inl (Oper.wp_of_quiet (C:=CW H w) (K:=λq=>q=a.put o.dst v) (T2.refl d.mv.vis) (λq x m e=>?_) ⟨v,L rfl,rfl⟩)
    subst e
    exact D06 f l (i+1) p _ x be oe H s (n.still (hf:=H) (λ_ _ h=>h) m) A k
  simp only[l0e]at b
  split at b
  ·rename_i I R
   have u:Region.wanted o (yielded ops a.tmps)=true:=by unfold Region.wanted;rw[I]
   unfold wpList
   rw[if_pos u]
   refine .inl (Oper.wp_mono (λq x t=>?_) (C00 (Q:=Q) d b))
   obtain⟨av,st',h',v,be',oe',D,J,rfl,N,g,E⟩:=t
   obtain⟨p,k,_,n,M⟩:=R05 (rs := { rs with st:=st',h:=h' }) (ch:=[]) (c:=true) (v:=v) N (r.grow E) z rfl (λ_=>g) (λh=>by cases h) J
   exact D06 f l (i+1) p _ x be' oe' D s M n k
  grind
theorem j0i{be:Nat->Nat}{oe:Nat->Value}{H:Hp}{w:World}(f:∀ rs a w be oe H,K rs->Sim P h0 w0 be oe H rs.st rs.h a w->Q .normal a w):∀(l:List Oper) (i:Nat) (rs:RS) (a:Act),
  (∀ j,l[j]?=ops[i+j]?)->Sim P h0 w0 be oe H rs.st rs.h a w->n09 ops be oe rs a i->evQ P l i rs K->wpQuiet P ops (CW H w) (λk=>∀ d,CW H w d->Q .normal k d) l a
 | [],i,rs,a,_,e,_,b=>λd m=>f rs a d be oe H b (e.still (hf:=H) (λ_ _ h=>h) m)
 |o::l,i,rs,a,g,e,r,b=>by
  have s:ops[i]?=some o:=by simpa using (g 0).symm
  have q:∀ j,l[j]?=ops[i+1+j]?:=λj=>by have:=g (j+1);grind
  simp only[evQ]at b
  split at b
  ·rename_i ch p
   split at b
   ·rename_i c n
    obtain⟨v,C,y,z,A,u,t,D⟩:=s0l e r s p n b
    have x:=j0i f l (i+1) C _ q A z y
    unfold wpQuiet
    rw[u]
    cases c with
    |false=>grind
    |true=>rw[if_pos rfl];exact⟨v,t rfl,x⟩
   ·exact b.elim
  ·exact b.elim
theorem n09.init{be:Nat->Nat}{oe:Nat->Value}{st:St}{h:Hp}{a:Act}:n09 ops be oe ⟨st,h,[],[]⟩ a 0 :=
 ⟨(λx b=>nomatch b),(λx b=>nomatch b),(λd ch av c=>nomatch c)⟩
def f0g(P:Program)(h0:Hp)(w0:World)(Q:Ex->St->Hp->Prop):Exit->Act->World->Prop
 | .normal,a,w=>∃ st h be oe H,Q .normal st h/\Sim P h0 w0 be oe H st h a w
 | .exit i,a,w=>∃ st h be oe H,Q (.exit i) st h/\Sim P h0 w0 be oe H st h a w
 | .ret,a,w=>∃ st h be oe H,Q .ret st h/\Sim P h0 w0 be oe H st h a w
 |_,_,_=>False
variable {be:Nat->Nat} {oe:Nat->Value} {H:Hp} {st:St} {h:Hp} {a:Act} {w:World}
theorem S0j{Q:Ex->St->Hp->Prop}{id:Nat}{d:Bool}(b:Sim P h0 w0 be oe H st h a w)(f:ev P (.region id ops d) Q st h):(Code.region id ops d).wp P (f0g P h0 w0 Q) a w:=by
 cases d with
 |false =>
  simp only[ev]at f
  split at f
  ·exact wp_region_list ((l0l (h0:=h0) (w0:=w0) f.1 f.2 λa w st h be oe H l b=>⟨st,h,be,oe,H,l,b⟩).2 b)
  ·exact wp_region_list (D06 (K:=λrs=>Q .normal rs.st rs.h) (λrs a w be oe H l b=>⟨rs.st,rs.h,be,oe,H,l,b⟩) _ 0 ⟨st,h,[],[]⟩ a w be oe H (λj=>by simp) b n09.init f)
 |true =>
  rcases f with⟨⟨p,n⟩,f⟩|f|f|⟨⟨p,n⟩,f⟩|⟨m,⟨p,n⟩,f⟩
  ·refine wp_region_quiet (C:=CW H w) p n (T2.drawn b.mv.vis _ (by grind)) ?_
   exact j0i (K:=λrs=>Q .normal rs.st rs.h) (λrs a w be oe H l b=>⟨rs.st,rs.h,be,oe,H,l,b⟩) _ 0 ⟨st,h,[],[]⟩ a (λj=>by simp) b n09.init f
  ·exact f.elim
  ·split at f
   ·obtain⟨⟨p,n⟩,f⟩:=f
    exact wp_region_any p (S0p (b.still (hf:=H) (λ_ _ h=>h) (T2.drawn b.mv.vis _ (by grind))) n f λa w st h be oe H l b=>⟨st,h,be,oe,H,l,b⟩)
   ·rename_i o J
    obtain⟨⟨p,n⟩,f⟩:=f
    simp only[Bool.and_eq_true]at n
    obtain⟨A,G,D⟩:=U0p J
    have s:=b.still (hf:=H) (λ_ _ h=>h) (T2.drawn b.mv.vis (w.drawn+1) (by grind))
    obtain⟨Inv,t,u,x,q⟩:=h0l (ops:=(K01 ops.toList).toArray) (Q:=f0g P h0 w0 Q) (R:=λa w=>o.wp P a w (λa w=>f0g P h0 w0 Q .normal a w) (f0g P h0 w0 Q)) s (by simpa using n.1) (by simpa using f) λa w st h be oe H l b=>by
     refine Oper.wp_mono (λL N I=>?_) (C00 (Q:=f0g P h0 w0 Q) b l)
     obtain⟨av,st',h',v,be',oe',z,l,rfl,s,g,M⟩:=I
     obtain⟨y,t,u,x,q⟩:=R05 (ops := #[o]) (i:=0) (rs:=⟨st',h',[],[]⟩) (ch:=[]) (c:=true) (v:=v) s n09.init (by rfl) rfl (λ_=>g) (λh=>by cases h) l
     exact⟨y.st,y.h,be',oe',z,t,q⟩
    exact wp_region_any p (Z0u (ops0:=(K01 ops.toList).toArray) (o:=o) (Inv:=Inv) (by simpa using A) (λk o l e F E=>by
     have:=o04 n.2 k o l e F E
     omega) G (λk l=>F0a D k (by simpa using l) (by simp at l;omega)) u x q)
  ·exact wp_region_any p ((l0l (h0:=h0) (w0:=w0) n f λa w st h be oe H l b=>⟨st,h,be,oe,H,l,b⟩).1 (b.still (hf:=H) (λ_ _ h=>h) (T2.drawn b.mv.vis _ (by grind))))
  ·exact wp_region_any p (W0p n f (λa w st h be oe H l b=>⟨st,h,be,oe,H,l,b⟩) (b.still (hf:=H) (λ_ _ h=>h) (T2.drawn b.mv.vis _ (by grind))))
end
theorem P04(x:Nat):∀ l:List Nat,m0a x l=true↔x∈l
 | []=>by simp[m0a]
 |y::r=>by
  simp only[m0a]
  cases h:Nat.beq x y with
  |true=>simp_all
  |false=>simp[P04 x r,Nat.ne_of_beq_eq_false h]
theorem e08{x:Nat}{l:List Nat}(h:m0a x l=false):x ∉ l:=λa=>by grind[P04]
theorem k0i:∀(l:List Nat) (K:List Nat->Prop),f0d l K=K l
 | [],K=>rfl
 |x::r,K=>by simp only[f0d,k0i r]
theorem f0c:∀(n:Nat) {K:List Value->Prop},N0b n K->∀ vs:List Value,vs.length=n->K vs
 |0,K,h,vs,a=>by rw[List.length_eq_zero_iff.1 a];exact h
 |n+1,K,h,[],a=>by cases a
 |n+1,K,h,v::vs,a=>f0c n (h v) vs (by simpa using a)
theorem g0c:∀(n:Nat) {K:List (List (List Value))->Prop},O0b n K->∀ os:List (List (List Value)),os.length=n->K os
 |0,K,h,vs,a=>by rw[List.length_eq_zero_iff.1 a];exact h
 |n+1,K,h,[],a=>by cases a
 |n+1,K,h,v::vs,a=>g0c n (h v) vs (by simpa using a)
theorem Z0a{c:Type}:∀(a b:List c) (K:List c->List c->Prop),h09 a.length (a++b) K=K a b
 | [],b,K=>rfl
 |x::a,b,K=>by simp only[List.length_cons,List.cons_append,h09,Z0a a b]
theorem s0d(e:St):∀(l:List Nat) {K:List Value->Prop},P0s l e K->∃ vs,vs.length=l.length/\K vs /\
  ∀ acc t,(E3 (g0d l vs acc) t=E3 acc t/\t ∉ l)∨(∃ v,E3 (g0d l vs acc) t = .val v/\rdA e (E3 e.fr t) = .val v)
 | [],K,h=>⟨[],rfl,h,λacc t => .inl ⟨rfl,by simp⟩⟩
 |b::r,K,h=>by
  simp only[P0s]at h
  split at h
  ·rename_i v i
   obtain⟨vs,c,d,f⟩:=s0d e r h
   refine⟨v::vs,by simp[c],d,λacc t=>?_⟩
   rcases f ((b,.val v)::acc) t with⟨a,g⟩|a
   ·by_cases e':b=t
    ·simp_all[g0d,V3,if_true]
    simp_all[g0d,V3,if_neg,Ne.symm]
   ·exact .inr a
  ·exact h.elim
def W05(B:Nat->Nat->Prop):List P5->Prop
 | []=>True
 | .val _::r=>W05 B r
 | .own i k::r=>B i k/\W05 B r
def ShC(e:St):List P5->List P5->Prop
 | [],[]=>True
 | .val _::r,.val _::a=>ShC e r a
 | .own i _::r,.own j c::a=>i=j/\(∃ b,rdA e (.own j c) = .own j b)/\ShC e r a
 |_,_=>False
def EqC(e:St):List P5->List P5->Prop
 | [],[]=>True
 | .val v::r,.val d::a=>v=d/\EqC e r a
 | .own i _::r,.own j c::a=>i=j/\(∃ b,rdA e (.own j c) = .own j b)/\EqC e r a
 |_,_=>False
theorem EqC.sh{e:St}:∀ {cs cs':List P5},EqC e cs cs'->ShC e cs cs'
 | [],[],_=>trivial
 | .val _::r,.val _::a,h=>EqC.sh (cs:=r) (cs':=a) h.2
 | .own i _::r,.own j b::a,h=>⟨h.1,h.2.1,EqC.sh (cs:=r) (cs':=a) h.2.2⟩
 | [],_::_,h=>h.elim
 | .val _::_,[],h=>h.elim
 | .own _ _::_,[],h=>h.elim
 | .val _::_,.own _ _::_,h=>h.elim
 | .own _ _::_,.val _::_,h=>h.elim
theorem h0c{e:St}{i k a b:Nat}(h:rdA e (.own i k) = .own a b):a=i/\b=k:=by
 grind[rdA]
theorem f08{g e:St}:∀(cs cs':List P5),q07 g e cs cs'=true->ShC e cs cs'
 | [],[],_=>trivial
 | .val _::r,.val _::c,h=>f08 r c h
 | .own i _::r,.own j k::c,h=>by
  simp only[q07]at h
  split at h
  ·rename_i a b f d
   obtain⟨rfl,_⟩:=h0c d
   exact⟨Nat.eq_of_beq_eq_true f,⟨_,d⟩,f08 r c h⟩
  ·cases h
 | [],_::_,h=>by cases h
 | .val _::_,[],h=>by cases h
 | .own _ _::_,[],h=>by cases h
 | .val _::_,.own _ _::_,h=>by cases h
 | .own _ _::_,.val _::_,h=>by cases h
theorem t0d(e:St):∀(cs cs':List P5),ShC e cs cs'->∀ {K:List Value->Prop},T0k cs' e K->∃ vs,K vs/\∃ a,(∀(f:List Value) (c:List P5->List Value->Prop),z04 cs (vs++f) c=c a f)/\EqC e a cs' /\
  (∀ B,W05 B cs->W05 B a)
 | [],[],_,K,h=>⟨[],h,[],λ_ _=>rfl,trivial,λ_ h=>h⟩
 | .val _::r,.val v::n,b,K,h=>by
  obtain⟨vs,g,a,o,l,m⟩:=t0d e r n b (K:=λvs=>K (v::vs)) h
  exact⟨v::vs,g,.val v::a,λf c=>by grind[z04],⟨rfl,l⟩,λB d=>m B d⟩
 | .own i k::r,.own j p::n,b,K,h=>by
  obtain⟨vs,g,a,o,l,m⟩:=t0d e r n b.2.2 (K:=K) h
  exact⟨vs,g,.own i k::a,λf c=>by simp only[z04,o],⟨b.1,b.2.1,l⟩,λB d=>⟨d.1,m B d.2⟩⟩
 | [],_::_,h,_,_=>h.elim
 | .val _::_,[],h,_,_=>h.elim
 | .own _ _::_,[],h,_,_=>h.elim
 | .val _::_,.own _ _::_,h,_,_=>h.elim
 | .own _ _::_,.val _::_,h,_,_=>h.elim
theorem u0d(e:St):∀(cs:List P5) {K:List Value->Prop},T0k cs e K->∃ vs,K vs/\∀(b:List Value) (a:List P5->List Value->Prop),z04 cs (vs++b) a=a cs b
 | [],K,h=>⟨[],h,λ_ _=>rfl⟩
 | .val v::r,K,h=>by
  obtain⟨vs,c,d⟩:=u0d e r (K:=λvs=>K (v::vs)) h
  grind[z04]
 | .own i k::r,K,h=>by
  obtain⟨vs,c,d⟩:=u0d e r (K:=K) h
  grind[z04]
theorem l0i{a:Type}(l:List a)(i:Nat)(x:a)(h:nth l i=some x):n01 l i x=l:=by
 grind[L05,List.getElem?_eq_some_iff,R0b,List.set_getElem_self]
theorem B0o(e:St):∀(is:List Nat) {K:List Value->Prop},L0f is e K->∃ a,K a/\∀ b,n07 is a e.bx b=b e.bx
 | [],K,h=>⟨[],h,λ_=>rfl⟩
 |i::r,K,h=>by
  simp only[L0f]at h
  split at h
  ·rename_i cs ty j
   obtain⟨vs,c,d⟩:=u0d e cs h
   obtain⟨a,f,g⟩:=B0o e r c
   grind[n07,l0i]
  ·exact h.elim
theorem C0o(e:St):∀(is:List Nat) {K:List (List (List Value))->Prop},V0h is e K->∃ os,os.length=is.length/\K os/\∀ a,o07 is os e.ow a=a e.ow
 | [],K,h=>⟨[],rfl,h,λ_=>rfl⟩
 |i::r,K,h=>by
  simp only[V0h]at h
  split at h
  ·rename_i g ty sz by_ nn xs f
   obtain⟨j,b,c,d⟩:=C0o e r h
   grind[o07,l0i]
  ·exact h.elim
theorem D0o(e:St):∀(is:List Nat) (bx:List BSt),(∀ i∈is,∃ cs ty cs',nth bx i=some (.live cs ty)/\nth e.bx i=some (.live cs' ty)/\ShC e cs cs')->∀ {K:List Value->Prop},L0f is e K ->
  ∃ d,K d/\∃ b,(∀ f,n07 is d bx f=f b)/\b.length=bx.length/\(∀ i,i ∉ is->nth b i=nth bx i) /\
   (∀ i∈is,∃ c ty cs',nth b i=some (.live c ty)/\nth e.bx i=some (.live cs' ty)/\EqC e c cs') /\
   (∀ B,(∀ i cs ty,nth bx i=some (.live cs ty)->W05 B cs)->(∀ i cs ty,nth b i=some (.live cs ty)->W05 B cs))
 | [],bx,_,K,h=>⟨[],h,bx,λ_=>rfl,rfl,λ_ _=>rfl,by simp,λ_ h=>h⟩
 |i::r,bx,t,K,h=>by
  obtain⟨cs,ty,cs',q,g,s⟩:=t i mS
  simp only[L0f,g]at h
  obtain⟨vs,v,c,D,n,E⟩:=t0d e cs cs' s h
  have k:=x02 q
  have u:∀ j∈r,∃ l p m,nth (n01 bx i (.live c ty)) j=some (.live l p)/\nth e.bx j=some (.live m p)/\ShC e l m:=λj a=>by
   rw[K7 _ _ _ k]
   by_cases ej:j=i
   ·subst ej
    rw[if_pos rfl]
    exact⟨c,ty,cs',rfl,g,n.sh⟩
   grind
  obtain⟨d,w,b,F,x,o,y,z⟩:=D0o e r _ u v
  refine⟨vs++d,w,b,λf=>by grind[n07],by rw[x,u06],λj a=>?_,λj a=>?_,λB C=>z B λj A G a=>?_⟩
  ·simp only[List.mem_cons,not_or]at a
   rw[o j a.2,K7 _ _ _ k,if_neg a.1]
  ·by_cases hr:j∈r
   ·exact y j hr
   ·rcases List.mem_cons.1 a with rfl|a
    ·refine⟨c,ty,cs',?_,g,n⟩
     rw[o j hr,K7 _ _ _ k,if_pos rfl]
    ·exact absurd a hr
  grind[K7]
theorem E0o(g:St):∀(is:List Nat) (ow:List Own),(∀ i∈is,∃ f e sz by_ nn k c a xs,nth ow i=some ⟨f,.live e sz by_ nn k⟩/\nth g.ow i=some ⟨c,.live e sz by_ a xs⟩/\(nn=true->a=true)) ->
  ∀ {K:List (List (List Value))->Prop},V0h is g K->∃ os,os.length=is.length/\K os/\∃ d,(∀ l,o07 is os ow l=l d)/\(∀ i,i ∉ is->nth d i=nth ow i) /\
   (∀ i∈is,∃ f e sz by_ nn c a xs,nth d i=some ⟨f,.live e sz by_ nn xs⟩/\nth g.ow i=some ⟨c,.live e sz by_ a xs⟩/\(nn=true->a=true)) /\
   (∀ i,(nth d i).map (·.stamp)=(nth ow i).map (·.stamp))
 | [],ow,_,K,h=>⟨[],rfl,h,ow,λ_=>rfl,λ_ _=>rfl,by simp,λ_=>rfl⟩
 |i::r,ow,w,K,h=>by
  obtain⟨f,e,sz,by_,nn,k,c,a,xs,p,q,v⟩:=w i mS
  simp only[V0h,q]at h
  have m:=x02 p
  have x:∀ j∈r,∃ D o u n t k c a E,nth (n01 ow i ⟨f,.live e sz by_ nn xs⟩) j=some ⟨D,.live o u n t k⟩/\nth g.ow j=some ⟨c,.live o u n a E⟩/\(t=true->a=true):=λj b=>by
   rw[K7 _ _ _ m]
   grind
  obtain⟨os,y,z,d,A,s,C,F⟩:=E0o g r _ x h
  refine⟨xs::os,by simp[y],z,d,λl=>by simp only[o07,p,A],λj b=>?_,λj b=>?_,λj=>?_⟩
  ·simp only[List.mem_cons,not_or]at b
   rw[s j b.2,K7 _ _ _ m,if_neg b.1]
  ·by_cases hr:j∈r
   ·exact C j hr
   ·rcases List.mem_cons.1 b with rfl|b
    ·refine⟨f,e,sz,by_,nn,c,a,xs,?_,q,v⟩
     rw[s j hr,K7 _ _ _ m,if_pos rfl]
    ·exact absurd b hr
  grind[K7]
theorem t09{A:Ann}{m e:St}:∀(i:Nat) (bx c:List BSt),h0d A m e i bx c->∀ k b,nth bx k=some b ->
  (i+k∈A.boxes/\∃ cs ty cs',b = .live cs ty/\nth c k=some (.live cs' ty)/\ShC e cs cs')∨(i+k ∉ A.boxes/\nth c k=some b/\h0n A.owns b=true)
 |i,[],_,_,k,b,a=>by cases k<;>cases a
 |i,x::r,[],h,_,_,_=>by cases h
 |i,x::r,y::f,h,k,b,a=>by
  simp only[h0d]at h
  split at h
  ·rename_i d
   split at h
   ·rename_i cs ty cs' n
    split at h
    ·rename_i g j
     have:=Nat.eq_of_beq_eq_true g
     subst this
     cases k with
     |zero=>cases a;exact .inl ⟨(P04 _ _).1 d,cs,ty,cs',rfl,rfl,f08 _ _ j⟩
     |succ k=>have:=t09 (i+1) r f h k b a;rwa [show i+1+k=i+(k+1) from by omega]at this
    ·exact h.elim
   ·exact h.elim
  ·rename_i d
   split at h
   ·rename_i l
    obtain⟨rfl,h⟩:=h
    cases k with
    |zero=>cases a;exact .inr ⟨e08 d,rfl,l⟩
    |succ k=>have:=t09 (i+1) r f h k b a;rwa [show i+1+k=i+(k+1) from by omega]at this
   ·exact h.elim
theorem u09{A:Ann}:∀(i:Nat) (ow f:List Own),i0d A i ow f->∀ k b,nth ow k=some b ->
  (i+k∈A.owns/\∃ g e sz by_ nn n j d xs,b=⟨g,.live e sz by_ nn n⟩/\nth f k=some ⟨j,.live e sz by_ d xs⟩/\(nn=true->d=true)/\(i+k∈A.kept->g=j))∨(i+k ∉ A.owns/\nth f k=some b)
 |i,[],_,_,k,b,a=>by cases k<;>cases a
 |i,x::r,[],h,_,_,_=>by cases h
 |i,x::r,y::m,h,k,b,a=>by
  simp only[i0d]at h
  split at h
  ·rename_i c
   split at h
   ·rename_i g e sz by_ nn n j u v t d xs
    split at h
    ·rename_i o p q s l
     have:=Nat.eq_of_beq_eq_true o
     subst this
     have:=Nat.eq_of_beq_eq_true p
     subst this
     have:=Nat.eq_of_beq_eq_true q
     subst this
     cases k with
     |zero=>cases a;exact .inl ⟨(P04 _ _).1 c,_,_,_,_,_,_,_,_,_,rfl,rfl,(λh=>by subst h;exact s),λh=>by rw[show m0a i A.kept=true from(P04 _ _).2 h]at l;exact Nat.eq_of_beq_eq_true l⟩
     |succ k=>have:=u09 (i+1) r m h k b a;rwa [show i+1+k=i+(k+1) from by omega]at this
    ·exact h.elim
   ·exact h.elim
  ·rename_i c
   obtain⟨rfl,h⟩:=h
   cases k with
   |zero=>cases a;exact .inr ⟨e08 c,rfl⟩
   |succ k=>have:=u09 (i+1) r m h k b a;rwa [show i+1+k=i+(k+1) from by omega]at this
def i0c(A:Ann)(st:St):AV->Prop
 | .val _ | .hel _ _ _ _ | .dead=>True
 | .agg cs=>t0o cs=true
 | .box i _=>i<st.bx.length
 | .own i k=>(i ∉ A.owns∨i∈A.kept)/\stamp st i=some k
 | .oel _ _ _ _ _=>False
theorem F0o{st:St}{av:AV}{i off:Nat}(h:rdA st av = .box i off):i<st.bx.length:=by
 cases av with
 |box j o =>
  simp only[rdA]at h
  split at h
  all_goals simp_all[x02]
 |own j k =>
  grind[rdA]
 |oel j s idx sz k =>
  grind[rdA]
 |_=>cases h
theorem v0d{st:St}{av:AV}{i k:Nat}(h:rdA st av = .own i k):stamp st i=some k:=by
 grind[T07,stamp]
theorem a0b(A:Ann)(ds:List Nat)(st:St):∀(l:List (Nat×AV)) {K:List (Nat×AV)->Prop},p07 A ds st l K->∃ a,K a/\∀ t,t ∉ ds ->
  E3 a t = .dead∨(E3 a t=rdA st (E3 l t)/\i0c A st (E3 a t))
 | [],K,h=>⟨[],h,λt _ => .inl rfl⟩
 |(j,av)::r,K,h=>by
  have put:∀ f,(f = .dead∨(f=rdA st av/\i0c A st f))->(p07 A (j::ds) st r λl=>K ((j,f)::l))->∃ a,K a/\∀ t,t ∉ ds ->
    E3 a t = .dead∨(E3 a t=rdA st (E3 ((j,av)::r) t)/\i0c A st (E3 a t)):=by
   intro f q h
   obtain⟨a,c,d⟩:=a0b A (j::ds) st r h
   refine⟨_,c,λt m=>?_⟩
   rw[V3,V3]
   by_cases e:j=t
   ·rw[if_pos e,if_pos e];exact q
   ·rw[if_neg e,if_neg e];exact d t λg=>by
     rcases List.mem_cons.1 g with k|k
     ·exact e k.symm
     ·exact m k
  simp only[p07]at h
  split at h
  ·rename_i g
   obtain⟨a,c,d⟩:=a0b A ds st r h
   refine⟨a,c,λt m=>?_⟩
   rw[V3,if_neg (λe=>m (by rw[←e];exact(P04 _ _).1 g))]
   exact d t m
  ·split at h
   ·rename_i i k b
    split at h
    ·exact put _ (.inl rfl) h
    ·rename_i g
     refine put _ (.inr ⟨b.symm,?_,v0d b⟩) h
     cases c:m0a i A.owns with
     |false=>exact .inl (e08 c)
     |true =>
      cases d:m0a i A.kept with
      |true=>exact .inr ((P04 _ _).1 d)
      |false=>exact absurd d (g c)
   ·exact put _ (.inl rfl) h
   ·rename_i cs b
    split at h
    ·rename_i s
     exact put _ (.inr ⟨b.symm,s⟩) h
    ·exact put _ (.inl rfl) h
   ·rename_i c d p
    refine put _ (.inr ⟨rfl,?_⟩) h
    cases b:rdA st av with
    |own i k=>exact absurd b (c i k)
    |oel i n idx sz k=>exact absurd b (d i n idx sz k)
    |agg cs=>exact absurd b (p cs)
    |box i o=>exact F0o b
    |val v=>trivial
    |hel n idx sz k=>trivial
    |dead=>trivial
def t0l(st:St)(t:Nat)(av:AV):Prop :=
 av = .dead∨(∃ i k,av = .own i k/\stamp st i=some k/\rdA st (E3 st.fr t) = .own i k)∨(∃ i o,av = .box i o/\i<st.bx.length/\rdA st (E3 st.fr t) = .box i o)
theorem b0b(A:Ann)(st:St):∀(l:List Nat) (acc:List (Nat×AV)) {K:List (Nat×AV)->Prop},headD A st l acc K->(∀ p∈acc,t0l st p.1 p.2) ->
  ∃ a,K a/\(∀ p∈a,p.1∈l∨p∈acc)/\(∀ p∈a,t0l st p.1 p.2)/\(∀ t∈l,t ∉ A.vars->∃ av,(t,av)∈a)/\(∀ p∈acc,p∈a)
 | [],acc,K,h,f=>⟨acc,h,λp c => .inr c,f,by simp,λ_ h=>h⟩
 |d::r,acc,K,h,f=>by
  have put:∀ e,t0l st d e->headD A st r ((d,e)::acc) K->∃ a,K a/\(∀ p∈a,p.1∈d::r∨p∈acc)/\(∀ p∈a,t0l st p.1 p.2)/\(∀ t∈d::r,t ∉ A.vars->∃ av,(t,av)∈a)/\(∀ p∈acc,p∈a):=by
   intro e s h
   obtain⟨a,g,j,m,q,n⟩:=b0b A st r _ h (λp c=>by
    grind)
   grind
  simp only[headD]at h
  split at h
  ·rename_i u
   obtain⟨a,g,j,m,q,n⟩:=b0b A st r _ h f
   refine⟨a,g,λp c=>(j p c).imp (mC _) id,m,λt v w=>?_,n⟩
   grind[absurd,P04]
  ·split at h
   ·rename_i i k b
    exact put _ (.inr (.inl ⟨i,k,rfl,v0d b,b⟩)) h
   ·rename_i i o b
    exact put _ (.inr (.inr ⟨i,o,rfl,F0o b,b⟩)) h
   ·exact put _ (.inl rfl) h
theorem g0g:∀(b a:List (Nat×AV)) (t:Nat),(∃ av,(t,av)∈b/\E3 (b++a) t=av)∨((∀ av,(t,av) ∉ b)/\E3 (b++a) t=E3 a t)
 | [],a,t => .inr ⟨by simp,rfl⟩
 |(f,av)::r,a,t=>by
  simp only[List.cons_append]
  rw[V3]
  by_cases e:f=t
  ·grind
  ·rw[if_neg e]
   rcases g0g r a t with⟨g,c,d⟩|⟨c,d⟩
   all_goals grind
theorem i0g{c e:St}:∀(b:List (Nat×AV)),o0e c e b=true->∀ t av,(t,av)∈b->(∀ i k,av = .own i k->∃ a,rdA e (E3 e.fr t) = .own i a)/\(∀ i o,av = .box i o->rdA e (E3 e.fr t) = .box i o)
 | [],_,t,av,h=>by cases h
 |(f,x)::r,g,t,av,h=>by
  have d:o0e c e r=true/\(∀ i k,x = .own i k->∃ a,rdA e (E3 e.fr f) = .own i a)/\(∀ i o,x = .box i o->rdA e (E3 e.fr f) = .box i o):=by
   simp only[o0e]at g
   grind[Nat.eq_of_beq_eq_true,absurd]
  rcases List.mem_cons.1 h with h|h
  ·cases h;exact d.2
  ·exact i0g r d.1 t av h
theorem c0b{fr:List (Nat×AV)}:∀(a:List (Nat×AV)),W0h fr a=I0p a->∀ t,E3 a t = .dead∨E3 fr t=E3 a t
 | [],_,t => .inl rfl
 |(b,av)::r,h,t=>by
  rw[V3]
  simp only[W0h,I0p]at h
  cases hd:g0n av with
  |true =>
   rw[hd]at h
   by_cases e:b=t
   ·rw[if_pos e]
    left
    cases av<;>first|rfl|cases hd
   ·rw[if_neg e]
    exact c0b r h t
  |false =>
   rw[hd]at h
   simp only[List.cons.injEq]at h
   by_cases e:b=t
   ·grind
   ·rw[if_neg e]
    exact c0b r h.2 t
theorem w0d{e l:St}{be:Nat->Nat}{oe:Nat->Value}:∀ {d cs':List P5} {vs:List Value},EqC e d cs'->W05 (λj k=>∃ c,stamp l j=some c/\k<=c) d->C2 e oe cs' vs->C2 l oe d vs
 | [],[],[],_,_,_=>trivial
 | .val v::r,.val q::o,x::vs,h,a,g=>⟨by rw[show x=q from g.1,h.1];rfl,w0d (be:=be) h.2 a g.2⟩
 | .own i k::r,.own j s::o,x::vs,h,a,g=>by
  obtain⟨n,⟨b,f⟩,h⟩:=h
  subst n
  obtain⟨⟨c,s1,s2⟩,a⟩:=a
  refine⟨⟨c,s1,s2,λ_=>?_⟩,w0d (be:=be) h a g.2⟩
  obtain⟨_,m⟩:=h0c f
  subst m
  obtain⟨t,p,u,w⟩:=g.1
  rw[v0d f]at p
  grind
 | [],_::_,_,h,_,_=>h.elim
 | .val _::_,[],_,h,_,_=>h.elim
 | .own _ _::_,[],_,h,_,_=>h.elim
 | .val _::_,.own _ _::_,_,h,_,_=>h.elim
 | .own _ _::_,.val _::_,_,h,_,_=>h.elim
 |_,_::_,[],_,_,g=>g.elim
 |_,[],_::_,_,_,g=>g.elim
theorem g08{os:List Nat}{e c:St}{oe:Nat->Value}(d:∀ j,j ∉ os->∀ a,stamp c j=some a->stamp e j=some a):∀ {cs:List P5} {vs:List Value},M0b os cs=true ->
  W05 (λj k=>∃ a,stamp c j=some a/\k<=a) cs->C2 e oe cs vs->C2 c oe cs vs
 | [],[],_,_,_=>trivial
 | .val v::r,x::vs,h,b,g=>⟨g.1,g08 d h b g.2⟩
 | .own i k::r,x::vs,h,b,g=>by
  simp only[M0b]at h
  split at h
  ·cases h
  ·rename_i l
   obtain⟨⟨a,s1,s2⟩,b⟩:=b
   refine⟨⟨a,s1,s2,λf=>?_⟩,g08 d h b g.2⟩
   obtain⟨m,n,o,p⟩:=g.1
   grind[e08]
 | [],_::_,_,_,g=>g.elim
 |_::_,[],_,_,g=>g.elim
section
variable {P:Program} {h0:Hp} {w0:World} {be:Nat->Nat} {oe:Nat->Value} {H:Hp} {h:Hp} {a:Act} {w:World}
theorem k0r{A:Ann}{e l:St}(c:Sim P h0 w0 be oe H e h a w)(O:e.n=l.n)
  (J:∀ i b,nth l.bx i=some b->(∃ D ty cs',b = .live D ty/\nth e.bx i=some (.live cs' ty)/\EqC e D cs')∨(nth e.bx i=some b/\h0n A.owns b=true))
  (Q:∀ i o,nth l.ow i=some o->(∃ c t sz by_ nn C q xs,o=⟨c,.live t sz by_ nn xs⟩/\nth e.ow i=some ⟨C,.live t sz by_ q xs⟩/\(nn=true->q=true))/\i∈A.owns∨(nth e.ow i=some o/\i ∉ A.owns))
  (I:∀ i cs ty,nth l.bx i=some (.live cs ty)->W05 (λj k=>∃ c,stamp l j=some c/\k<=c) cs)
  (hf:∀ t,I2 l be oe (E3 l.fr t) (a.tmps.getD t undef)):Sim P h0 w0 be oe H l h a w:=by
 have R:∀ j,j ∉ A.owns->∀ c,stamp l j=some c->stamp e j=some c:=λj s m aa=>by
  grind[stamp,nth,absurd]
 have F:∀ i cs ty,nth l.bx i=some (.live cs ty)->∃ cs',nth e.bx i=some (.live cs' ty):=λi cs ty f=>by
  grind
 have E:∀ i m t sz by_ nn xs,nth l.ow i=some ⟨m,.live t sz by_ nn xs⟩->∃ C q,nth e.ow i=some ⟨C,.live t sz by_ q xs⟩/\(nn=true->q=true):=λi m t sz by_ nn xs f=>by
  grind
 refine⟨c.mv,c.sub,λi cs ty f=>?_,λi b f=>?_,λi m t sz by_ nn xs f=>?_,λi m v f=>?_,λi j cs ty cs' V f s=>?_,λi j m t sz by_ nn xs s1 U T M S X g f s=>?_,λi cs ty j m t sz by_ nn xs f s=>?_,c.dfr,by rw[c.siz,O],hf⟩
 ·rcases J i _ f with⟨D,W,cs',x,d,p⟩|⟨d,p⟩
  ·cases x
   obtain⟨y,vs,z,G⟩:=c.box i cs' ty d
   exact⟨y,vs,w0d (be:=be) p (I i _ _ f) z,G⟩
  ·obtain⟨y,vs,z,G⟩:=c.box i cs ty d
   exact⟨y,vs,g08 R p (I i _ _ f) z,G⟩
 ·rcases J i _ f with⟨D,W,cs',x,d,p⟩|⟨d,p⟩
  ·cases x
  ·exact c.pub i b d
 ·obtain⟨C,q,d,p⟩:=E i _ _ _ _ _ _ f
  obtain⟨y,z⟩:=c.own i _ _ _ _ _ _ d
  refine⟨y,z.imp (λ⟨K,L,Y⟩=>⟨K,L,?_⟩) id⟩
  grind
 ·rcases Q i _ f with⟨⟨s1,U,T,M,S,C,q,X,x,d,p⟩,_⟩|⟨d,_⟩
  ·cases x
  ·exact c.frz i m v d
 ·obtain⟨N,u⟩:=F i cs ty f
  obtain⟨Z,d⟩:=F j cs' V s
  exact c.bb i j _ _ _ _ u d
 ·obtain⟨_,_,u,_⟩:=E i _ _ _ _ _ _ f
  obtain⟨_,_,d,_⟩:=E j _ _ _ _ _ _ s
  exact c.oo i j _ _ _ _ _ _ _ _ _ _ _ _ g u d
 ·obtain⟨N,u⟩:=F i cs ty f
  obtain⟨_,_,d,_⟩:=E j _ _ _ _ _ _ s
  exact c.bo i _ _ j _ _ _ _ _ _ u d
end
section
variable {P:Program} {h0:Hp} {w0:World} {be:Nat->Nat} {oe:Nat->Value} {H:Hp} {st:St} {h:Hp} {a:Act} {w:World}
theorem l0r(b:Sim P h0 w0 be oe H st h a w):∀ i cs ty,nth st.bx i=some (.live cs ty)->W05 (λj k=>∃ b,stamp st j=some b/\k<=b) cs:=by
 intro i cs ty l
 obtain⟨_,vs,g,_⟩:=b.box i cs ty l
 have:∀(cs:List P5) (vs:List Value),C2 st oe cs vs->W05 (λj k=>∃ b,stamp st j=some b/\k<=b) cs:=by
  intro cs
  induction cs with
  |nil=>intro vs _;trivial
  |cons c r d =>
   intro vs g
   cases vs with
   |nil=>exact g.elim
   |cons v vs =>
    cases c with
    |val x=>exact d vs g.2
    |own j k =>
     obtain⟨m,e,f,_⟩:=g.1
     exact⟨⟨m,e,f⟩,d vs g.2⟩
 exact this cs vs g
theorem u0l(p:Nat->Prop)(h:∃ n,p n):∃ n,p n/\∀ m,p m->n<=m:=by
 obtain⟨n,a⟩:=h
 induction n using Nat.strongRecOn with
 |_ n b =>
  grind
theorem G0o:∀(a b:List Value),Q0s a b=true->a.length=b.length
 | [],[],_=>rfl
 |_::r,_::c,h=>by simp[G0o r c h]
 | [],_::_,h=>by cases h
 |_::_,[],h=>by cases h
theorem t0u{A:Ann}{ds:List Nat}{st e m:St}{f l:List (Nat×AV)}{y:List Value}{av1:∀ t,(E3 (g0d A.vars y (f++l)) t=E3 (f++l) t/\t ∉ A.vars)∨(∃ v,E3 (g0d A.vars y (f++l)) t = .val v/\rdA e (E3 e.fr t) = .val v)}
  (K:Sim P h0 w0 be oe H e h a w) (Q:m.fr=g0d A.vars y (f++l)) (D:m.bx.length=st.bx.length) (E:∀ i,stamp m i=stamp st i)
  (ae:∀ i k,(i ∉ A.owns∨i∈A.kept)->stamp st i=some k->stamp e i=stamp m i)
  (ab:∀ p∈f,p.1∈ds) (L:∀ p∈f,t0l st p.1 p.2) (ac:∀ t∈ds,t ∉ A.vars->∃ av,(t,av)∈f)
  (s1:∀ t,t ∉ ds->i0c A st (E3 l t)) (T:∀ t av,(t,av)∈f->(∀ i k,av = .own i k->∃ G,rdA e (E3 e.fr t) = .own i G)/\(∀ i o,av = .box i o->rdA e (E3 e.fr t) = .box i o))
  (U:∀ t,E3 l t = .dead∨E3 e.fr t=E3 l t):∀ t,I2 m be oe (E3 m.fr t) (a.tmps.getD t undef):=by
 intro t
 rw[Q]
 have b:=K.fr t
 have n:=K.rdA b
 rcases av1 t with⟨q,ag⟩|⟨v,q,M⟩
 ·rw[q]
  rcases g0g f l t with⟨av,s,u⟩|⟨s,u⟩
  ·rw[u]
   obtain⟨X,Y⟩:=T t av s
   rcases L _ s with rfl|⟨i,k,rfl,d,_⟩|⟨i,o,rfl,N,_⟩
   ·trivial
   ·obtain⟨G,C⟩:=X i k rfl
    rw[C]at n
    refine⟨k,by rw[E,d],Nat.le_refl _,λ_=>?_⟩
    obtain⟨z,ak,aa,ai,al,R⟩:=T07 C
    exact n.own_cur R
   ·rw[Y i o rfl]at n
    exact⟨by rw[D];exact N,n.2⟩
  ·rw[u]
   have V:t ∉ ds:=λad=>by
    grind
   rcases U t with O|z
   ·rw[O];trivial
   have d:=s1 t V
   rw[z]at b
   cases hl:E3 l t with
   |val v=>rw[hl]at b;exact b
   |hel Z idx sz k=>rw[hl]at b;exact b
   |dead=>trivial
   |agg cs =>
    rw[hl]at b d
    obtain⟨vs,I,J⟩:=b
    refine⟨vs,I,?_⟩
    have:∀(cs:List P5) (vs:List Value),t0o cs=true->C2 e oe cs vs->C2 m oe cs vs:=by
     intro cs
     induction cs with
     |nil=>intro vs _ g;cases vs<;>exact g
     |cons c r W =>
      intro vs F g
      cases vs with
      |nil=>exact g.elim
      |cons v vs =>
       cases c with
       |val x=>exact⟨g.1,W vs F g.2⟩
       |own j k=>cases F
    exact this cs vs d J
   |box i o =>
    rw[hl]at b d
    exact⟨by rw[D];exact d,b.2⟩
   |own i k =>
    rw[hl]at b d
    obtain⟨af,S⟩:=d
    obtain⟨aj,I,J,ah⟩:=b
    refine⟨k,by rw[E,S],Nat.le_refl _,λ_=>?_⟩
    grind
   |oel i Z idx sz k=>rw[hl]at d;exact d.elim
 ·rw[q]
  rw[M]at n
  exact n
theorem w0e:∀(l:List (Nat×Nat×Nat×Nat)) (st:St) (oe:Nat->Value) {K:St->Prop},Sim P h0 w0 be oe H st h a w->R0k l st K->∃ st' oe',K st'/\Sim P h0 w0 be oe' H st' h a w
 | [],st,oe,K,d,c=>⟨st,oe,c,d⟩
 |(t,e,sz,by_)::r,⟨n,fr,bx,ow⟩,oe,K,d,c=>by
  simp only[R0k]at c
  split at c
  ·rename_i j p
   rw[H0b]at c
   have f:=d.rdA (d.fr t)
   have k:a.tmps.getD t undef = .slice none 0 0:=by
    have:rdA ⟨n,fr,bx,ow⟩ (E3 fr t) = .val (.slice none 0 0):=j
    rw[show rdA ⟨n,fr,bx,ow⟩ (E3 (St.mk n fr bx ow).fr t) = .val (.slice none 0 0) from this]at f
    exact f
   have g:r07 h H (.slice none 0 0) e sz false []:=⟨by simp,.inl ⟨rfl,rfl,rfl⟩⟩
   obtain⟨s1,m⟩:=d.newOwn (by_:=by_) (λb o i=>i) (T2.refl d.mv.vis) g (by simp[Value.ownBlock])
   refine w0e r _ _ (s1.refr (fr:=(t,.own ow.length 0)::fr) λu=>?_) c
   rw[V3]
   by_cases eu:t=u
   ·subst eu
    rw[if_pos rfl,k]
    exact⟨0,by simp[stamp,U02],Nat.le_refl _,λ_=>by simp⟩
   ·rw[if_neg eu]
    exact s1.fr u
  ·exact c.elim
theorem j0c:∀(l:List (Nat×Nat×Nat×Nat×Nat)) (st:St) (oe:Nat->Value) {K:St->Prop},Sim P h0 w0 be oe H st h a w->K0f l st K->∃ st' oe',K st'/\Sim P h0 w0 be oe' H st' h a w
 | [],st,oe,K,g,f=>⟨st,oe,f,g⟩
 |(i,k,e,sz,by_)::r,⟨n,fr,bx,ow⟩,oe,K,g,f=>by
  simp only[K0f]at f
  split at f
  rotate_left
  ·exact f.elim
  rename_i cs ty C
  split at f
  rotate_left
  ·exact f.elim
  rename_i O
  rw[H0b]at f
  have L:r07 h H (.slice none 0 0) e sz false []:=⟨by simp,.inl ⟨rfl,rfl,rfl⟩⟩
  obtain⟨s1,X⟩:=g.newOwn (by_:=by_) (λb o M=>M) (T2.refl g.mv.vis) L (by simp[Value.ownBlock])
  have A:=x02 C
  refine j0c r _ (λj=>if j=ow.length then .slice none 0 0 else oe j) ?_ f
  have q:j7 ⟨n,fr,bx,ow ++ [⟨0,.live e sz by_ false []⟩]⟩ be (λj=>if j=ow.length then .slice none 0 0 else oe j) ⟨n,fr,n01 bx i (.live (n01 cs k (.own ow.length 0)) ty),ow ++ [⟨0,.live e sz by_ false []⟩]⟩ be (λj=>if j=ow.length then .slice none 0 0 else oe j) :=
   ⟨by simp[u06],λ_ _=>rfl,λi g h=>⟨g,h,Nat.le_refl _,λ_=>rfl⟩⟩
  have u:∀ j cs' m,nth (n01 bx i (.live (n01 cs k (.own ow.length 0)) ty)) j=some (.live cs' m)->∃ E,nth bx j=some (.live E m):=λj cs' m d=>by
   grind[K7]
  refine⟨s1.mv,s1.sub,λj cs' m d=>?_,λj b d=>?_,s1.own,s1.frz,λj x T aa U ab G I=>?_,s1.oo,λj cs' m x Y W Z S nn xs d N=>?_,s1.dfr,s1.siz,λt=>(s1.fr t).grow q⟩
  ·rw[K7 _ _ _ A]at d
   split at d
   ·rename_i F
    subst F
    cases d
    obtain⟨y,vs,p,z⟩:=s1.box j cs ty C
    refine⟨y,vs,?_,z⟩
    obtain⟨v,ac,R⟩:=p.nth O
    have Q:v = .slice none 0 0:=R
    have:=(p.grow q).upd (k:=k) (c := .own ow.length 0) (v:=v) (by rw[Q];exact⟨0,by simp[stamp,U02],Nat.le_refl _,λ_=>by simp⟩)
    rwa [show vs.set k v=vs from by
     grind[List.getElem?_eq_some_iff,List.set_getElem_self]]at this
   ·obtain⟨y,vs,p,z⟩:=s1.box j cs' m d
    exact⟨y,vs,p.grow q,z⟩
  ·rw[K7 _ _ _ A]at d
   split at d
   ·cases d
   ·exact s1.pub j b d
  ·obtain⟨D,s⟩:=u _ _ _ G
   obtain⟨V,J⟩:=u _ _ _ I
   exact s1.bb j x _ _ _ _ s J
  ·obtain⟨D,s⟩:=u _ _ _ d
   exact s1.bo j _ _ x _ _ _ _ _ _ s N
theorem d0b:∀(l:List Nat) {st:St} {h:Hp} {K:St->Hp->Prop},Sim P h0 w0 be oe H st h a w->S0k l st h K->∃ st' h',K st' h'/\Sim P h0 w0 be oe H st' h' a w
 | [],st,h,K,b,c=>⟨st,h,c,b⟩
 |t::r,st,h,K,b,c=>by
  simp only[S0k]at c
  obtain⟨⟨n,fr,bx,ow⟩,h',d,s1,_⟩:=v03 b (b.rdA (b.fr t)) c
  dsimp only at d
  split at d
  ·refine d0b r (s1.refr (fr:=(t,.val (a.tmps.getD t undef))::fr) λu=>?_) d
   rw[V3]
   by_cases eu:t=u
   ·subst eu
    rw[if_pos rfl]
    rfl
   ·rw[if_neg eu]
    exact s1.fr u
  ·exact d.elim
set_option maxHeartbeats 1000000 in
theorem n0n{Z:Code}{R:List Nat}{Q:Ex->St->Hp->Prop}
  (D:∀(Q:Ex->St->Hp->Prop) (st:St) (h:Hp) (a:Act) (w:World) (be:Nat->Nat) (oe:Nat->Value) (H:Hp),Sim P h0 w0 be oe H st h a w->ev P Z Q st h->Z.wp P (f0g P h0 w0 Q) a w)
  (f:Sim P h0 w0 be oe H st h a w) (g:u0o (λQ=>ev P Z Q) R Q st h):(Code.loop Z).wp P (f0g P h0 w0 Q) a w:=by
 obtain⟨A,aO,μ,g⟩:=g
 obtain⟨st,oe,g,f⟩:=w0e _ _ _ f g
 obtain⟨st,oe,g,f⟩:=j0c _ _ _ f g
 obtain⟨st,h,g,f⟩:=d0b _ f g
 unfold f0n at g
 obtain⟨E,bo,g,bp⟩:=s0d st _ g
 obtain⟨ad,g,aE⟩:=B0o st _ g
 obtain⟨ac,ba,⟨aa,g⟩,aF⟩:=C0o st _ g
 rw[k0i]at g
 obtain⟨F,g,aS,aC,aD,_⟩:=b0b A st _ _ g (by simp)
 obtain⟨W,a4,s1⟩:=a0b A R st _ g
 have aU:∀ p∈F,p.1∈R:=λp S=>(aS p S).resolve_right (by simp)
 have bB:∀ t,t ∉ R->i0c A st (E3 W t):=λt bk=>by
  rcases s1 t bk with h|⟨_,h⟩
  ·rw[h];trivial
  ·exact h
 have bc:=λ(vs:List Value) (af:vs.length=(E++ad).length) (os:List (List (List Value))) (ap:os.length=ac.length)=>g0c _ (f0c _ a4 vs af) os ap
 let z:List Value->List BSt->List Own->St:=λE bx ow=>⟨st.n,g0d A.vars E (F++W),bx,ow⟩
 let Inv:Nat->Act->World->Prop:=λm a w=>∃(vs:List Value) (os:List (List (List Value))) (ah aA:List Value) (bx:List BSt) (ow:List Own) (h':Hp) (be:Nat->Nat) (oe:Nat->Value) (H:Hp),
  vs.length=(E++ad).length/\os.length=ac.length/\vs=ah++aA/\ah.length=A.vars.length/\(∀ X,n07 A.boxes aA st.bx X=X bx)/\(∀ X,o07 A.owns os st.ow X=X ow) /\
   atI A aO μ m vs os h'/\Sim P h0 w0 be oe H (z ah bx ow) h' a w
 have aP:=l0r f
 have a2:∀ m a w,Inv m a w->Z.wp P (Exit.then (λa w=>∃ U,Inv U a w/\U<m) (f0g P h0 w0 Q)) a w:=by
  rintro m a w ⟨vs,os,ah,aA,bx,ow,h',be,oe,H,af,ap,rfl,bm,bd,bg,aa,a0⟩
  have T:=T0q (bc _ af os ap) aa
  rw[←bm,Z0a,bd,bg]at T
  refine Code.wp_mono (λe aj aB S=>?_) (D _ _ _ _ _ _ _ _ a0 T)
  cases e with
  |normal =>
   obtain⟨e,l,aQ,bz,aN,J,s2⟩:=S
   dsimp only at J
   obtain⟨e,l,J,s2⟩:=d0b _ s2 J
   unfold U0q at J
   split at J
   ·rename_i a3 bf
    obtain⟨bb,bj,bi,s⟩:=J
    have L:=Nat.eq_of_beq_eq_true a3
    have C:=t09 0 _ _ bj
    have ag:=u09 0 _ _ bi
    simp only[Nat.zero_add]at C ag
    unfold f0n at s
    obtain⟨ae,aH,s,bq⟩:=s0d e _ s
    have a7:∀(is:List Nat) {K:List Value->Prop},L0f is e K->(∀ i∈is,i∈A.boxes)->(∀ i∈is,(nth st.bx i).isSome=true) ->
      ∀ i∈is,∃ cs ty cs',nth st.bx i=some (.live cs ty)/\nth e.bx i=some (.live cs' ty)/\ShC e cs cs':=by
     intro is K _ bG aq i d
     cases hb:nth st.bx i with
     |none=>have:=aq i d;rw[hb]at this;cases this
     |some b =>
      grind
    have aq:∀ i∈A.boxes,(nth st.bx i).isSome=true:=by
     have ak:∀(is:List Nat) (vs:List Value) (bx:List BSt),(n07 is vs bx λ_=>True)->∀ i∈is,(nth bx i).isSome=true:=by
      intro is
      induction is with
      |nil=>intro vs bx _ i d;cases d
      |cons j r D =>
       intro vs bx u i d
       simp only[n07]at u
       split at u
       ·rename_i cs ty L
        rcases List.mem_cons.1 d with rfl|d
        ·rw[L];rfl
        ·have a5:∀(cs:List P5) (vs:List Value) (K:List P5->List Value->Prop),z04 cs vs K->∃ a b,K a b:=by
          intro cs
          induction cs with
          |nil=>intro vs K h;exact⟨_,_,h⟩
          |cons c r D =>
           intro vs K h
           cases c with
           |val v =>
            cases vs with
            |nil=>exact h.elim
            |cons bH vs=>obtain⟨a,b,h⟩:=D _ _ h;exact⟨_,_,h⟩
           |own i k=>obtain⟨a,b,h⟩:=D _ _ h;exact⟨_,_,h⟩
         obtain⟨a,b,u⟩:=a5 _ _ _ u
         have:=D _ _ u i d
         rw[K7 _ _ _ (x02 L)]at this
         grind
       ·exact u.elim
     exact ak A.boxes ad st.bx (by rw[aE];trivial)
    have bh:∀ i∈A.owns,(nth st.ow i).isSome=true:=by
     have ak:∀(is:List Nat) (vs:List (List (List Value))) (ow:List Own),(o07 is vs ow λ_=>True)->∀ i∈is,(nth ow i).isSome=true:=by
      intro is
      induction is with
      |nil=>intro vs bx _ i d;cases d
      |cons j r D =>
       intro vs ow u i d
       cases vs with
       |nil=>exact u.elim
       |cons x vs =>
        simp only[o07]at u
        split at u
        ·rename_i L
         rcases List.mem_cons.1 d with rfl|d
         ·rw[L];rfl
         ·have:=D _ _ u i d
          rw[K7 _ _ _ (x02 L)]at this
          grind
        ·exact u.elim
     exact ak A.owns ac st.ow (by rw[aF];trivial)
    obtain⟨aM,s,O,aL,bC,bD,bE,bF⟩:=D0o e A.boxes st.bx (a7 _ s (λ_ h=>h) aq) s
    have a8:∀ i∈A.owns,∃ f G sz by_ nn ai V M xs,nth st.ow i=some ⟨f,.live G sz by_ nn ai⟩/\nth e.ow i=some ⟨V,.live G sz by_ M xs⟩/\(nn=true->M=true):=λi d=>by
     cases hb:nth st.ow i with
     |none=>have:=bh i d;rw[hb]at this;cases this
     |some b =>
      rcases ag i b hb with⟨_,f,G,sz,by_,nn,ai,V,M,xs,rfl,l,al,_⟩|⟨q,_⟩
      ·exact⟨f,G,sz,by_,nn,ai,V,M,xs,rfl,l,al⟩
      ·exact absurd d q
    obtain⟨bA,bs,s,N,aJ,bt,bu,bv⟩:=E0o e A.owns st.ow a8 s
    split at s
    rotate_left
    ·exact s.elim
    rename_i a9
    rw[←aH,Z0a,aL,aJ]at s
    obtain⟨ab,aY,an⟩:=S0s s
    have ar:∀ i,stamp (z ae O N) i=stamp st i:=λi=>by
     have:=bv i
     unfold stamp
     simp only[z]
     cases q:nth N i<;>cases l:nth st.ow i<;>rw[q,l]at this<;>simp at this<;>simp[this]
    refine⟨ab,⟨ae++aM,bA,ae,aM,O,N,l,aQ,bz,aN,?_,?_,rfl,aH,aL,aJ,aY,?_⟩,an⟩
    ·rw[←af];exact G0o _ _ a9
    ·rw[bs]
     have:ac.length=A.owns.length:=ba
     rw[this]
    ·refine k0r (A:=A) s2 L ?_ ?_ ?_ ?_
     ·intro i b d
      by_cases y:i∈A.boxes
      ·obtain⟨aR,ty,cs',aw,ax,ay⟩:=bE i y
       have:nth O i=some b:=d
       rw[aw]at this
       cases this
       exact .inl ⟨aR,ty,cs',rfl,ax,ay⟩
      ·have:nth O i=some b:=d
       rw[bD i y]at this
       rcases C i b this with⟨q,_⟩|⟨_,l,al⟩
       ·exact absurd q y
       ·exact .inr ⟨l,al⟩
     ·intro i o d
      by_cases y:i∈A.owns
      ·obtain⟨aK,G,sz,by_,nn,V,M,xs,aw,ax,ay⟩:=bu i y
       have:nth N i=some o:=d
       rw[aw]at this
       cases this
       exact .inl ⟨⟨aK,G,sz,by_,nn,V,M,xs,rfl,ax,ay⟩,y⟩
      ·have:nth N i=some o:=d
       rw[bt i y]at this
       rcases ag i o this with⟨q,_⟩|⟨_,l⟩
       ·exact absurd q y
       ·exact .inr ⟨l,y⟩
     ·intro i cs ty d
      have:=bF _ aP i cs ty d
      have a6:(λj k=>∃ f,stamp (z ae O N) j=some f/\k<=f)=(λj k=>∃ f,stamp st j=some f/\k<=f):=by
       funext j k;rw[ar]
      rw[a6]
      exact this
     ·refine t0u (A:=A) (ds:=R) (st:=st) (av1:=λt=>bq (F++W) t) s2 rfl bC ar ?_ aU aC aD bB (i0g F bf) (c0b _ bb)
      intro i k d am
      show stamp e i=stamp (z ae O N) i
      rw[ar i]
      cases hb:nth st.ow i with
      |none=>unfold stamp at am;rw[hb]at am;cases am
      |some b =>
       rcases ag i b hb with⟨q,aK,G,sz,by_,nn,ai,V,M,xs,rfl,l,_,aW⟩|⟨_,l⟩
       ·have:=aW (d.resolve_left (λh=>h q))
        simp[stamp,hb,l,this]
       ·unfold stamp
        rw[hb,l]
   ·exact J.elim
  |exit i=>exact S
  |ret=>exact S
  |_=>exact S
 have a1:Sim P h0 w0 be oe H (z E st.bx st.ow) h a w:=by
  refine f.refr (fr:=g0d A.vars E (F++W)) λt=>?_
  have aV:=f.fr t
  have I:=f.rdA aV
  rcases bp (F++W) t with⟨q,bn⟩|⟨v,q,l⟩
  ·rw[q]
   rcases g0g F W t with⟨av,az,ab⟩|⟨az,ab⟩
   ·rw[ab]
    rcases aC _ az with rfl|⟨i,k,rfl,_,T⟩|⟨i,o,rfl,_,T⟩
    ·trivial
    ·rw[T]at I;exact I
    ·rw[T]at I;exact I
   ·rw[ab]
    have bl:t ∉ R:=λz=>by
     obtain⟨av,y⟩:=aD t z bn
     exact az av y
    rcases s1 t bl with h|⟨h,_⟩
    ·rw[h];trivial
    ·rw[h];exact I
  ·rw[q]
   rw[l]at I
   exact I
 obtain⟨br,aa⟩:=S0q (μ:=μ) aa
 have aX:Inv br a w:=⟨E++ad,ac,E,ad,st.bx,st.ow,h,be,oe,H,rfl,rfl,rfl,bo,aE,aF,aa,a1⟩
 classical
 let Y:Act->World->Nat:=λa w=>if C:∃ m,Inv m a w then Classical.choose (u0l _ C)else 0
 refine wp_loop (λa w=>∃ m,Inv m a w) Y ⟨_,aX⟩ λa w C=>?_
 have aZ:Y a w=Classical.choose (u0l _ C):=by simp only[Y,dif_pos C]
 refine Code.wp_mono (λe aj aB aG=>?_) (a2 _ a w (Classical.choose_spec (u0l _ C)).1)
 cases e with
 |normal =>
  obtain⟨U,ao,an⟩:=aG
  refine⟨⟨U,ao⟩,?_⟩
  have au:∃ m,Inv m aj aB:=⟨U,ao⟩
  have:Y aj aB=Classical.choose (u0l _ au):=by simp only[Y,dif_pos au]
  rw[aZ,this]
  exact Nat.lt_of_le_of_lt ((Classical.choose_spec (u0l _ au)).2 U ao) an
 |_=>exact aG
end
section
variable {P:Program} {h0:Hp} {w0:World} {be:Nat->Nat} {oe:Nat->Value} {H:Hp} {st:St} {h:Hp} {a:Act} {w:World}
theorem j0g(c:Code):∀(Q:Ex->St->Hp->Prop) (st:St) (h:Hp) (a:Act) (w:World) (be:Nat->Nat) (oe:Nat->Value) (H:Hp),Sim P h0 w0 be oe H st h a w->ev P c Q st h->c.wp P (f0g P h0 w0 Q) a w:=by
 induction c with
 |skip=>exact λQ st h a w be oe H f j=>wp_skip ⟨st,h,be,oe,H,j,f⟩
 |region id ops d=>grind[S0j]
 |seq x y o p =>
  intro Q st h a w be oe H f j
  refine wp_seq (Code.wp_mono (λe a w l=>?_) (o _ _ _ _ _ _ _ _ f j))
  cases e with
  |normal=>obtain⟨st,h,be,oe,H,k,f⟩:=l;exact p _ _ _ _ _ _ _ _ f k
  |exit i=>exact l
  |ret=>exact l
  |_=>exact l
 |cond c x y o p =>
  intro Q st h a w be oe H f j
  simp only[ev]at j
  split at j
  ·rename_i b m
   have g:=f.rdO c
   rw[m]at g
   exact wp_cond_split g (λe=>o _ _ _ _ _ _ _ _ f (j.1 e)) (λe=>p _ _ _ _ _ _ _ _ f (j.2 e))
  ·exact j.elim
 |block id c n =>
  intro Q st h a w be oe H f j
  refine wp_block (Code.wp_mono (λe a w l=>?_) (n _ _ _ _ _ _ _ _ f j))
  cases e with
  |normal=>exact l
  |exit i =>
   obtain⟨st,h,be,oe,H,k,f⟩:=l
   simp only[Exit.inBlock]
   dsimp only at k
   cases m:Nat.beq i id with
   |true =>
    rw[m]at k
    rw[if_pos (Nat.eq_of_beq_eq_true m)]
    exact⟨st,h,be,oe,H,k,f⟩
   |false =>
    rw[m]at k
    rw[if_neg (Nat.ne_of_beq_eq_false m)]
    exact⟨st,h,be,oe,H,k,f⟩
  |ret=>exact l
  |_=>exact l
 |loop c n=>exact λQ st h a w be oe H f j=>n0n n f j
 |exit i=>exact λQ st h a w be oe H f j=>wp_exit ⟨st,h,be,oe,H,j,f⟩
 |ret=>exact λQ st h a w be oe H f j=>wp_ret ⟨st,h,be,oe,H,j,f⟩
 |_=>exact λQ st h a w be oe H f j=>j.elim
def m0r(tmps:Array Value):ResultVar->Sem Value
 | .tmp t=>pure (tmps.getD t undef)
 | .cell a t=>do loadVar t (←asAddr (tmps.getD a undef))
theorem h08:∀(l:List ResultVar) (st:St) (h:Hp) {K:List Value->St->Hp->Prop},Sim P h0 w0 be oe H st h a w->C0j P l st h K ->
  ∃ vs st' h',K vs st' h'/\Sim P h0 w0 be oe H st' h' a w/\(l.mapM (m0r a.tmps)).run P w = .ok vs w
 | [],st,h,K,c,d=>⟨[],st,h,d,c,rfl⟩
 | .tmp t::r,st,h,K,c,d=>by
  obtain⟨n,f,m,s1,_⟩:=v03 c (c.rdA (c.fr t)) d
  obtain⟨vs,u,q,p,s2,s⟩:=h08 r n f s1 m
  grind[Sem.run_bind,m0r,Sem.run_pure,Result.andThen_ok]
 | .cell t ty::r,st,h,K,c,d=>by
  simp only[C0j]at d
  split at d
  ·rename_i i off s
   split at d
   ·rename_i cs J D
    have g:=c.rdA (c.fr t)
    rw[s]at g
    obtain⟨f,vs,q,z⟩:=c.box i cs J D
    obtain⟨av,v,F,G,I⟩:=R.load_row (H:=H) (b:=be i) (o:=0) (be:=be) d q (λj v A=>by simp[Hp.cell,z,A])
    obtain⟨n,f,m,s1,_⟩:=v03 c G F
    obtain⟨L,u,y,p,s2,E⟩:=h08 r n f s1 m
    refine⟨_,u,y,p,s2,?_⟩
    have C:(loadVar ty ⟨be i,off,none⟩).run P w = .ok v w:=by
     obtain⟨x,k,e⟩:=R.wpR_sound _ _ w c.mv.vis (I (λx _=>x=v) rfl)
     rw[Nat.zero_add]at k
     rw[k,e]
    have k:a.tmps.getD t undef=ptr (be i) off:=g.2
    simp only[List.mapM_cons,Sem.run_bind,m0r,k,ptr,asAddr,Sem.run_pure,Result.andThen_ok,C,E]
   ·exact d.elim
  ·exact d.elim
theorem m0i:∀(args:List Value) (i s:Nat),E3 (Q0b i args) s = .dead∨E3 (Q0b i args) s = .val (if i<=s then args.getD (s-i) undef else undef)
 | [],i,s => .inl rfl
 |v::r,i,s=>by
  simp only[Q0b]
  rw[V3]
  by_cases e:i=s
  ·subst e;right;simp
  ·rw[if_neg e]
   rcases m0i r (i+1) s with h'|h'
   all_goals grind
theorem T2.less{h h' H:Hp}{w d:World}(m:T2 h w H d)(c:∀ b o,h' b=some o->H b=some o):T2 h w h' d:=by
 refine⟨m.os,m.tape,m.output,m.size,m.keep,λb o a=>m.vis b o (c b o a),λb a=>?_,m.fz,m.dn⟩
 cases hc:h' b with
 |none=>exact absurd hc a
 |some o=>exact m.fresh b (by rw[c b o hc];simp)
theorem o0n{f:FuncId}{fn:Func}{args:List Value}{n:Value->Hp->Prop}(hf:P.funcs[f]?=some fn)(l:l0u P fn args h n):Tr P f args.toArray h n:=by
 refine⟨λw C=>?_⟩
 unfold l0u at l
 split at l
 ·rename_i c y
  split at l
  ·rename_i q
   have q:=Nat.le_of_ble_eq_true q
   have D:Sim P h w (λ_=>0) (λ_=>undef) h ⟨fn.ntmps,Q0b 0 args,[],[]⟩ h { tmps:=args.toArray++Array.replicate (fn.ntmps-args.toArray.size) undef,defers:=[] } w:=by
    refine⟨T2.refl C,λ_ _ h=>h,(λi cs ty d=>nomatch d),(λi b d=>nomatch d),(λi a e sz by_ nn xs d=>nomatch d),(λi a v d=>nomatch d),(λi j cs ty cs' L d=>nomatch d),
     (λi j a e sz by_ nn xs I F K E G M g d=>nomatch d),(λi cs ty j a e sz by_ nn xs d=>nomatch d),rfl,by simp;omega,λa=>?_⟩
    rcases m0i args 0 a with h'|h'
    ·grind[I2,E3,Q0b]
    show I2 _ _ _ (E3 (Q0b 0 args) a) _
    rw[h']
    simp only[Nat.zero_le,if_true,Nat.sub_zero]
    show _=_
    simp only[Array.getD_eq_getD_getElem?]
    grind
   refine calls_of_wp hf y (Code.wp_mono (λe m p o=>?_) (j0g c _ _ _ _ _ _ _ _ D l))
   have fin:∀ {st h' be oe H},C0j P fn.results.toList st h' (λvs _ h=>n (P0b vs) h)->Sim P h w be oe H st h' m p->m.defers = []/\∃ v,(results fn m.tmps).run P p = .ok v p/\∃ s h',Ending.returned v = .returned s/\n s h'/\T2 h w h' p:=by
    intro st h' be oe H k a
    obtain⟨vs,J,u,t,s2,z⟩:=h08 _ _ _ a k
    refine⟨a.dfr,P0b vs,?_,P0b vs,u,rfl,t,s2.mv.less s2.sub⟩
    have A:results fn m.tmps=(fn.results.mapM (m0r m.tmps) >>= λvs=>pure (if h:vs.size=1 then vs[0]else .tuple vs)):=by
     unfold results
     congr 1
    rw[A,Array.mapM_eq_mapM_toList]
    simp only[Sem.run_bind,Sem.run_map,z,Result.andThen_ok,Sem.run_pure]
    cases vs with
    |nil=>rfl
    |cons x r=>cases r<;>rfl
   cases e with
   |normal=>obtain⟨st,h',be,oe,H,k,a⟩:=o;exact fin k a
   |ret=>obtain⟨st,h',be,oe,H,k,a⟩:=o;exact fin k a
   |exit i=>obtain⟨st,h',be,oe,H,k,a⟩:=o;exact k.elim
   |_=>exact o.elim
  ·exact l.elim
 ·exact l.elim
end
open Go.RowKit Go.ChangeShapes Go.WideShapes Go.ChangeAt
theorem Tr.val{P:Program}{f:FuncId}{args:Array Value}{h:Hp}{x:Value}{a:Value->Hp->Prop}(t:Tr P f args h λv h'=>v=x/\h'=h)(d:a x h):Tr P f args h a :=
 t.mono λ_ _ ⟨b,c⟩=>by rw[b,c];exact d
theorem Tr.calls{P:Program}{f:FuncId}{args:Array Value}{c:World}{x:Value}(t:Tr P f args (λb=>c.heap[b]?) λv h'=>v=x/\∀ b o,c.heap[b]?=some o->h' b=some o):
  Calls P f args c λe d=>e = .returned x/\Below c.heap.size c d/\∀ a:Addr,a.block<c.heap.size->d.frozen? a=c.frozen? a:=by
 refine(t.run c (λb o h=>h)).mono ?_
 rintro e d ⟨v,h',rfl,⟨rfl,g⟩,m⟩
 refine⟨rfl,⟨m.os,m.tape,m.output,m.size,λk i=>?_⟩,m.fz⟩
 have:c.heap[k]?=some c.heap[k]:=by simp[i]
 rw[this]
 exact m.vis _ _ (g k _ this)
theorem w64{x:Int}(a : -9223372036854775808<=x)(b:x<=9223372036854775807):IntKind.i64.wrap x=x:=by
 simp[IntKind.wrap,IntKind.signed,IntKind.bits]
 omega
theorem X0p{n:Nat}(h:n<=maxLen):n<=9223372036854775807:=by
 grind[maxLen]
def H0(x:Int):Prop := -9223372036854775808<=x/\x<=9223372036854775807
theorem w0v{x:Int}(h:(Lit.int .i64 x).wf=true):H0 x:=by
 simpa [Lit.wf,IntKind.min,IntKind.max,IntKind.signed,IntKind.bits,H0] using h
section
variable {H:Type} {enc:TypeId×Value->H} {P:Program}
theorem H0a(i:laidOutB P=true){c f:World}(g:Below c.heap.size c f){m:Nat->Bool}:∀ {e:List TypeId} {vs:List Value} {ds:List (DataW H)} {b:List MemPlace},
  (∀ t∈e,P.readableRec t=true/\t<P.types.size)->DataW.TrodAll enc P c 0 (λ_=>true) true e vs ds b->(∀ p∈b,p.block<c.heap.size)->(∀ p∈b,m p.block=true) ->
  DataW.TrodAll enc P f 0 m true e vs ds b
 | [],vs,ds,b,_,h,_,_=>by
  obtain⟨rfl,rfl,rfl⟩:=trodAll_nil h
  exact rfl
 |t::e,vs,ds,b,l,h,j,k=>by
  obtain⟨v,z,d,y,p,q,rfl,rfl,rfl,n,o⟩:=trodAll_cons h
  obtain⟨u,w⟩:=l t mS
  refine⟨p,q,WideElems.Trod_stays i u w n (λx a=>g.same (j x (List.mem_append_left _ a))) (λx a=>k x (List.mem_append_left _ a)),?_,rfl⟩
  exact H0a i g (λt s=>l t (mC _ s)) o (λx a=>j x (List.mem_append_right _ a)) (λx a=>k x (List.mem_append_right _ a))
theorem R0e{f:Func}{h:ChangeSpec}{n fresh y x:Bool}{i d:World}{args:Array Value}{v:Value}{ds k:List (DataW H)}{e pa pv:List MemPlace}
  (l:DataW.Whole enc P f.params.toList h.vars n i args.toList ds k e)
  (u:∀(b:Nat) (g:Nat->Bool) (z:Bool),DataW.TrodAll enc P d b g z f.resultTypes.toList (v.resultList f.resultTypes.size) (h.fn H (ds++k)).results [])
  (o:∀ g:Nat->Bool,(∀ p∈e,g p.block=true)->DataW.TrodAll enc P d 0 g true f.params.toList args.toList (h.fn H (ds++k)).args pa)
  (w:∀ g:Nat->Bool,(∀ p∈e,g p.block=true)->DataW.TrodVars enc P d g h.vars (h.fn H (ds++k)).vars pv)
  (q:e=pa++pv) (C:i.keptBut d (·∈e)) (A:∀ a:Addr,a.block<i.heap.size->d.frozen? a=i.frozen? a)
  (D:∀(j:Nat) (t:TypeId) (r:Value),f.resultTypes[j]?=some t->(v.resultList f.resultTypes.size)[j]?=some r->Value.okWide P d .any 0 t r) :
  h.post enc P f n fresh y x i args v d:=by
 have m:=λp c=>l.lt (p:=p) c
 refine⟨ds,k,e,[],pa,pv,l,u _ _ _,o _ (λp c=>by simpa using m p c),w _ (λp c=>by simpa using m p c),World.keptBut_mono (λp c=>⟨c,.inr (by rwa [q,List.mem_append]at c)⟩) C,λ_=>?_⟩
 obtain⟨_,_,_,_,_,E,F⟩:=l
 have s:([]++pa)++pv=e:=by simp[q]
 refine⟨D,_,_,([]++pa)++pv,⟨[]++pa,pv,trodAll_append (o _ (λ_ _=>rfl)) (u _ _ _),w _ (λ_ _=>rfl),rfl,?_,?_⟩,λp c _=>by rwa [s]at c⟩
 ·intro b off c
  rw[s]at c
  rw[A _ (m _ c)]
  exact E b off c
 grind
theorem n0r{f:Func}{c:ChangeSpec}{g fresh w o:Bool}{b d:World}{args:Array Value}{ds h:List (DataW H)}{s:List MemPlace}{n:TypeId}
  (D:laidOutB P=true) (F:∀ t∈f.params.toList,P.readableRec t=true/\t<P.types.size) (m:c.vars = []) (j:c.fn H (ds++h) = { results:=[.lit (.bool true)],args:=ds })
  (k:f.resultTypes = #[n]) (l:P.underlying n=some .bool) (e:DataW.Whole enc P f.params.toList c.vars g b args.toList ds h s)
  (u:Below b.heap.size b d) (x:∀ a:Addr,a.block<b.heap.size->d.frozen? a=b.frozen? a):c.post enc P f g fresh w o b args (.bool true) d:=by
 have E:=λp y=>e.lt (p:=p) y
 have v:=e
 obtain⟨p,q,C,i,rfl,_,_⟩:=e
 rw[m]at i
 obtain⟨rfl,rfl⟩:=trodVars_none i
 refine R0e (pa:=p) (pv:=[]) v (λ_ _ _=>?_) (λA z=>?_) (λA z=>?_) rfl (u.frame _) x (ok_one k rfl (okWide_bool_mk l _))
 ·rw[j,k]
  exact trodAll_mk1 (shut_bool l _)
 ·grind[H0a,List.mem_append_left]
 ·rw[j,m]
  exact rfl
end
end Go.H
