/- The library of the walks, part HD: plain laws over the model. -/
import Derived.Test.YtmgikbbmpnbbjaaGreatHC
import Derived.ProofKit
namespace Go.H
set_option linter.unusedVariables false
set_option linter.unusedSimpArgs false
theorem Z6{i:Nat}{o:Oper}(h:j8 i o=true):∃ e∈o.after,Region.binds .any e=true/\e.on=i:=by
 unfold j8 at h
 rw[List.any_eq_true]at h
 simp_all
theorem A08{o:Oper}{t:Nat}:∀ {l:List Oper} {i:Nat},w02 o t l i=true->∀ k x,l[k]?=some x->x.dst=some t->j8 (i+k) o=true
 | [],i,h,k,x,a,b=>by simp at a
 |y::r,i,h,0,x,a,b=>by
  simp_all[w02,Nat.beq_refl,Bool.and_eq_true]
 |y::r,i,h,k+1,x,a,b=>by
  simp only[List.getElem?_cons_succ]at a
  have c:w02 o t r (i+1)=true:=by
   simp only[w02]at h
   grind
  have:=A08 c k x a b
  rwa [show i+1+k=i+(k+1) from by omega]at this
theorem C03{o:Oper}{ops:List Oper}:∀ {l:List Operand},N0a o ops l=true->∀ t,Operand.tmp t∈l->w02 o t ops 0=true
 | [],h,t,a=>by cases a
 | .tmp u::r,h,t,a=>by
  simp only[N0a,Bool.and_eq_true]at h
  rcases List.mem_cons.1 a with e|a
  ·cases e;exact h.1
  ·exact C03 h.2 t a
 | .const v::r,h,t,a=>by
  rcases List.mem_cons.1 a with e|a
  ·cases e
  ·exact C03 (l:=r) h t a
 | .global v::r,h,t,a=>by
  rcases List.mem_cons.1 a with e|a
  ·cases e
  ·exact C03 (l:=r) h t a
 | .func v::r,h,t,a=>by
  rcases List.mem_cons.1 a with e|a
  ·cases e
  ·exact C03 (l:=r) h t a
theorem A07{ops:List Oper}:∀ {l:List Oper},l0n ops l=true->∀ o∈l,∀ t,Operand.tmp t∈o.op.operands->∀ k x,ops[k]?=some x->x.dst=some t->∃ e∈o.after,Region.binds .any e=true/\e.on=k
 | [],h,o,a=>by cases a
 |y::r,h,o,a=>by
  simp only[l0n,Bool.and_eq_true]at h
  rcases List.mem_cons.1 a with rfl|a
  ·intro t d k x c b
   have:=A08 (C03 h.1 t (by simpa using d)) k x c b
   simp_all[Nat.zero_add,Z6]
  ·exact A07 h.2 o a
theorem v06{d:Nat}:∀ {l:List Oper},n08 d l=true->∀ o∈l,o.dst≠some d
 | [],h,o,a=>by cases a
 |y::r,h,o,a=>by
  simp only[n08]at h
  split at h
  ·rename_i c b
   simp only[Bool.and_eq_true,Bool.not_eq_true']at h
   rcases List.mem_cons.1 a with rfl|a
   ·grind[Nat.ne_of_beq_eq_false]
   ·exact v06 h.2 o a
  ·rename_i b
   rcases List.mem_cons.1 a with rfl|a
   ·grind
   ·exact v06 h o a
theorem A05{n:Nat}:∀ {l:List Oper},L0j n l=true->(∀ o∈l,∀ d,o.dst=some d->d<n) /\
  ∀(i j:Nat) (a b:Oper) (d:Nat),l[i]?=some a->l[j]?=some b->a.dst=some d->b.dst=some d->i=j
 | [],h=>⟨by simp,λi j a b d f=>by simp at f⟩
 |y::r,h=>by
  simp only[L0j]at h
  split at h
  ·rename_i d p
   simp only[Bool.and_eq_true]at h
   obtain⟨⟨v,k⟩,m⟩:=h
   obtain⟨g,s⟩:=A05 m
   have x:=v06 k
   refine⟨λo c e q=>?_,λi j a b e f w t u=>?_⟩
   ·rcases List.mem_cons.1 c with rfl|c
    ·simp_all
    ·exact g o c e q
   grind
  ·rename_i p
   obtain⟨g,s⟩:=A05 h
   grind
theorem e04:∀ {l:List Oper} {j:Nat},e0d l j=true->∀ k o,l[k]?=some o->∀ e∈o.after,Region.binds .any e=true->e.on<j+k
 | [],j,h,k,o,a=>by simp at a
 |y::r,j,h,k,o,a=>by
  simp only[e0d,Bool.and_eq_true,List.all_eq_true]at h
  cases k with
  |zero =>
   simp at a
   subst a
   intro e b c
   have:=h.1 e (by simpa using b)
   simp_all
  |succ k =>
   simp at a
   intro e b c
   have:=e04 h.2 k o a e b c
   omega
def w4:List Oper->List (Nat×AV)->List (Nat×AV)
 | [],fr=>fr
 |o::r,fr=>match o.dst with
  |some d=>(d,.dead)::w4 r fr
  |none=>w4 r fr
theorem v01{t:Nat}:∀ {l:List Oper} {fr:List (Nat×AV)},(∀ o∈l,o.dst≠some t)->E3 (w4 l fr) t=E3 fr t
 | [],fr,h=>rfl
 |o::r,fr,h=>by
  have c:=v01 (fr:=fr) λb a=>h b (mC _ a)
  simp only[w4]
  split
  all_goals simp_all[Z3,if_neg,List.mem_cons_self]
theorem y02{t:Nat}:∀ {l:List Oper} {fr:List (Nat×AV)} {o:Oper},o∈l->o.dst=some t->E3 (w4 l fr) t = .dead
 | [],fr,o,h,_=>by cases h
 |y::r,fr,o,h,a=>by
  simp only[w4]
  split
  ·rename_i d b
   rw[Z3]
   split
   ·rfl
   ·rename_i c
    rcases List.mem_cons.1 h with rfl|h
    ·grind
    ·exact y02 h a
  ·rename_i b
   rcases List.mem_cons.1 h with rfl|h
   ·rw[a]at b;cases b
   ·exact y02 h a
theorem H00(d:Nat)(f:j6)(r:List (Nat×j6))(s:Nat):P3 ((d,f)::r) s=if d=s then some f else P3 r s:=by
 simp only[P3]
 cases h:Nat.beq d s with
 |true=>rw[if_pos (Nat.eq_of_beq_eq_true h)]
 |false=>rw[if_neg (Nat.ne_of_beq_eq_false h)]
section
variable {P:Program} {h0:Hp} {w0:World} {be:Nat->Nat} {oe:Nat->Value} {H:Hp} {h:Hp} {a:Act} {w:World}
theorem Sim.refr{st:St}(b:Sim P h0 w0 be oe H st h a w){fr:List (Nat×AV)}(hf:∀ t,D2 st be oe (E3 fr t) (a.tmps.getD t undef)):Sim P h0 w0 be oe H { st with fr:=fr } h a w:=by
 have c:S6 st be oe { st with fr:=fr } be oe:=⟨Nat.le_refl _,λ_ _=>rfl,λi b h=>⟨b,h,Nat.le_refl _,λ_=>rfl⟩⟩
 refine⟨b.mv,b.sub,λi cs ty g=>?_,b.pub,b.own,b.frz,b.bb,b.oo,b.bo,b.dfr,b.siz,λt=>(hf t).grow c⟩
 obtain⟨d,vs,e,f⟩:=b.box i cs ty g
 exact⟨d,vs,e.grow c,f⟩
def w06(st:St)(be:Nat->Nat)(oe:Nat->Value)(h:Hp):j6->Value->Prop
 | .pu av,v=>D2 st be oe av v
 | .ef F,v=>F v h
theorem d03{L:List (Nat×j6)}{st:St}{h:Hp}{val:Nat->Value}{K:List (Nat×AV)->Prop}:∀ {l:List Operand} {acc:List (Nat×AV)},
  (∀ t,D2 st be oe (E3 acc t) (val t))->(∀ t,Operand.tmp t∈l->(∀ f,P3 L t=some f->w06 st be oe h f (val t))/\(P3 L t=none->D2 st be oe (E3 st.fr t) (val t))) ->
  r0e L st h l acc K->∃ fr,K fr/\∀ t,D2 st be oe (E3 fr t) (val t)
 | [],acc,c,b,a=>⟨acc,a,c⟩
 | .tmp t::r,acc,c,b,a=>by
  have i:∀ u,Operand.tmp u∈r->_:=λu d=>b u (mC _ d)
  have j:=b t mS
  have put:∀ av,D2 st be oe av (val t)->∀ u,D2 st be oe (E3 ((t,av)::acc) u) (val u):=λav g u=>by
   grind[Z3]
  simp only[r0e]at a
  split at a
  ·rename_i av e
   exact d03 (put av (j.1 _ e)) i a
  ·rename_i F e
   exact d03 (put (.val (val t)) rfl) i (a _ (j.1 _ e))
  ·rename_i e
   exact d03 (put _ (j.2 e)) i a
 | .const v::r,acc,c,b,a=>d03 (l:=r) c (λu d=>b u (mC _ d)) a
 | .global v::r,acc,c,b,a=>d03 (l:=r) c (λu d=>b u (mC _ d)) a
 | .func v::r,acc,c,b,a=>d03 (l:=r) c (λu d=>b u (mC _ d)) a
def B0u(P:Program)(st:St)(h:Hp)(L:List (Nat×j6))(o:Oper):Prop :=
 o.guard=none/\∃ f,(∀ d,o.dst=some d->P3 L d=some f)/\match f with
  | .pu av=>b0m P L o st=some av
  | .ef F=>(∀ v a b,Sub a b->F v a->F v b)/\∀ h',Sub h h'->r0e L st h' o.op.operands.toList [] λfr=>t8 P o { st with fr:=fr } h' (f0u { st with fr:=fr } h' F)
theorem l0c:∀ {L:List (Nat×j6)} {t:Nat} {f:j6},P3 L t=some f->(t,f)∈L
 | [],t,f,h=>by cases h
 |(d,a)::r,t,f,h=>by
  rw[H00]at h
  split at h
  ·grind
  ·exact mC _ (l0c h)
theorem T0r{st:St}{L:List (Nat×j6)}{o:Oper}{av:AV}{val:Nat->Value}(a:b0m P L o st=some av)
  (k:∀ t,Operand.tmp t∈o.op.operands->(∀ f,P3 L t=some f->w06 st be oe h f (val t))/\(P3 L t=none->D2 st be oe (E3 st.fr t) (val t))) :
  ∃ fr,(∀ t,D2 st be oe (E3 fr t) (val t))/\t8 P o { st with fr:=fr } h λi st' h'=>i=av/\st' = { st with fr:=fr }/\h'=h:=by
 have one:∀ x:Operand,(∀ t,x = .tmp t->Operand.tmp t∈o.op.operands)->rdS L st x ≠ .dead->∃ fr,(∀ t,D2 st be oe (E3 fr t) (val t))/\rdO { st with fr:=fr } x=rdS L st x:=by
  intro x b c
  cases x with
  |tmp t =>
   obtain⟨j,l⟩:=k t (b t rfl)
   have mk:∀ A,D2 st be oe A (val t)->∀ u,D2 st be oe (E3 [(t,A)] u) (val u):=λA g u=>by
    rw[Z3]
    split
    ·grind
    ·trivial
   have rd:∀ A,rdO { st with fr:=[(t,A)] } (.tmp t)=rdA st A:=λA=>by
    show Go.H.rdA _ (E3 [(t,A)] t)=_
    rw[Z3,if_pos rfl]
    obtain⟨n,fr,bx,ow⟩:=st
    cases A<;>rfl
   cases hL:P3 L t with
   |none=>grind[rdS]
   |some f =>
    cases f with
    |pu A=>exact⟨_,mk _ (j _ hL),by grind[rdS]⟩
    |ef F=>grind[absurd,rdS]
  |const v=>exact⟨[],λt=>trivial,rfl⟩
  |global v=>exact⟨[],λt=>trivial,rfl⟩
  |func v=>exact⟨[],λt=>trivial,rfl⟩
 unfold b0m at a
 split at a
 ·rename_i x b
  have c:rdS L st x ≠ .dead:=λe=>by rw[e]at a;cases a
  obtain⟨fr,g,e⟩:=one x (λt d=>by grind[Op.operands]) c
  refine⟨fr,g,?_⟩
  simp only[t8,b,e]
  revert a
  cases rdS L st x<;>intro a<;>first|(cases a;done)|(cases a;simp;done)
 ·rename_i x b
  have c:rdS L st x ≠ .dead:=λe=>by rw[e]at a;cases a
  obtain⟨fr,g,e⟩:=one x (λt d=>by grind[Op.operands]) c
  refine⟨fr,g,?_⟩
  simp only[t8,b,e]
  revert a
  cases rdS L st x<;>intro a<;>first|(cases a;done)|(cases a;simp;done)
 ·rename_i t x b
  have c:rdS L st x ≠ .dead:=λe=>by rw[e]at a;cases a
  obtain⟨fr,g,e⟩:=one x (λt d=>by grind[Op.operands]) c
  refine⟨fr,g,?_⟩
  simp only[t8,b,e]
  split at a
  all_goals grind[q0e,l05,q0i,R5]
 ·cases a
def s0t(P:Program)(h0:Hp)(w0:World)(ops:Array Oper)(st:St)(h:Hp)(L:List (Nat×j6))(listed:Array Bool)(a:Act)(w:World):Prop :=
 ∃ be oe H h',Sub h h'/\Sim P h0 w0 be oe H { st with fr:=w4 ops.toList st.fr } h' a w /\
  ∀ j o d f,ops[j]?=some o->o.dst=some d->listed.getD j false=true->P3 L d=some f->w06 st be oe h' f (a.tmps.getD d undef)
theorem D2.fr{st:St}{fr:List (Nat×AV)}{av:AV}{v:Value}(g:D2 st be oe av v):D2 { st with fr:=fr } be oe av v:=by
 obtain⟨n,a,bx,ow⟩:=st
 show D2 ⟨n,fr,bx,ow⟩ be oe av v
 exact D2.grow (st:=⟨n,a,bx,ow⟩) (st':=⟨n,fr,bx,ow⟩) (be:=be) (oe:=oe) (be':=be) (oe':=oe) (av:=av) (x:=v) ⟨Nat.le_refl _,λ_ _=>rfl,λi b h=>⟨b,h,Nat.le_refl _,λ_=>rfl⟩⟩ g
theorem Q6{ops:Array Oper}{st:St}{L:List (Nat×j6)}{listed:Array Bool}{j:Nat}{o:Oper}{Q:Exit->Act->World->Prop}
  (aD:∀(i j:Nat) (c af:Oper) (d:Nat),ops.toList[i]?=some c->ops.toList[j]?=some af->c.dst=some d->af.dst=some d->i=j)
  (Y:∀ o∈ops.toList,∀ d,o.dst=some d->d<st.n)
  (U:∀ t f,(t,f)∈L->∃(i:Nat) (c:Oper),ops.toList[i]?=some c/\c.dst=some t)
  (ak:∀(i:Nat) (c:Oper) (d:Nat),ops.toList[i]?=some c->c.dst=some d->∃ f,P3 L d=some f)
  (Z:ops[j]?=some o) (V:∀(j:Nat) (o:Oper),ops.toList[j]?=some o->B0u P st h L o) (am:∀ t,Operand.tmp t∈o.op.operands->∀(i:Nat) (c:Oper),ops.toList[i]?=some c->c.dst=some t->listed.getD i false=true)
  (K:s0t P h0 w0 ops st h L listed a w):o.wp P a w (s0t P h0 w0 ops st h L (listed.setIfInBounds j true)) Q:=by
 obtain⟨be,oe,H,h',ad,C,S⟩:=K
 have aa:ops.toList[j]?=some o:=by simpa using Z
 have X:o∈ops.toList:=List.mem_of_getElem? aa
 obtain⟨aF,f,hf,ab⟩:=V j o aa
 have ay:∀ d F,P3 L d=some (.ef F)->∀ v l k,Sub l k->F v l->F v k:=λd F I=>by
  obtain⟨i,c,l,k⟩:=U d _ (l0c I)
  obtain⟨_,aC,an,ax⟩:=V i c l
  rw[an d k]at I
  cases I
  exact ax.1
 have ah:∀ t,Operand.tmp t∈o.op.operands->(∀ f,P3 L t=some f->w06 st be oe h' f (a.tmps.getD t undef))/\(P3 L t=none->D2 st be oe (E3 st.fr t) (a.tmps.getD t undef)):=λt M=>by
  refine⟨λf hf=>?_,λau=>?_⟩
  ·obtain⟨i,c,l,k⟩:=U t f (l0c hf)
   exact S i c t f (by simpa using l) k (am t M i c l k) hf
  ·have g:=C.fr t
   have aq:E3 (w4 ops.toList st.fr) t=E3 st.fr t:=v01 λaB aw B=>by
    obtain⟨i,K,e⟩:=List.getElem_of_mem aw
    obtain⟨f,hf⟩:=ak i aB t (by rw[List.getElem?_eq_getElem K,e]) B
    rw[au]at hf;cases hf
   rw[←aq]
   exact D2.fr (st := { st with fr:=w4 ops.toList st.fr }) (fr:=st.fr) g
 have fin:∀ {fr:List (Nat×AV)} {y:Act} {s:World} {p:Hp} {be':Nat->Nat} {oe':Nat->Value} {q:Hp} {v:Value},Sub h' p->y=a.put o.dst v->Sim P h0 w0 be' oe' q { st with fr:=fr } p a s ->
   S6 { st with fr:=fr } be oe { st with fr:=fr } be' oe'->w06 st be' oe' p f v->s0t P h0 w0 ops st h L (listed.setIfInBounds j true) y s:=by
  intro fr y s p be' oe' q v ae A D m N
  subst A
  have ai:S6 { st with fr:=w4 ops.toList st.fr } be oe { st with fr:=w4 ops.toList st.fr } be' oe':=⟨m.bl,m.be,m.sm⟩
  have aj:S6 st be oe st be' oe':=⟨m.bl,m.be,m.sm⟩
  have s1:Sim P h0 w0 be' oe' q { st with fr:=w4 ops.toList st.fr } p a s :=
   D.refr (fr:=w4 ops.toList st.fr) λt=>D2.fr (st := { st with fr:=w4 ops.toList st.fr }) ((C.fr t).grow ai)
  have s2:Sim P h0 w0 be' oe' q { st with fr:=w4 ops.toList st.fr } p (a.put o.dst v) s:=by
   cases B:o.dst with
   |none=>exact s1
   |some d =>
    have ac:=s1.put (d:=d) (av := .dead) (v:=v) (Y o X d B) trivial
    refine ac.refr (fr:=w4 ops.toList st.fr) λt=>?_
    have g:=ac.fr t
    grind[Z3,y02]
  refine⟨be',oe',q,p,λb x al=>ae b x (ad b x al),s2,λi c d g l k T E=>?_⟩
  by_cases hij:j=i
  ·subst hij
   rw[Z]at l;cases l
   rw[hf d k]at E;cases E
   have ap:d<a.tmps.size:=by rw[C.siz];exact Y o X d k
   have:(a.put o.dst v).tmps.getD d undef=v:=by
    rw[k]
    simp[Act.put,ap]
   rw[this]
   exact N
  ·have ao:listed.getD i false=true:=by rw[getD_set_ne false hij]at T;exact T
   have ar:∀ z,o.dst=some z->z≠d:=λz aE e=>by
    grind
   have:(a.put o.dst v).tmps.getD d undef=a.tmps.getD d undef:=by
    cases B:o.dst with
    |none=>rfl
    |some z=>simp[Act.put,Array.getElem?_setIfInBounds_ne (ar z B)]
   rw[this]
   have ag:=S i c d g l k ao E
   cases g with
   |pu av=>exact D2.grow aj ag
   |ef F=>exact ay d F E _ _ _ ae ag
 cases f with
 |pu av =>
  obtain⟨fr,g,J⟩:=T0r (h:=h') ab ah
  have D:Sim P h0 w0 be oe H { st with fr:=fr } h' a w:=C.refr (fr:=fr) λt=>D2.fr (g t)
  refine Oper.wp_mono (λy s O=>?_) (k00 D J)
  obtain⟨R,st',p,v,be',oe',q,⟨rfl,rfl,rfl⟩,A,s2,G,m⟩:=O
  exact fin (λ_ _ h=>h) A s2 m (D2.fr (st := { st with fr:=fr }) (fr:=st.fr) G)
 |ef F =>
  obtain⟨fr,J,g⟩:=d03 (acc:=[]) (be:=be) (oe:=oe) (val:=λt=>a.tmps.getD t undef) (λt=>trivial) (λt M=>ah t (by simpa using M)) (ab.2 h' ad)
  have D:Sim P h0 w0 be oe H { st with fr:=fr } h' a w:=C.refr (fr:=fr) λt=>D2.fr (g t)
  refine Oper.wp_mono (λy s O=>?_) (k00 D J)
  obtain⟨R,st',p,v,be',oe',q,W,A,s2,G,m⟩:=O
  cases R with
  |val u =>
   obtain⟨rfl,az,aA⟩:=W
   have N:v=u:=G
   subst N
   exact fin az A s2 m aA
  |_=>exact W.elim
theorem m0c{ops:Array Oper}(b:∀(k:Nat) (o:Oper),ops.toList[k]?=some o->∀ e∈o.after,Region.binds .any e=true->e.on<k){listed:Array Bool}(h:listed.size=ops.size)(g:Region.ready .any ops listed = []):
  ∀ j,j<ops.size->listed.getD j false=true:=by
 intro j
 induction j using Nat.strongRecOn with
 |_ j i =>
  intro a
  cases hl:listed.getD j false with
  |true=>rfl
  |false =>
   have f:j<listed.size:=by omega
   have:j∈Region.ready .any ops listed:=by
    refine mem_ready.2 ⟨?_,ops[j],by simp[a],λe d c=>?_⟩
    all_goals grind
   grind
theorem count_set{listed:Array Bool}{j:Nat}(a:listed.getD j true=false):(listed.setIfInBounds j true).toList.count true=listed.toList.count true+1:=by
 have b:j<listed.size:=by
  grind
 simp_all[Array.toList_setIfInBounds,List.count_set]
end
theorem U0r{P:Program}{t:TypeId}{cs:List F5}{off:Nat}{av:AV}(h:q0e P t cs off=some av):l05 P t cs off λa=>a=av:=by
 grind[q0e,l05,q0i,R5]
section
variable {P:Program} {h0:Hp} {w0:World} {be:Nat->Nat} {oe:Nat->Value} {H:Hp} {h:Hp} {a:Act} {w:World}
theorem Q06{L:List (Nat×j6)}{st stX:St}{x:Operand}
  (b:∀ t,x = .tmp t->(∀ av,P3 L t=some (.pu av)->D2 stX be oe av (a.tmps.getD t undef))/\(P3 L t=none->D2 stX be oe (E3 st.fr t) (a.tmps.getD t undef))):D2 stX be oe (u06 L st x) (a.eval x):=by
 cases x with
 |tmp t =>
  obtain⟨c,d⟩:=b t rfl
  show D2 stX be oe (u06 L st (.tmp t)) (a.tmps.getD t undef)
  simp only[u06]
  split
  ·grind
  ·trivial
  grind
 |const v=>exact rfl
 |global g=>trivial
 |func f=>trivial
theorem B07{L:List (Nat×j6)}{st stX:St}:∀(l:List Operand) {vs:List (Nat×Value)},(∀ t,Operand.tmp t∈l->D2 stX be oe (u06 L st (.tmp t)) (a.tmps.getD t undef))->f0d L st l=some vs ->
  (∀ p∈vs,p.2=a.eval (.tmp p.1))/\(∀ x∈l,(∃ t v,x = .tmp t/\(t,v)∈vs)∨(∀ ws,rho ws x=a.eval x))
 | [],vs,G,h=>by cases h;simp
 | .tmp t::r,vs,G,h=>by
  simp only[f0d]at h
  split at h
  ·rename_i v k
   split at h
   ·rename_i m j
    cases h
    obtain⟨c,e⟩:=B07 r (λu d=>G u (mC _ d)) j
    have g:=G t mS
    rw[k]at g
    have g:a.tmps.getD t undef=v:=g
    refine⟨λp i=>?_,λx b=>?_⟩
    ·rcases List.mem_cons.1 i with rfl|i
     ·exact g.symm
     ·exact c p i
    grind
   ·cases h
  ·cases h
 | .global _::r,vs,G,h=>by cases h
 | .const v::r,vs,G,h=>by
  obtain⟨c,e⟩:=B07 r (vs:=vs) (λu d=>G u (mC _ d)) h
  exact⟨c,λx b=>by
   rcases List.mem_cons.1 b with rfl|b
   ·exact .inr λ_=>rfl
   ·exact e x b⟩
 | .func f::r,vs,G,h=>by
  obtain⟨c,e⟩:=B07 r (vs:=vs) (λu d=>G u (mC _ d)) h
  exact⟨c,λx b=>by
   rcases List.mem_cons.1 b with rfl|b
   ·exact .inr λ_=>rfl
   ·exact e x b⟩
theorem d0k{L:List (Nat×j6)}{st stX:St}{o:Oper}{av:AV}(b:c0m P L o st=some av)
  (j:∀ t,Operand.tmp t∈o.op.operands->(∀ av,P3 L t=some (.pu av)->D2 stX be oe av (a.tmps.getD t undef))/\(P3 L t=none->D2 stX be oe (E3 st.fr t) (a.tmps.getD t undef))) :
  ∃ v,(execOp a.eval o).run P w = .ok (.value v) w/\D2 stX be oe av v:=by
 unfold c0m at b
 split at b
 ·rename_i vs f g
  obtain⟨d,e⟩:=B07 (a:=a) (stX:=stX) (be:=be) (oe:=oe) _ (λt h=>Q06 (x := .tmp t) λu i=>by grind) g
  split at b
  ·cases b
  ·split at b
   ·rename_i v c
    cases b
    rw[V0a,i09 f d e]at c
    exact⟨v,s0n _ c w,rfl⟩
   ·cases b
 ·cases b
theorem c06{L b:List (Nat×j6)}{st:St}:∀ {l:List Operand},(∀ t,Operand.tmp t∈l->P3 L t=P3 b t)->f0d L st l=f0d b st l
 | [],h=>rfl
 | .tmp t::r,h=>by simp only[f0d,u06,h t mS,c06 λu a=>h u (mC _ a)]
 | .global _::r,h=>rfl
 | .const _::r,h=>c06 (l:=r) λu a=>h u (mC _ a)
 | .func _::r,h=>c06 (l:=r) λu a=>h u (mC _ a)
theorem H0e{L:List (Nat×j6)}{st:St}{o:Oper}{t:TypeId}{x:Operand}{i off:Nat}(b:o.op = .load t x)(a:u06 L st x = .box i off):∀ {l:List Oper},o∈l->i∈T9 L st l
 | [],h=>nomatch h
 |y::r,h=>by
  rcases List.mem_cons.1 h with rfl|h
  ·grind[T9,List.mem_cons_self]
  ·have:=H0e b a h
   grind[T9,mC]
theorem Z0g{bx a:List BSt}{i:Nat}:∀ {l:List Nat},J09 bx l=J09 a l->i∈l->nth bx i=nth a i
 | [],_,h=>nomatch h
 |y::r,e,h=>by
  simp only[J09,List.cons.injEq]at e
  rcases List.mem_cons.1 h with rfl|h
  ·exact e.1
  ·exact Z0g e.2 h
theorem W0o{L:List (Nat×j6)}{st stX:St}{o:Oper}{av:AV}(m:Sim P h0 w0 be oe H stX h a w)(E:∀ t x i off,o.op = .load t x->u06 L st x = .box i off->nth stX.bx i=nth st.bx i)(c:I09 P L o st=some av)
  (f:∀ t,Operand.tmp t∈o.op.operands->(∀ av,P3 L t=some (.pu av)->D2 stX be oe av (a.tmps.getD t undef))/\(P3 L t=none->D2 stX be oe (E3 st.fr t) (a.tmps.getD t undef))) :
  ∃ v,(execOp a.eval o).run P w = .ok (.value v) w/\D2 stX be oe av v:=by
 unfold I09 at c
 split at c
 ·rename_i x d
  split at c
  ·cases c
   simp_all[Q06,Op.operands,execOp]
  ·cases c
 ·rename_i x d
  split at c
  ·cases c
   simp_all[Q06,Op.operands,execOp]
  ·cases c
 ·rename_i t x d
  have g:=Q06 (L:=L) (st:=st) (stX:=stX) (be:=be) (oe:=oe) (a:=a) (x:=x) λt e=>f t (by rw[d];simp[Op.operands,e])
  split at c
  ·rename_i i off l
   rw[l]at g
   split at c
   ·rename_i cs ty F
    split at c
    ·rename_i B s
     split at c
     ·cases c
      obtain⟨D,vs,p,q⟩:=m.box i cs ty (by grind)
      obtain⟨C,v,y,z,A⟩:=R.load_row (H:=H) (b:=be i) (o:=0) (be:=be) (U0r s) p (λj v u=>by simp[Hp.cell,q,u])
      subst y
      exact⟨v,R.run_of (R.exec_load d g.2 (by simpa using A)) w (i0q m),z⟩
     ·cases c
    ·cases c
   ·cases c
  ·cases c
 ·rename_i t x k d
  have g:=Q06 (L:=L) (st:=st) (stX:=stX) (be:=be) (oe:=oe) (a:=a) (x:=x) λt e=>f t (by rw[d];simp[Op.operands,e])
  split at c
  ·rename_i i off n l e
   rw[l]at g
   cases c
   exact⟨ptr (be i) (off+n),R.run_of (R.exec_fieldAddr d e g.2) w (i0q m),g.1,rfl⟩
  ·cases c
 ·split at c
  ·exact d0k c f
  ·cases c
 ·split at c
  ·split at c
   ·exact d0k c f
   ·cases c
  ·cases c
 ·cases c
theorem b02{L:List (Nat×j6)}{st stX:St}{val:Nat->Value}{K:List (Nat×AV)->Prop}:∀ {l:List Operand} {acc:List (Nat×AV)},
  (∀ t,D2 stX be oe (E3 acc t) (val t))->(∀ t,Operand.tmp t∈l->(∀ av,P3 L t=some (.pu av)->D2 stX be oe av (val t))/\(P3 L t=none->D2 stX be oe (E3 st.fr t) (val t))) ->
  R04 L st.fr l acc K->∃ fr,K fr/\∀ t,D2 stX be oe (E3 fr t) (val t)
 | [],acc,c,b,a=>⟨acc,a,c⟩
 | .tmp t::r,acc,c,b,a=>by
  have f:∀ u,Operand.tmp u∈r->_:=λu d=>b u (mC _ d)
  have h:=b t mS
  have put:∀ av,D2 stX be oe av (val t)->∀ u,D2 stX be oe (E3 ((t,av)::acc) u) (val u):=λav g u=>by
   grind[Z3]
  simp only[R04]at a
  split at a
  ·rename_i av e
   exact b02 (put av (h.1 _ e)) f a
  ·rename_i F e
   exact b02 (put .dead trivial) f a
  ·rename_i e
   exact b02 (put _ (h.2 e)) f a
 | .const v::r,acc,c,b,a=>b02 (l:=r) c (λu d=>b u (mC _ d)) a
 | .global v::r,acc,c,b,a=>b02 (l:=r) c (λu d=>b u (mC _ d)) a
 | .func v::r,acc,c,b,a=>b02 (l:=r) c (λu d=>b u (mC _ d)) a
theorem n0c:∀(L:List (Nat×j6)) (fr:List (Nat×AV)) (t:Nat),E3 (M0j L fr) t=match P3 L t with
  |some (.pu av)=>av
  |some (.ef _) => .dead
  |none=>E3 fr t
 | [],fr,t=>rfl
 |(d,.pu av)::r,fr,t=>by
  simp only[M0j]
  rw[Z3,H00]
  split
  ·rfl
  ·exact n0c r fr t
 |(d,.ef F)::r,fr,t=>by
  simp only[M0j]
  rw[Z3,H00]
  split
  ·rfl
  ·exact n0c r fr t
theorem e0k{L a:List (Nat×j6)}{o:Oper}{st:St}(h:∀ t,Operand.tmp t∈o.op.operands->P3 L t=P3 a t):I09 P L o st=I09 P a o st:=by
 have d:∀ x:Operand,(∀ t,x = .tmp t->Operand.tmp t∈o.op.operands)->u06 L st x=u06 a st x:=λx c=>by
  cases x with
  |tmp t=>grind[u06]
  |_=>rfl
 have e:c0m P L o st=c0m P a o st:=by
  unfold c0m
  rw[c06 (l:=o.op.operands.toList) λt b=>h t (by simpa using b)]
 unfold I09
 split
 ·rename_i x c;rw[d x λt b=>by grind[Op.operands]]
 ·rename_i x c;rw[d x λt b=>by grind[Op.operands]]
 ·rename_i t x c;rw[d x λt b=>by grind[Op.operands]]
 all_goals grind[Op.operands,List.mem_cons_self,Call.operands]
theorem c02{L c:List (Nat×j6)}{f:List (Nat×AV)}{K:List (Nat×AV)->Prop}:∀ {l:List Operand} {acc:List (Nat×AV)},(∀ t,Operand.tmp t∈l->P3 L t=P3 c t)->R04 L f l acc K->R04 c f l acc K
 | [],acc,a,h=>h
 | .tmp t::r,acc,a,h=>by
  have e:=a t mS
  have d:∀ u,Operand.tmp u∈r->P3 L u=P3 c u:=λu b=>a u (mC _ b)
  simp only[R04]at h ⊢
  rw[←e]
  split at h
  ·exact c02 d h
  ·exact c02 d h
  ·exact c02 d h
 | .const _::r,acc,a,h=>c02 (l:=r) (λu b=>a u (mC _ b)) h
 | .func _::r,acc,a,h=>c02 (l:=r) (λu b=>a u (mC _ b)) h
 | .global _::r,acc,a,h=>c02 (l:=r) (λu b=>a u (mC _ b)) h
structure d06 (P:Program) (st:St) (h:Hp) (ops:List Oper) (k:Nat) (L:List (Nat×j6)) (X E:List (Nat×Oper)):Prop where
 key:∀ t f,P3 L t=some f->∃(i:Nat) (oi:Oper),i<k/\ops[i]?=some oi/\oi.dst=some t
 cov:∀(i:Nat) (oi:Oper) (d:Nat),i<k->ops[i]?=some oi->oi.dst=some d->∃ f,P3 L d=some f
 each:∀(j:Nat) (o:Oper),j<k->ops[j]?=some o->o.guard=none/\((j,o)∈E∨((∀ p∈E,p.1≠j)/\∃ av,(I09 P L o st=some av∨((j,o)∈X/\N0j P st h L o av))/\∀ d,o.dst=some d->P3 L d=some (.pu av)))
 eff:∀ p∈E,p.1<k/\ops[p.1]?=some p.2/\∀ d,p.2.dst=some d->∃ F,P3 L d=some (.ef F)
 nd:(E.map λp=>p.1).Nodup
 xx:∀ p∈X,p.1<k/\ops[p.1]?=some p.2
theorem d06.add{st:St}{h:Hp}{ops:List Oper}{k:Nat}{L:List (Nat×j6)}{X w E A:List (Nat×Oper)}{o:Oper}{f:j6}
  (W:∀(i j:Nat) (q b:Oper) (d:Nat),ops[i]?=some q->ops[j]?=some b->q.dst=some d->b.dst=some d->i=j)
  (Y:∀(j:Nat) (o:Oper) (t i:Nat) (q:Oper),ops[j]?=some o->Operand.tmp t∈o.op.operands->ops[i]?=some q->q.dst=some t->i<j)
  (l:d06 P st h ops k L X E) (K:ops[k]?=some o) (B:o.guard=none) (N:w=X∨w=X ++ [(k,o)])
  (I:(A=E/\∃ av,f = .pu av/\(I09 P L o st=some av∨((k,o)∈w/\N0j P st h L o av)))∨(A=E ++ [(k,o)]/\∃ F,f = .ef F)):d06 P st h ops (k+1) (r07 o.dst f L) w A:=by
 have no:∀ d,o.dst=some d->P3 L d=none:=λd c=>by
  cases h:P3 L d with
  |none=>rfl
  |some g =>
   obtain⟨i,q,u,s,H⟩:=l.key d g h
   grind
 have up:∀ t g,P3 L t=some g->P3 (r07 o.dst f L) t=some g:=λt g m=>by
  cases c:o.dst with
  |none=>exact m
  |some d =>
   show P3 ((d,f)::L) t=some g
   grind[H00]
 have U:∀ d,o.dst=some d->P3 (r07 o.dst f L) d=some f:=λd c=>by
  rw[c];show P3 ((d,f)::L) d=some f;rw[H00,if_pos rfl]
 have dn:∀ t g,P3 (r07 o.dst f L) t=some g->P3 L t=some g∨(o.dst=some t/\g=f):=λt g m=>by
  cases c:o.dst with
  |none=>rw[c]at m;exact .inl m
  |some d =>
   rw[c]at m
   change P3 ((d,f)::L) t=some g at m
   grind[H00]
 have V:∀(j:Nat) (b:Oper),j<=k->ops[j]?=some b->I09 P L b st=I09 P (r07 o.dst f L) b st:=λj b J v=>e0k λt m=>by
  cases c:o.dst with
  |none=>rfl
  |some d =>
   show P3 L t=P3 ((d,f)::L) t
   rw[H00]
   grind
 have G:∀(j:Nat) (b:Oper) (av:AV),j<=k->ops[j]?=some b->N0j P st h L b av->N0j P st h (r07 o.dst f L) b av:=λj b av J v C=>by
  obtain⟨n,fr,bx,ow⟩:=st
  intro h' O
  refine c02 (λt m=>?_) (C h' O)
  cases c:o.dst with
  |none=>rfl
  |some d =>
   show P3 L t=P3 ((d,f)::L) t
   rw[H00]
   split
   all_goals grind
 have R:∀ p,p∈X->p∈w:=λp a=>by
  grind
 refine⟨λt g m=>?_,λi q d Z u s=>?_,λj b J v=>?_,λp a=>?_,?_,λp a=>?_⟩
 rotate_left 5
 ·rcases N with rfl|rfl
  ·obtain⟨u,s⟩:=l.xx p a
   grind
  ·rcases List.mem_append.1 a with a|a
   ·obtain⟨u,s⟩:=l.xx p a
    grind
   grind
 rotate_left 4
 ·rcases I with⟨rfl,_⟩|⟨rfl,_⟩
  ·exact l.nd
  ·rw[List.map_append,List.nodup_append]
   refine⟨l.nd,by simp,λx C y Q e=>?_⟩
   obtain⟨p,a,rfl⟩:=List.mem_map.1 C
   have:=(l.eff p a).1
   simp at Q
   omega
 ·rcases dn t g m with h|⟨h,_⟩
  ·obtain⟨i,q,u,s⟩:=l.key t g h
   exact⟨i,q,by omega,s⟩
  grind
 ·rcases Nat.lt_or_ge i k with h|h
  ·obtain⟨g,B⟩:=l.cov i q d h u s
   exact⟨g,up d g B⟩
  grind
 ·rcases Nat.lt_or_ge j k with h|h
  ·obtain⟨S,D⟩:=l.each j b h v
   refine⟨S,?_⟩
   rcases D with D|⟨D,av,z,T⟩
   ·grind
   ·right
    refine⟨λp a=>?_,av,z.imp (λz=>by grind) (λz=>⟨R _ z.1,G j b av (by omega) v z.2⟩),λd c=>up d _ (T d c)⟩
    grind
  ·have:j=k:=by omega
   subst this
   rw[K]at v;cases v
   refine⟨B,?_⟩
   rcases I with⟨rfl,av,rfl,a⟩|⟨rfl,F,rfl⟩
   ·right
    exact⟨λp a=>by have:=(l.eff p a).1;omega,av,a.imp (λa=>by grind) (λa=>⟨a.1,G _ o av (Nat.le_refl _) K a.2⟩),U⟩
   grind
 ·have aa:p∈E->p.1<k+1/\ops[p.1]?=some p.2/\∀ d,p.2.dst=some d->∃ F,P3 (r07 o.dst f L) d=some (.ef F):=λa=>by
   obtain⟨u,s,H⟩:=l.eff p a
   exact⟨by omega,s,λd c=>by obtain⟨F,M⟩:=H d c;exact⟨F,up d _ M⟩⟩
  grind
theorem e06{ops:List Oper}{st:St}{h:Hp}{K:List (Nat×j6)->List (Nat×Oper)->List (Nat×Oper)->Prop}
  (e:∀(i j:Nat) (b z:Oper) (d:Nat),ops[i]?=some b->ops[j]?=some z->b.dst=some d->z.dst=some d->i=j)
  (g:∀(j:Nat) (o:Oper) (t i:Nat) (b:Oper),ops[j]?=some o->Operand.tmp t∈o.op.operands->ops[i]?=some b->b.dst=some t->i<j) :
  ∀(l:List Oper) (k:Nat) (L:List (Nat×j6)) (X E:List (Nat×Oper)),(∀ j,l[j]?=ops[k+j]?)->d06 P st h ops k L X E->c04 P st h l k L X E K->∃ w x v,K w x v/\d06 P st h ops ops.length w x v
 | [],k,L,X,E,m,c,a=>by
  refine⟨L,X,E,a,?_⟩
  have G:ops.length<=k:=by
   have:=m 0
   simpa using this
  have lt:∀(i:Nat) (b:Oper),ops[i]?=some b->i<ops.length:=λi b h=>(List.getElem?_eq_some_iff.1 h).1
  exact⟨λt f h=>by obtain⟨i,b,_,y,A⟩:=c.key t f h;grind,λi b d D=>c.cov i b d (by omega),λj o F=>c.each j o (by omega),
   λp u=>by obtain⟨_,y,A⟩:=c.eff p u;grind,c.nd,λp u=>by obtain⟨_,y⟩:=c.xx p u;grind⟩
 |o::l,k,L,X,E,m,c,a=>by
  have s:ops[k]?=some o:=by simpa using (m 0).symm
  have q:∀ j,l[j]?=ops[k+1+j]?:=λj=>by have:=m (j+1);grind
  simp only[c04]at a
  split at a
  ·exact a.elim
  ·rename_i n
   split at a
   ·rename_i av B
    rw[l03]at a
    exact e06 e g l (k+1) _ _ _ q (c.add e g s n (.inl rfl) (.inl ⟨rfl,av,rfl,.inl B⟩)) a
   ·rcases a with⟨av,C,a⟩|a
    ·rw[l03]at a
     exact e06 e g l (k+1) _ _ _ q (c.add e g s n (.inr rfl) (.inl ⟨rfl,av,rfl,.inr ⟨by simp,C⟩⟩)) a
    ·exact e06 e g l (k+1) _ _ _ q (c.add e g s n (.inl rfl) (.inr ⟨rfl,_,rfl⟩)) a
theorem I0e:∀(r:List (Nat×Oper)) (q:Nat×Oper),p05 r=true->q∈r.tail->∃ p∈r,j8 p.1 q.2=true
 | [],q,_,h=>by cases h
 | [x],q,_,h=>by cases h
 |(i,o)::(j,b)::r,q,a,h=>by
  simp only[p05,Bool.and_eq_true]at a
  rcases List.mem_cons.1 h with rfl|h
  ·simp_all
  ·obtain⟨p,d,c⟩:=I0e ((j,b)::r) q a.2 h
   grind
theorem D03:∀(d r:List (Nat×Oper)),p05 (d++r)=true->p05 r=true
 | [],r,h=>h
 | [x],[],h=>rfl
 | [(i,o)],(j,a)::r,h=>by simp_all[List.singleton_append,p05,Bool.and_eq_true]
 |(i,o)::(j,a)::d,r,h=>by
  simp only[List.cons_append,p05,Bool.and_eq_true]at h
  exact D03 ((j,a)::d) r h.2
theorem f0k{k:Nat}:∀ {r:List Nat},inK k r=true->k∈r
 |x::r,h=>by
  simp only[inK,Bool.or_eq_true]at h
  rw[List.mem_cons]
  exact h.imp (λe=>Nat.eq_of_beq_eq_true e) f0k
theorem B05{k:Nat}:∀ {l:List (Nat×Oper)},k∈D09 l->∃ p∈l,p.1=k
 |x::r,h=>by
  rcases List.mem_cons.1 h with h|h
  ·exact⟨x,mS,h.symm⟩
  ·obtain⟨p,a,b⟩:=B05 h
   exact⟨p,mC _ a,b⟩
theorem T09{es:List Nat}{i:Nat}{o:Oper}:∀ {N:Nat},q08 es N i o=true->∀ k,k<N->k≠i->(∃ e∈o.after,Region.binds .any e=true/\e.on=k)∨k∈es
 |0,_,k,b,_=>by omega
 |N+1,h,k,b,a=>by
  simp only[q08,Bool.and_eq_true,Bool.or_eq_true]at h
  by_cases e:k=N
  ·subst e
   rcases h.1 with(g|g)|g
   ·exact absurd (Nat.eq_of_beq_eq_true g) a
   ·exact .inl (Z6 g)
   ·exact .inr (f0k g)
  ·exact T09 h.2 k (by omega) a
theorem U09{i:Nat}{o:Oper}:∀ {N:Nat},o08 N i o=true->∀ k,k<N->k≠i->∃ e∈o.after,Region.binds .any e=true/\e.on=k
 |0,_,k,a,_=>by omega
 |N+1,h,k,a,b=>by
  simp only[o08,Bool.and_eq_true,Bool.or_eq_true]at h
  by_cases e:k=N
  ·grind[absurd,Nat.eq_of_beq_eq_true,Z6]
  ·exact U09 h.2 k (by omega) b
def n0m(P:Program)(h0:Hp)(w0:World)(ops:Array Oper)(i:List Nat)(n:Nat)(fr:List (Nat×AV))(f:List BSt)(g:List Own)(l:Hp)(c:Nat)(F:List (Nat×Oper))(b:List (Nat×j6))(EV:List (Nat×Oper)->List (Nat×Oper)->List (Nat×j6)->St->Hp->Prop)(listed:Array Bool)(a:Act)(w:World):Prop :=
 ∃(dn r:List (Nat×Oper)) (L:List (Nat×j6)) (bx:List BSt) (ow:List Own) (h:Hp) (be:Nat->Nat) (oe:Nat->Value) (H:Hp),F=dn++r/\(dn.length<=c->ow=g/\Sub l h/\(bx=f∨∀ k,k<ops.size->listed.getD k false=true∨k∈i))/\(∀(j:Nat) (o:Oper),ops[j]?=some o->listed.getD j false=true->∀ e∈o.after,Region.binds .any e=true->listed.getD e.on false=true)/\(∀ p∈r,listed.getD p.1 true=false)/\(∀ p∈dn,listed.getD p.1 false=true) /\
  (J09 bx (T9 b ⟨n,fr,f,g⟩ ops.toList)=J09 f (T9 b ⟨n,fr,f,g⟩ ops.toList)∨∀ k,k<ops.size->listed.getD k false=true∨k∈i)/\Sim P h0 w0 be oe H ⟨n,w4 ops.toList fr,bx,ow⟩ h a w/\EV dn r L ⟨n,fr,bx,ow⟩ h /\
  (∀ t,(P3 b t=none->P3 L t=none)/\∀ av,P3 b t=some (.pu av)->P3 L t=some (.pu av)) /\
  ∀(j:Nat) (o:Oper) (d:Nat),ops[j]?=some o->o.dst=some d->listed.getD j false=true->∃ av,P3 L d=some (.pu av)/\D2 ⟨n,fr,bx,ow⟩ be oe av (a.tmps.getD d undef)
abbrev X0o(P:Program)(h0:Hp)(w0:World)(ops:Array Oper)(b:List Nat)(n:Nat)(fr:List (Nat×AV))(e:List BSt)(f:List Own)(g:Hp)(c:Nat)(E:List (Nat×Oper))(d:List (Nat×j6))(K:St->Hp->Prop)(listed:Array Bool)(a:Act)(w:World):Prop :=
 n0m P h0 w0 ops b n fr e f g c E d (λdn r L st h=>evC (T9 d ⟨n,fr,e,f⟩ ops.toList) (ops.size,b) P (c-dn.length) r L st h K) listed a w
theorem t0t{ops:Array Oper}{Q:Exit->Act->World->Prop}{Inv:Array Bool->Act->World->Prop}(i:∀(k:Nat) (o:Oper),ops.toList[k]?=some o->∀ e∈o.after,Region.binds .any e=true->e.on<k)
  (n:∀ listed a w j o,listed.size=ops.size->listed.getD j true=false->ops[j]?=some o->(∀ e∈o.after,Region.binds .any e=true->listed.getD e.on false=true)->Inv listed a w->o.guard=none/\o.wp P a w (Inv (listed.setIfInBounds j true)) Q)
  (g:∀ listed a w,(∀ j,j<ops.size->listed.getD j false=true)->Inv listed a w->Q .normal a w) :
  ∀(fuel:Nat) (listed:Array Bool) (a:Act) (w:World),listed.size=ops.size->listed.toList.count true+fuel=ops.size->Inv listed a w->wpAny P .any ops Q fuel listed a w
 |0,listed,a,w,f,t,d=>by
  have s:∀ j,j<ops.size->listed.getD j false=true:=λj l=>by
   have c:∀ b∈listed.toList,true=b:=List.count_eq_length.1 (by grind)
   have x:j<listed.size:=by omega
   have:=c listed[j] (by simp)
   simp[x,←this]
  refine⟨?_,g listed a w s d⟩
  cases m:Region.ready .any ops listed with
  |nil=>rfl
  |cons j r =>
   grind[Region.ready,List.mem_cons_self,mem_ready,Array.getElem?_eq_some_iff]
 |fuel+1,listed,a,w,f,t,d=>by
  refine⟨λm=>g listed a w (m0c i f m) d,λj l=>?_⟩
  obtain⟨c,o,h,q⟩:=mem_ready.1 l
  unfold wpOp
  simp only[h]
  obtain⟨u,z⟩:=n listed a w j o f c h q d
  have y:Region.wanted o (yielded ops a.tmps)=true:=by unfold Region.wanted;rw[u]
  rw[if_pos y]
  exact .inl (Oper.wp_mono (λp A v=>t0t i n g fuel _ p A (by simpa using f) (by rw[count_set c];omega) v) z)
theorem d0b{ops:Array Oper}{listed:Array Bool}{X:List (Nat×Oper)}
  (f:∀(k:Nat) (o:Oper),ops[k]?=some o->listed.getD k false=true->∀ e∈o.after,Region.binds .any e=true->listed.getD e.on false=true)
  (p:∀ y∈X,ops[y.1]?=some y.2):∀(n i a:Nat) (q:Oper),ops[a]?=some q->listed.getD a false=true->x0i X n i q=true->listed.getD i false=true
 |0,i,a,q,h,g,j=>by
  obtain⟨e,b,c,d⟩:=Z6 j
  have:=f a q h g e b c
  rwa [d]at this
 |n+1,i,a,q,h,g,j=>by
  simp only[x0i,Bool.or_eq_true,List.any_eq_true,Bool.and_eq_true]at j
  rcases j with l|⟨y,t,l,s⟩
  ·obtain⟨e,b,c,d⟩:=Z6 l
   have:=f a q h g e b c
   rwa [d]at this
  ·obtain⟨e,b,c,d⟩:=Z6 l
   have m:=f a q h g e b c
   rw[d]at m
   exact d0b f p n i y.1 y.2 (p y t) m s
theorem o0c{E:List (Nat×Oper)}{listed:Array Bool}{j:Nat}{o:Oper}(h:∀ e∈o.after,Region.binds .any e=true->listed.getD e.on false=true)
  (d:∀ dn r,E=dn++r->p05 r=true) {dn r:List (Nat×Oper)} (c:E=dn++r) (k:∀ p∈r,listed.getD p.1 true=false) (b:(j,o)∈r):∃ a,r=(j,o)::a:=by
 obtain⟨q,a,rfl⟩:∃ q a,r=q::a:=by
  cases r with
  |nil=>cases b
  |cons q a=>exact⟨q,a,rfl⟩
 rcases List.mem_cons.1 b with e|f
 ·grind
 ·exfalso
  obtain⟨p,i,g⟩:=I0e (q::a) (j,o) (d dn _ c) f
  grind[Z6,Nat.lt_or_ge,Array.getElem?_eq_none]
theorem a0h{ops:Array Oper}{n:Nat}{fr:List (Nat×AV)}{Z:List BSt}{ak:List Own}{aZ:Hp}{c:Nat}{K:List Nat}{X E F:List (Nat×Oper)}{ad:List (Nat×j6)}{EV:List (Nat×Oper)->List (Nat×Oper)->List (Nat×j6)->St->Hp->Prop}{Q:Exit->Act->World->Prop}{listed:Array Bool}{j:Nat}{o:Oper}
  (a8:∀(i j:Nat) (m bo:Oper) (d:Nat),ops.toList[i]?=some m->ops.toList[j]?=some bo->m.dst=some d->bo.dst=some d->i=j)
  (bg:∀ o∈ops.toList,∀ d,o.dst=some d->d<n) (ap:d06 P ⟨n,fr,Z,ak⟩ aZ ops.toList ops.toList.length ad X E) (bu:∀ k∈K,∃ p∈E,p.1=k) (aS:∀ x∈F,x∈E) (bt:(j,o)∈E->(j,o)∈F) (bv:(F.map λp=>p.1).Nodup)
  (bS:∀ dn r,F=dn++r->(∀ p∈dn,listed.getD p.1 false=true)->(∀ p∈r,listed.getD p.1 true=false)->(j,o)∈r->∃ ac,r=(j,o)::ac)
  (aX:∀ dn ac L bx ow h,F=dn++(j,o)::ac->(∀ p∈dn,listed.getD p.1 false=true)->EV dn ((j,o)::ac) L ⟨n,fr,bx,ow⟩ h->R04 L fr o.op.operands.toList [] λU=>t8 P o ⟨n,U,bx,ow⟩ h λav st' h'=>match st' with
   |⟨_,_,B,G⟩=>b0c (c-dn.length) ow G h h'/\R0g (c-dn.length) (O0a (ops.size,K) j o) (T9 ad ⟨n,fr,Z,ak⟩ ops.toList) bx B/\t01 av λav=>w8 B λB=>w8 G λG=>EV (dn ++ [(j,o)]) ac (r07 o.dst (.pu av) L) ⟨n,fr,B,G⟩ h')
  (aW:s0e X (X++E) (F.drop c)=true)
  (aa:listed.getD j true=false) (aC:ops[j]?=some o) (bY:listed.size=ops.size)
  (bd:∀ t,Operand.tmp t∈o.op.operands->∀(i:Nat) (m:Oper),ops.toList[i]?=some m->m.dst=some t->listed.getD i false=true)
  (bf:∀ e∈o.after,Region.binds .any e=true->listed.getD e.on false=true)
  (aY:n0m P h0 w0 ops K n fr Z ak aZ c F ad EV listed a w):o.guard=none/\o.wp P a w (n0m P h0 w0 ops K n fr Z ak aZ c F ad EV (listed.setIfInBounds j true)) Q:=by
 obtain⟨dn,r,L,bx,ow,h',be,oe,H,N,aw,bc,ao,ae,am,Y,af,O,aq⟩:=aY
 have aD:ops.toList[j]?=some o:=by simpa using aC
 have aL:o∈ops.toList:=List.mem_of_getElem? aD
 have aA:j<ops.toList.length:=(List.getElem?_eq_some_iff.1 aD).1
 have ay:j<listed.size:=by simpa [bY] using aA
 have a2:(∀ p∈E,p.1≠j) -> ¬ ∀ k,k<ops.size->listed.getD k false=true∨k∈K:=λbI e=>by
  rcases e j (by simpa using aA)with l|l
  ·simp[ay]at l aa
   rw[l]at aa;cases aa
  ·obtain⟨p,u,D⟩:=bu j l
   exact bI p u D
 have up:(∀ k,k<ops.size->listed.getD k false=true∨k∈K)->∀ k,k<ops.size->(listed.setIfInBounds j true).getD k false=true∨k∈K:=λe k an=>(e k an).imp (λh=>getD_set_true h) id
 obtain⟨bF,bM⟩:=ap.each j o aA aD
 refine⟨bF,?_⟩
 have bq:∀ t,P3 L t≠none->∃(i:Nat) (m:Oper),ops.toList[i]?=some m/\m.dst=some t:=λt z=>by
  cases h0':P3 ad t with
  |none=>exact absurd ((O t).1 h0') z
  |some f=>obtain⟨i,m,_,s,R⟩:=ap.key t f h0';exact⟨i,m,s,R⟩
 have frame:∀ t,(∀ aF∈ops.toList,aF.dst≠some t)->D2 ⟨n,fr,bx,ow⟩ be oe (E3 fr t) (a.tmps.getD t undef):=λt z=>by
  have g:=Y.fr t
  change D2 _ be oe (E3 (w4 ops.toList fr) t) _ at g
  rw[v01 z]at g
  exact D2.fr (st:=⟨n,w4 ops.toList fr,bx,ow⟩) (fr:=fr) g
 have aG:∀ t,Operand.tmp t∈o.op.operands->(∀ av,P3 L t=some (.pu av)->D2 ⟨n,fr,bx,ow⟩ be oe av (a.tmps.getD t undef))/\(P3 L t=none->D2 ⟨n,fr,bx,ow⟩ be oe (E3 fr t) (a.tmps.getD t undef)):=λt z=>by
  refine⟨λav ba=>?_,λbR=>frame t λaF bT I=>?_⟩
  ·obtain⟨i,m,l,s⟩:=bq t (by rw[ba];simp)
   obtain⟨M,C,D⟩:=aq i m t (by simpa using l) s (bd t z i m l s)
   rw[ba]at C;cases C
   exact D
  ·obtain⟨i,aY,e⟩:=List.getElem_of_mem bT
   have l:ops.toList[i]?=some aF:=by rw[List.getElem?_eq_getElem aY,e]
   obtain⟨M,C,_⟩:=aq i aF t (by simpa using l) I (bd t z i aF l I)
   rw[bR]at C;cases C
 have ab:∀ i,i≠j->∀ d,(listed.setIfInBounds j true).getD i d=listed.getD i d:=λi A d=>getD_set_ne d (Ne.symm A)
 have a3:∀ {B:List BSt} {G:List Own} {V:Hp} {be':Nat->Nat} {oe':Nat->Value} {T:Hp} {v:Value} {al:World},Sim P h0 w0 be' oe' T ⟨n,w4 ops.toList fr,B,G⟩ V a al->Sim P h0 w0 be' oe' T ⟨n,w4 ops.toList fr,B,G⟩ V (a.put o.dst v) al:=by
  intro B G V be' oe' T v al s1
  cases I:o.dst with
  |none=>exact s1
  |some d =>
   have u:=s1.put (d:=d) (av := .dead) (v:=v) (bg o aL d I) trivial
   refine u.refr (fr:=w4 ops.toList fr) λt=>?_
   have g:=u.fr t
   change D2 _ _ _ (E3 ((d,.dead)::w4 ops.toList fr) t) _ at g
   rw[Z3]at g
   split at g
   ·rename_i e
    subst e
    rw[y02 aL I]
    trivial
   ·exact g
 have a4:∀(v:Value) (i:Nat) (m:Oper) (d:Nat),ops[i]?=some m->m.dst=some d->i≠j->(a.put o.dst v).tmps.getD d undef=a.tmps.getD d undef:=λv i m d l s A=>by
  cases I:o.dst with
  |none=>rfl
  |some a6 =>
   have ah:a6≠d:=λe=>by subst e;exact A (a8 i j m o a6 (by simpa using l) aD s I)
   simp[Act.put,Array.getElem?_setIfInBounds_ne ah]
 have a5:∀(v:Value) (d:Nat),o.dst=some d->(a.put o.dst v).tmps.getD d undef=v:=λv d I=>by
  have aA:d<a.tmps.size:=by rw[Y.siz];exact bg o aL d I
  rw[I]
  simp[Act.put,aA]
 have aU:∀(i:Nat) (m:Oper),ops[i]?=some m->(listed.setIfInBounds j true).getD i false=true->∀ e∈m.after,Region.binds .any e=true->(listed.setIfInBounds j true).getD e.on false=true:=λi m l s e aJ aK=>by
  by_cases A:i=j
  ·subst A
   rw[aC]at l;cases l
   exact getD_set_true (bf e aJ aK)
  ·rw[ab i A]at s
   exact getD_set_true (bc i m l s e aJ aK)
 rcases bM with ax|⟨aB,av,bU|⟨bH,bN⟩,a9⟩
 ·
  have bK:(j,o)∈r:=by
   have ax:=bt ax
   rw[N]at ax
   rcases List.mem_append.1 ax with ai|ai
   ·have l:=ae _ ai
    simp[ay]at l aa
    rw[l]at aa;cases aa
   ·exact ai
  obtain⟨ac,rfl⟩:=bS dn r N ae ao bK
  have af:=aX dn ac L bx ow h' N ae af
  obtain⟨U,af,aN⟩:=b02 (acc:=[]) (st:=⟨n,fr,bx,ow⟩) (stX:=⟨n,fr,bx,ow⟩) (be:=be) (oe:=oe) (val:=λt=>a.tmps.getD t undef) (λt=>trivial) (λt z=>aG t (by simpa using z)) af
  have a0:Sim P h0 w0 be oe H ⟨n,U,bx,ow⟩ h' a w:=Y.refr (fr:=U) λt=>D2.fr (st:=⟨n,fr,bx,ow⟩) (fr:=w4 ops.toList fr) (aN t)
  refine Oper.wp_mono (λbr al ai=>?_) (k00 a0 af)
  obtain⟨M,⟨W,a7,B,G⟩,V,v,be',oe',T,an,rfl,s2,aO,J⟩:=ai
  obtain⟨aV,S,an⟩:=an
  rw[l03,v02,v02]at an
  have bQ:W=n:=by
   have C:a.tmps.size=W:=s2.siz
   have D:a.tmps.size=n:=Y.siz
   omega
  subst bQ
  have aP:S6 ⟨W,fr,bx,ow⟩ be oe ⟨W,fr,B,G⟩ be' oe':=⟨J.bl,J.be,J.sm⟩
  have aQ:S6 ⟨W,w4 ops.toList fr,bx,ow⟩ be oe ⟨W,w4 ops.toList fr,B,G⟩ be' oe':=⟨J.bl,J.be,J.sm⟩
  have a1:Sim P h0 w0 be' oe' T ⟨W,w4 ops.toList fr,B,G⟩ V a al :=
   s2.refr (fr:=w4 ops.toList fr) λt=>D2.fr (st:=⟨W,w4 ops.toList fr,B,G⟩) (fr:=a7) ((Y.fr t).grow aQ)
  have bZ:∀ d,o.dst=some d->P3 (r07 o.dst (.pu M) L) d=some (.pu M):=λd I=>by
   rw[I];show P3 ((d,.pu M)::L) d=_;rw[H00,if_pos rfl]
  have bi:∀ t,o.dst≠some t->P3 (r07 o.dst (.pu M) L) t=P3 L t:=λt z=>by
   cases I:o.dst with
   |none=>rfl
   |some d =>
    show P3 ((d,.pu M)::L) t=_
    rw[H00,if_neg λe=>z (by rw[I,e])]
  have bn:O0a (ops.size,K) j o=true->∀ k,k<ops.size->(listed.setIfInBounds j true).getD k false=true∨k∈K:=λag k bL=>by
   by_cases hkj:k=j
   ·subst hkj;left;simp[ay]
   ·rw[ab k hkj]
    rcases T09 (show q08 K ops.size j o=true from ag) k bL hkj with⟨e,aJ,aK,rfl⟩|ao
    ·exact .inl (bf e aJ aK)
    ·exact .inr ao
  refine⟨dn ++ [(j,o)],ac,r07 o.dst (.pu M) L,B,G,V,be',oe',T,by rw[N];simp,λaz=>(by
   have b1:dn.length<c:=by simp only[List.length_append,List.length_singleton]at az;omega
   obtain⟨C,D,au⟩:=aw (by omega)
   obtain⟨aM,bB⟩:∃ aM,c-dn.length=aM+1:=⟨c-dn.length-1,by omega⟩
   rw[bB]at aV S
   refine⟨aV.1.trans C,λb o bz=>aV.2 b o (D b o bz),?_⟩
   cases ag:O0a (ops.size,K) j o with
   |true=>exact .inr (bn ag)
   |false =>
    rw[ag]at S
    rcases au with au|au
    ·exact .inl (S.trans au)
    ·exact .inr (up au)),aU,λp u=>?_,λp u=>?_,?_,a3 a1,an,λt=>?_,λi m d l s R=>?_⟩
  ·have ah:p.1≠j:=λe=>by
    have bh:=bv
    rw[N,List.map_append,List.nodup_append]at bh
    have s:=bh.2.1
    rw[List.map_cons,List.nodup_cons]at s
    exact s.1 (List.mem_map.2 ⟨p,u,e⟩)
   rw[ab _ ah]
   exact ao p (mC _ u)
  ·rcases List.mem_append.1 u with u|u
   ·exact getD_set_true (ae p u)
   ·simp at u
    subst u
    simp[ay]
  ·cases ag:O0a (ops.size,K) j o with
   |false =>
    rw[ag]at S
    rcases am with am|am
    ·left
     rw[←am]
     cases hc:c-dn.length with
     |zero=>rw[hc]at S;exact S
     |succ aM =>
      rw[hc]at S
      have S:B=bx:=S
      rw[S]
    ·exact .inr (up am)
   |true=>exact .inr (bn ag)
  ·by_cases z:o.dst=some t
   ·obtain⟨_,_,aH⟩:=ap.eff (j,o) ax
    obtain⟨F,aH⟩:=aH t z
    exact⟨λe=>(by rw[aH]at e;cases e),λav e=>(by rw[aH]at e;cases e)⟩
   ·rw[bi t z]
    exact O t
  ·by_cases A:i=j
   ·subst A
    rw[aC]at l;cases l
    exact⟨M,bZ d s,by rw[a5 v d s];exact D2.fr (st:=⟨W,a7,B,G⟩) (fr:=fr) aO⟩
   ·rw[ab _ A]at R
    obtain⟨ar,C,D⟩:=aq i m d l s R
    have bC:o.dst≠some d:=λe=>A (a8 i j m o d (by simpa using l) aD s e)
    exact⟨ar,by rw[bi d bC];exact C,by rw[a4 v i m d l s A];exact D.grow aP⟩
 ·
  have bb:J09 bx (T9 ad ⟨n,fr,Z,ak⟩ ops.toList)=J09 Z (T9 ad ⟨n,fr,Z,ak⟩ ops.toList):=am.resolve_right (a2 aB)
  have bp:∀ {av:AV} {x:Value},D2 ⟨n,fr,bx,ow⟩ be oe av x->D2 ⟨n,w4 ops.toList fr,bx,ow⟩ be oe av x:=λg=>D2.fr (st:=⟨n,fr,bx,ow⟩) (fr:=w4 ops.toList fr) g
  obtain⟨v,bX,bs⟩:=W0o (st:=⟨n,fr,Z,ak⟩) (stX:=⟨n,w4 ops.toList fr,bx,ow⟩) Y (λb2 x i off C D=>Z0g bb (H0e C D aL)) bU (λt z=>⟨λav e=>bp ((aG t z).1 av ((O t).2 av e)),λe=>bp ((aG t z).2 ((O t).1 e))⟩)
  refine O7 bX ?_
  refine⟨dn,r,L,bx,ow,h',be,oe,H,N,(λaz=>⟨(aw az).1,(aw az).2.1,.inl ((aw az).2.2.resolve_right (a2 aB))⟩),aU,λp u=>?_,λp u=>getD_set_true (ae p u),.inl bb,a3 Y,af,O,λi m d l s R=>?_⟩
  ·have ah:p.1≠j:=aB p (aS _ (by rw[N];exact List.mem_append_right _ u))
   rw[ab _ ah]
   exact ao p u
  ·by_cases A:i=j
   ·subst A
    rw[aC]at l;cases l
    exact⟨av,(O d).2 av (a9 d s),by rw[a5 v d s];exact D2.fr (st:=⟨n,w4 ops.toList fr,bx,ow⟩) (fr:=fr) bs⟩
   ·rw[ab _ A]at R
    obtain⟨ar,C,D⟩:=aq i m d l s R
    exact⟨ar,C,by rw[a4 v i m d l s A];exact D⟩
 ·
  have bD:dn.length<=c:=by
   rcases Nat.lt_or_ge c dn.length with bO|bG
   ·exfalso
    obtain⟨⟨aj,q⟩,bj⟩:∃ b0,dn[c]?=some b0:=⟨_,List.getElem?_eq_getElem bO⟩
    have bk:(aj,q)∈dn:=List.mem_of_getElem? bj
    have bE:∃ t,F.drop c=(aj,q)::t:=by
     obtain⟨bP,D⟩:=List.getElem?_eq_some_iff.1 bj
     refine⟨(dn++r).drop (c+1),?_⟩
     rw[N,List.drop_eq_getElem_cons (by simp;omega),List.getElem_append_left bP,D]
    have bJ:listed.getD j false=false:=by simp[ay]at aa ⊢;exact aa
    have bV:listed.getD aj false=true:=ae (aj,q) bk
    have bW:ops[aj]?=some q:=by
     have:=(ap.eff (aj,q) (aS _ (by rw[N];exact List.mem_append_left _ bk))).2.1
     simpa using this
    obtain⟨t,z⟩:=bE
    rw[z]at aW
    simp only[s0e,List.all_eq_true]at aW
    have:=d0b (X:=X++E) bc (λy aE=>by
     rcases List.mem_append.1 aE with aE|aE
     ·have aR:=(ap.xx y aE).2;simpa using aR
     ·have aR:=(ap.eff y aE).2.1;simpa using aR) 8 j aj q bW bV (aW (j,o) bH)
    rw[bJ]at this;cases this
   ·exact bG
  obtain⟨rfl,bm,bA⟩:=aw bD
  obtain rfl:=bA.resolve_right (a2 aB)
  obtain⟨U,aX,aN⟩:=b02 (acc:=[]) (st:=⟨n,fr,bx,ow⟩) (stX:=⟨n,fr,bx,ow⟩) (be:=be) (oe:=oe) (val:=λt=>a.tmps.getD t undef) (λt=>trivial)
   (λt z=>⟨λav e=>(aG t (by simpa using z)).1 av ((O t).2 av e),λe=>(aG t (by simpa using z)).2 ((O t).1 e)⟩) (bN h' bm)
  have a0:Sim P h0 w0 be oe H ⟨n,U,bx,ow⟩ h' a w:=Y.refr (fr:=U) λt=>D2.fr (st:=⟨n,fr,bx,ow⟩) (fr:=w4 ops.toList fr) (aN t)
  refine Oper.wp_mono (λbr al ai=>?_) (k00 a0 aX)
  obtain⟨M,st',V,v,be',oe',T,⟨rfl,rfl,rfl⟩,rfl,s2,aO,J⟩:=ai
  have aP:S6 ⟨n,fr,bx,ow⟩ be oe ⟨n,fr,bx,ow⟩ be' oe':=⟨J.bl,J.be,J.sm⟩
  have aQ:S6 ⟨n,w4 ops.toList fr,bx,ow⟩ be oe ⟨n,w4 ops.toList fr,bx,ow⟩ be' oe':=⟨J.bl,J.be,J.sm⟩
  have a1:Sim P h0 w0 be' oe' T ⟨n,w4 ops.toList fr,bx,ow⟩ V a al :=
   s2.refr (fr:=w4 ops.toList fr) λt=>D2.fr (st:=⟨n,w4 ops.toList fr,bx,ow⟩) (fr:=U) ((Y.fr t).grow aQ)
  refine⟨dn,r,L,bx,ow,V,be',oe',T,N,λ_=>⟨rfl,bm,.inl rfl⟩,aU,λp u=>?_,λp u=>getD_set_true (ae p u),.inl rfl,a3 a1,af,O,λi m d l s R=>?_⟩
  ·have ah:p.1≠j:=aB p (aS _ (by rw[N];exact List.mem_append_right _ u))
   rw[ab _ ah]
   exact ao p u
  ·by_cases A:i=j
   ·subst A
    rw[aC]at l;cases l
    exact⟨M,(O d).2 M (a9 d s),by rw[a5 v d s];exact D2.fr (st:=⟨n,U,bx,ow⟩) (fr:=fr) aO⟩
   ·rw[ab _ A]at R
    obtain⟨ar,C,D⟩:=aq i m d l s R
    exact⟨ar,C,by rw[a4 v i m d l s A];exact D.grow aP⟩
theorem j0u{ops:Array Oper}{n:Nat}{fr:List (Nat×AV)}{m:List BSt}{s:List Own}{q:Hp}{c:Nat}{g:List Nat}{X E:List (Nat×Oper)}{l:List (Nat×j6)}{K:St->Hp->Prop}{Q:Exit->Act->World->Prop}{listed:Array Bool}{j:Nat}{o:Oper}
  (A:∀(i j:Nat) (b y:Oper) (d:Nat),ops.toList[i]?=some b->ops.toList[j]?=some y->b.dst=some d->y.dst=some d->i=j)
  (M:∀ o∈ops.toList,∀ d,o.dst=some d->d<n) (z:d06 P ⟨n,fr,m,s⟩ q ops.toList ops.toList.length l X E) (B:∀ k∈g,∃ p∈E,p.1=k) (C:p05 E=true) (G:s0e X (X++E) (E.drop c)=true)
  (I:listed.getD j true=false) (N:ops[j]?=some o) (R:listed.size=ops.size)
  (D:∀ t,Operand.tmp t∈o.op.operands->∀(i:Nat) (b:Oper),ops.toList[i]?=some b->b.dst=some t->listed.getD i false=true)
  (v:∀ e∈o.after,Region.binds .any e=true->listed.getD e.on false=true)
  (H:X0o P h0 w0 ops g n fr m s q c E l K listed a w):o.guard=none/\o.wp P a w (X0o P h0 w0 ops g n fr m s q c E l K (listed.setIfInBounds j true)) Q:=by
 refine a0h A M z B (λx S=>S) id z.nd (λdn r f F O J=>?_) (λdn T L bx ow h f F u=>?_) G I N R D v H
 ·exact o0c v (λdn r f=>D03 dn r (by rw[←f];exact C)) f O J
 ·simp only[evC]at u
  have e:c-(dn ++ [(j,o)]).length=c-dn.length-1:=by simp;omega
  simp only[e]
  exact u
theorem J0e:∀ {k:Nat} {E:List (Nat×Oper)} {f:Nat×Oper} {a:List (Nat×Oper)},S0g k E=some (f,a)->∃ A B,E=A++f::B/\a=A++B
 |_,[],f,a,h=>by simp[S0g]at h
 |0,x::r,f,a,h=>by
  simp only[S0g,Option.some.injEq,Prod.mk.injEq]at h
  obtain⟨rfl,rfl⟩:=h
  exact⟨[],r,rfl,rfl⟩
 |k+1,x::r,f,a,h=>by
  simp only[S0g]at h
  split at h
  ·rename_i c d b
   simp only[Option.some.injEq,Prod.mk.injEq]at h
   obtain⟨rfl,rfl⟩:=h
   obtain⟨A,B,rfl,rfl⟩:=J0e b
   grind
  ·cases h
theorem b0h{f:Nat×Oper}:∀ {p:Nat} {E:List (Nat×Oper)},N0o f p E=true->∃ q,E[p]?=some q/\j8 f.1 q.2=true
 |_,[],h=>by simp[N0o]at h
 |0,(i,q)::r,h=>⟨(i,q),rfl,by simpa [N0o] using h⟩
 |p+1,x::r,h=>by
  obtain⟨q,a,b⟩:=b0h (E:=r) (p:=p) (by simpa [N0o] using h)
  grind
theorem g0k:∀ {X:List (Nat×Oper)},noX X=true->X = []
 | [],_=>rfl
 |_::_,h=>by simp[noX]at h
theorem R06{Y:List (Nat×Oper)}:∀(E:List (Nat×Oper)),s0e [] Y E=true
 | []=>rfl
 |_::_=>rfl
theorem a05{l:Array Bool}{j:Nat}(h:l.getD j true=false):l.getD j false=false:=by
 grind
theorem S06{listed:Array Bool}:∀ {A B dn r:List (Nat×Oper)},A++B=dn++r->(∀ p∈A,listed.getD p.1 false=true)->(∀ p∈r,listed.getD p.1 true=false)->∃ C,dn=A++C/\B=C++r
 | [],B,dn,r,h,_,_=>⟨dn,rfl,by simpa using h⟩
 |x::A,B,[],r,h,a,b=>by
  grind
 |x::A,B,y::dn,r,h,a,b=>by
  simp only[List.cons_append,List.cons.injEq]at h
  obtain⟨rfl,h⟩:=h
  obtain⟨C,d,e⟩:=S06 h (λp c=>a p (mC _ c)) b
  grind
theorem h0k{rd:List Nat}{N:Nat×List Nat}{c:Nat}{L:List (Nat×j6)}{K:St->Hp->Prop}{dn d:List (Nat×Oper)}{j:Nat}{o:Oper}{n:Nat}{fr:List (Nat×AV)}{bx:List BSt}{ow:List Own}{h:Hp}
  (g:evC rd N P (c-dn.length) ((j,o)::d) L ⟨n,fr,bx,ow⟩ h K):R04 L fr o.op.operands.toList [] λf=>t8 P o ⟨n,f,bx,ow⟩ h λav st' h'=>match st' with
   |⟨_,_,a,b⟩=>b0c (c-dn.length) ow b h h'/\R0g (c-dn.length) (O0a N j o) rd bx a/\t01 av λav=>w8 a λa=>w8 b λb=>evC rd N P (c-(dn ++ [(j,o)]).length) d (r07 o.dst (.pu av) L) ⟨n,fr,a,b⟩ h' K:=by
 simp only[evC]at g
 have e:c-(dn ++ [(j,o)]).length=c-dn.length-1:=by simp;omega
 simp_all
def o0q(rd:List Nat)(N:Nat×List Nat)(P:Program)(m:Nat)(x:Nat×Oper)(r:List (Nat×Oper))(L:List (Nat×j6))(st:St)(h:Hp)(K:St->Hp->Prop):Prop:=match st with
 |⟨n,fr,bx,ow⟩=>R04 L fr x.2.op.operands.toList [] λc=>t8 P x.2 ⟨n,c,bx,ow⟩ h λav st' h'=>match st' with
  |⟨_,_,a,b⟩=>b0c 0 ow b h h'/\R0g 0 (O0a N x.1 x.2) rd bx a/\t01 av λav=>w8 a λa=>w8 b λb=>O0j rd N P m r (r07 x.2.dst (.pu av) L) ⟨n,fr,a,b⟩ h' K
theorem l0d{x:Nat×Oper}:∀ {r:List (Nat×Oper)},(∀ y∈r,j8 y.1 x.2=false)->y0i x r=true
 | [],_=>rfl
 |y::r,h=>by
  simp only[y0i,Bool.and_eq_true]
  exact⟨by rw[h y mS];rfl,l0d λz a=>h z (mC _ a)⟩
theorem w0n{f:(Nat×Oper)->List (Nat×Oper)->Prop}{x:Nat×Oper}:∀ {B C A:List (Nat×Oper)},(∀ y∈C++A++B,j8 y.1 x.2=false)->d0m f (c0c C (A++x::B))->f x (C++A++B)
 |B,C,[],a,h=>by
  simp only[List.nil_append,c0c,d0m]at h
  rw[l0d (by simpa using a)]at h
  simpa using h.1
 |B,C,y::A,a,h=>by
  simp only[List.cons_append,c0c,d0m]at h
  have b:d0m f (c0c (C ++ [y]) (A++x::B)):=by
   split at h
   ·exact h.2
   ·exact h
  have:=w0n (A:=A) (C:=C ++ [y]) (by simpa using a) b
  simpa using this
theorem V0r{rd:List Nat}{N:Nat×List Nat}{m:Nat}{L:List (Nat×j6)}{st:St}{h:Hp}{K:St->Hp->Prop}{j:Nat}{o:Oper}{A B:List (Nat×Oper)}(b:∀ y∈A++B,j8 y.1 o=false)
  (a:O0j rd N P (m+1) (A++(j,o)::B) L st h K):o0q rd N P m (j,o) (A++B) L st h K:=by
 obtain⟨n,fr,bx,ow⟩:=st
 simp only[O0j]at a
 have:=w0n (C:=[]) (x:=(j,o)) (by simpa using b) a
 exact this
theorem p0q{a b:Nat}(h:a≠b):Nat.beq a b=false:=by
 cases e:Nat.beq a b
 ·rfl
 ·exact absurd (Nat.eq_of_beq_eq_true e) h
theorem N0i:∀(l:List (Nat×Oper)),C0g l=l.length
 | []=>rfl
 |_::r=>by rw[C0g,N0i r];rfl
theorem q0q{f:Nat×Oper}{rd:List Nat}{N:Nat×List Nat}{K:St->Hp->Prop}{h:Hp}{st:St}{L:List (Nat×j6)}:∀ {p:Nat} {E:List (Nat×Oper)},M0r f rd N P p E L st h K->evC rd N P 0 (f::E) L st h K
 |0,_,h=>h
 |_+1,_,h=>h.1
theorem u0t{ops:Array Oper}{n:Nat}{fr:List (Nat×AV)}{bx:List BSt}{ow:List Own}{q:Hp}{c:Nat}{y:List Nat}{X E F:List (Nat×Oper)}{d:List (Nat×j6)}{K:St->Hp->Prop}{R:Act->World->Prop}{listed:Array Bool}
  (v:d06 P ⟨n,fr,bx,ow⟩ q ops.toList ops.toList.length d X E) (C:∀ x∈F,x∈E)
  (D:∀ a w st h be oe H,K st h->Sim P h0 w0 be oe H st h a w->R a w) (I:∀ j,j<ops.size->listed.getD j false=true)
  (G:X0o P h0 w0 ops y n fr bx ow q c F d K listed a w):R a w:=by
  obtain⟨dn,r,L,bx,O,h',be,oe,H,B,_,_,J,U,_,u,o,Q,z⟩:=G
  have M:r = []:=by
   cases r with
   |nil=>rfl
   |cons p Z =>
    have e:=J p mS
    have k:=(v.eff p (C _ (by rw[B];simp))).1
    grind
  subst M
  simp only[evC,v02]at o
  refine D a w _ h' be oe H o (u.refr (fr:=M0j L fr) λt=>?_)
  rw[n0c]
  have N:∀ t,P3 L t≠none->∃(i:Nat) (b:Oper),ops[i]?=some b/\b.dst=some t/\i<ops.size:=λt Y=>by
   cases h0':P3 d t with
   |none=>grind
   |some f =>
    obtain⟨i,b,e,k,m⟩:=v.key t f h0'
    grind
  cases hL:P3 L t with
  |none =>
   have V:∀ s∈ops.toList,s.dst≠some t:=λs W T=>by
    grind[List.getElem_of_mem]
   have g:=u.fr t
   grind[D2,E3,w4,v01]
  |some f =>
   cases f with
   |ef F=>trivial
   |pu av =>
    obtain⟨i,b,e,k,m⟩:=N t (by rw[hL];simp)
    obtain⟨S,l,A⟩:=z i b t e k (I i m)
    rw[hL]at l;cases l
    exact D2.fr (st:=⟨n,fr,bx,O⟩) (fr:=w4 ops.toList fr) A
theorem i0k{ops:Array Oper}{st:St}{K:St->Hp->Prop}{Q:Exit->Act->World->Prop}{R:Act->World->Prop}(bq:Sim P h0 w0 be oe H st h a w)(aq:W02 st.n ops.toList=true)
  (T:c04 P st h ops.toList 0 [] [] [] λL X E=>evD (T9 L st ops.toList) ops.size P X E L st h K)
  (a0:∀ a w st h be oe H,K st h->Sim P h0 w0 be oe H st h a w->R a w) :
  ∃ Inv:Array Bool->Act->World->Prop,(∀(k:Nat) (o:Oper),ops.toList[k]?=some o->∀ e∈o.after,Region.binds .any e=true->e.on<k) /\
   (∀ listed a w j o,listed.size=ops.size->listed.getD j true=false->ops[j]?=some o->(∀ e∈o.after,Region.binds .any e=true->listed.getD e.on false=true)->Inv listed a w->o.guard=none/\o.wp P a w (Inv (listed.setIfInBounds j true)) Q) /\
   (∀ listed a w,(∀ j,j<ops.size->listed.getD j false=true)->Inv listed a w->R a w)/\Inv (Array.replicate ops.size false) a w:=by
 simp only[W02,Bool.and_eq_true]at aq
 obtain⟨⟨bu,bv⟩,bz⟩:=aq
 obtain⟨ax,ah⟩:=A05 bu
 have aN:∀(k:Nat) (o:Oper),ops.toList[k]?=some o->∀ e∈o.after,Region.binds .any e=true->e.on<k:=λk o a6 e a3 aq=>by
  have:=e04 bv k o a6 e a3 aq
  omega
 have bf:=A07 bz
 obtain⟨U,X,E,ai,N⟩:=e06 (ops:=ops.toList) ah (λj o t i am u v D bC=>by
  obtain⟨e,a3,aq,rfl⟩:=bf o (List.mem_of_getElem? u) t v i am D bC
  exact aN j o u e a3 aq) ops.toList 0 [] [] [] (λj=>by simp) ⟨λt f h=>(by cases h),λi am d G=>by omega,λj o b4=>by omega,λp m=>(by cases m),by simp,λp m=>(by cases m)⟩ T
 obtain⟨n,fr,bx,ow⟩:=st
 have ap:∀(listed:Array Bool) (j:Nat) (o:Oper),ops[j]?=some o->(∀ e∈o.after,Region.binds .any e=true->listed.getD e.on false=true)->∀ t,Operand.tmp t∈o.op.operands->∀(i:Nat) (am:Oper),ops.toList[i]?=some am->am.dst=some t->listed.getD i false=true:=λlisted j o v D t bQ i am bK aB=>by
  obtain⟨e,au,aw,rfl⟩:=bf o (List.mem_of_getElem? (i:=j) (by simpa using v)) t bQ i am bK aB
  exact D e au aw
 have init:∀(c:Nat) (F:List (Nat×Oper)) (EV:List (Nat×Oper)->List (Nat×Oper)->List (Nat×j6)->St->Hp->Prop),(∀ x∈F,x∈E)->EV [] F U ⟨n,fr,bx,ow⟩ h->n0m P h0 w0 ops (D09 E) n fr bx ow h c F U EV (Array.replicate ops.size false) a w:=λc F EV bF aj=>by
  refine⟨[],F,U,bx,ow,h,be,oe,H,rfl,λ_=>⟨rfl,λ_ _ h=>h,.inl rfl⟩,λj o u v=>by(simp[Array.getElem?_replicate]at v;split at v<;>cases v),λp m=>?_,λp m=>(by cases m),.inl rfl,bq.refr (fr:=w4 ops.toList fr) λt=>?_,aj,λt=>⟨id,λav=>id⟩,λj o d u v D=>?_⟩
  ·have:=(N.eff p (bF p m)).1
   have v:p.1<ops.size:=by simpa using this
   simp[v]
  ·by_cases b:∃ o∈ops.toList,o.dst=some t
   ·obtain⟨o,u,v⟩:=b
    rw[y02 u v]
    trivial
   ·rw[v01 λo bM ai=>b ⟨o,bM,ai⟩]
    exact bq.fr t
  ·simp[Array.getElem?_replicate]at D
   split at D<;>cases D
 rcases ai with⟨c,⟨aP,bH⟩,aj⟩|⟨k,p,ai⟩
 ·refine⟨X0o P h0 w0 ops (D09 E) n fr bx ow h c E U K,aN,(λlisted a w j o aa u v D G=>j0u ah ax N (λ_=>B05) aP bH u v aa (ap listed j o v D) D G),(λlisted a w ak G=>u0t N (λx b=>b) a0 ak G),init c E _ (λx b=>b) aj⟩
 ·split at ai
  ·rename_i f b3 a6
   obtain⟨⟨a1,aP,bJ⟩,aj⟩:=ai
   obtain rfl:=g0k a1
   obtain⟨A,B,rfl,rfl⟩:=J0e a6
   obtain⟨q,ay,bN⟩:=b0h bJ
   have bI:f∈A++f::B:=by simp
   have bg:=N.eff f bI
   have a4:ops[f.1]?=some f.2:=by simpa using bg.2.1
   have bj:f.1<ops.size:=by simpa using bg.1
   have a9:∀ x∈A++B,x∈A++f::B:=λx b=>by
    rcases List.mem_append.1 b with b|b
    ·exact List.mem_append_left _ b
    ·exact List.mem_append_right _ (mC _ b)
   have bR:((A++B).map λp=>p.1).Nodup:=by
    have:=N.nd
    rw[List.map_append,List.nodup_append]at this ⊢
    obtain⟨bp,ba,bb⟩:=this
    rw[List.map_cons,List.nodup_cons]at ba
    exact⟨bp,ba.2,λx b y al=>bb x b y (by rw[List.map_cons];exact mC _ al)⟩
   have perm:∀ I J,A++B=I++J->((I++f::J).map λp=>p.1).Nodup:=λI J e=>by
    have u:(A++f::B).Perm (I++f::J):=List.perm_middle.trans ((List.Perm.cons f (by rw[e])).trans List.perm_middle.symm)
    exact(u.map _).nodup N.nd
   have aE:∀ I J,A++B=I++J->∀ x,x∈I++f::J↔x∈A++f::B:=λI J e x=>by
    have u:x∈A++B↔x∈I++J:=by rw[e]
    simp only[List.mem_append,List.mem_cons]at u ⊢
    constructor
    ·rintro(h|h|h)
     ·rcases u.2 (.inl h)with h|h
      ·exact .inl h
      ·exact .inr (.inr h)
     ·exact .inr (.inl h)
     ·rcases u.2 (.inr h)with h|h
      ·exact .inl h
      ·exact .inr (.inr h)
    ·rintro(h|h|h)
     ·rcases u.1 (.inl h)with h|h
      ·exact .inl h
      ·exact .inr (.inr h)
     ·exact .inr (.inl h)
     ·rcases u.1 (.inr h)with h|h
      ·exact .inl h
      ·exact .inr (.inr h)
   let rd:=T9 U ⟨n,fr,bx,ow⟩ ops.toList
   let ab:List (Nat×Oper)->List (Nat×Oper)->List (Nat×j6)->St->Hp->Prop:=λdn r L st h=>M0r f rd (ops.size,D09 (A++f::B)) P (p-dn.length) r L st h K
   refine⟨λlisted a w=>(listed.getD f.1 true=false/\n0m P h0 w0 ops (D09 (A++f::B)) n fr bx ow h 0 (A++B) U ab listed a w) ∨
    (listed.getD f.1 false=true/\∃ I J,A++B=I++J/\(∀ p∈I,listed.getD p.1 false=true)/\X0o P h0 w0 ops (D09 (A++f::B)) n fr bx ow h 0 (I++f::J) U K listed a w),aN,(λlisted a w j o aa u v D G=>?_),(λlisted a w ak G=>?_),.inl ⟨by simp[bj],init 0 (A++B) ab a9 aj⟩⟩
   ·have a5:j<listed.size:=by rw[aa];exact(Array.getElem?_eq_some_iff.1 v).1
    have a8:∀ {x:Nat},listed.getD x false=true->(listed.setIfInBounds j true).getD x false=true:=λh=>getD_set_true h
    rcases G with⟨hf,G⟩|⟨hf,I,J,s,a2,G⟩
    ·have bh:=a05 hf
     by_cases aR:j=f.1
     ·
      subst aR
      rw[a4]at v;cases v
      obtain⟨dn,r,L,ao,az,h',be',oe',aA,s,aF,an,af,Z,aG,aH,ag,aJ,aK⟩:=G
      have aB:X0o P h0 w0 ops (D09 (A++f::B)) n fr bx ow h 0 (dn++f::r) U K listed a w :=
       ⟨dn,f::r,L,ao,az,h',be',oe',aA,rfl,aF,an,λp m=>by
        rcases List.mem_cons.1 m with rfl|m
        ·exact hf
        ·exact af p m,Z,aG,aH,by show evC _ _ _ (0-dn.length) _ _ _ _ _;rw[Nat.zero_sub];exact q0q ag,aJ,aK⟩
      have:=a0h (F:=dn++f::r) (j:=f.1) (o:=f.2) (Q:=Q) ah ax N (λ_=>B05) (λx b=>(aE dn r s x).1 b) (λb=>(aE dn r s _).2 b) (perm dn r s) (λM Y e S O ac=>by
       obtain⟨C,W,V⟩:=S06 (listed:=listed) e Z O
       cases C with
       |nil=>exact⟨r,by simpa using V.symm⟩
       |cons z C =>
        exfalso
        simp only[List.cons_append,List.cons.injEq]at V
        have:=S f (by rw[W,V.1];simp)
        rw[bh]at this;cases this) (λdn Y L bx ow h s ar T=>h0k T) (R06 _) u a4 aa (ap listed f.1 f.2 a4 D) D aB
      exact⟨this.1,Oper.wp_mono (λaL aU b => .inr ⟨by simp[a5],dn,r,s,λp m=>a8 (Z p m),b⟩) this.2⟩
     ·have bL:(j,o)≠f:=λe=>aR (by rw[←e])
      have bG:∀(j:Nat) (o:Oper),ops[j]?=some o->listed.getD j false=true->∀ e∈o.after,Region.binds .any e=true->listed.getD e.on false=true:=by
       obtain⟨_,_,_,_,_,_,_,_,_,_,_,an,_⟩:=G
       exact an
      have:=a0h (F:=A++B) (Q:=Q) (EV:=ab) ah ax N (λ_=>B05) a9 (λb=>by
       rcases List.mem_append.1 b with b|b
       ·exact List.mem_append_left _ b
       ·rcases List.mem_cons.1 b with b|b
        ·exact absurd b bL
        ·exact List.mem_append_right _ b) bR (λdn r s ar bo aC=>o0c D (λdn r s=>D03 dn r (by rw[←s];exact aP)) s bo aC) (λdn Y L aM aS h s ar T=>by
       have b5:dn.length<p:=by
        rcases Nat.lt_or_ge dn.length p with g|g
        ·exact g
        ·exfalso
         have bi:listed.getD f.1 false=true:=by
          rw[s]at ay
          obtain⟨e,au,aw,aQ⟩:=Z6 bN
          rcases Nat.lt_or_ge p dn.length with O|O
          ·rw[List.getElem?_append_left O]at ay
           have bn:q∈dn:=List.mem_of_getElem? ay
           have:=(N.eff q (a9 q (by rw[s];exact List.mem_append_left _ bn))).2.1
           have:=bG q.1 q.2 (by simpa using this) (ar q bn) e au aw
           rwa [aQ]at this
          ·have W:p=dn.length:=by omega
           rw[W,List.getElem?_append_right (Nat.le_refl _)]at ay
           simp at ay
           subst ay
           have:=D e au aw
           rwa [aQ]at this
         rw[bh]at bi;cases bi
       obtain⟨bc,bl⟩:∃ bc,p-dn.length=bc+1:=⟨p-dn.length-1,by omega⟩
       have W:p-(dn ++ [(j,o)]).length=bc:=by simp;omega
       simp only[ab,bl,W,Nat.zero_sub]at T ⊢
       exact T.2) (R06 _) u v aa (ap listed j o v D) D G
      exact⟨this.1,Oper.wp_mono (λaL aU b => .inl ⟨by rw[getD_set_ne true aR];exact hf,b⟩) this.2⟩
    ·have aR:j≠f.1:=λe=>by
      subst e
      have:=a05 u
      rw[hf]at this;cases this
     have:=a0h (F:=I++f::J) (Q:=Q) ah ax N (λ_=>B05) (λx b=>(aE I J s x).1 b) (λb=>(aE I J s _).2 b) (perm I J s) (λM Y e S O ac=>by
      obtain⟨C,W,V⟩:=S06 (listed:=listed) (A:=I ++ [f]) (B:=J) (by simpa using e) (λp m=>by
       rcases List.mem_append.1 m with m|m
       ·exact a2 p m
       ·simp at m;rw[m];exact hf) O
      exact o0c (E:=Y) (dn:=[]) D (λdn bU ae=>D03 dn bU (by rw[←ae];exact D03 (I++C) Y (by rw[List.append_assoc,←V,←s];exact aP))) rfl O ac) (λdn Y L bx ow h s ar T=>h0k T) (R06 _) u v aa (ap listed j o v D) D G
     exact⟨this.1,Oper.wp_mono (λaL aU b => .inr ⟨a8 hf,I,J,s,λp m=>a8 (a2 p m),b⟩) this.2⟩
   ·rcases G with⟨hf,G⟩|⟨hf,I,J,s,a2,G⟩
    ·have:=ak f.1 bj
     rw[a05 hf]at this;cases this
    ·exact u0t N (λx b=>(aE I J s x).1 b) a0 ak G
  ·obtain⟨a1,aj⟩:=ai
   obtain rfl:=g0k a1
   let ab:List (Nat×Oper)->List (Nat×Oper)->List (Nat×j6)->St->Hp->Prop:=λ_ r L st h=>O0j (T9 U ⟨n,fr,bx,ow⟩ ops.toList) (ops.size,D09 E) P (C0g r) r L st h K
   refine⟨λlisted a w=>∃ F,(∀ x,x∈F↔x∈E)/\(F.map λp=>p.1).Nodup/\n0m P h0 w0 ops (D09 E) n fr bx ow h 0 F U ab listed a w,aN,(λlisted a w j o aa u v D G=>?_),(λlisted a w ak G=>?_),E,λx=>Iff.rfl,N.nd,init 0 E ab (λx b=>b) aj⟩
   ·obtain⟨F,ad,aO,G⟩:=G
    by_cases hjE:(j,o)∈E
    ·obtain⟨dn,r,L,ao,az,h',be',oe',aA,s,aF,an,af,Z,aG,aH,ag,aJ,aK⟩:=G
     have a5:j<listed.size:=by rw[aa];exact(Array.getElem?_eq_some_iff.1 v).1
     have aC:(j,o)∈r:=by
      have:=(ad (j,o)).2 hjE
      rw[s]at this
      rcases List.mem_append.1 this with b|b
      ·have S:=Z _ b
       have O:=a05 u
       rw[O]at S;cases S
      ·exact b
     obtain⟨A,B,rfl⟩:=List.append_of_mem aC
     have bm:(dn++(j,o)::(A++B)).Perm F:=by
      rw[s]
      exact List.Perm.append_left dn List.perm_middle.symm
     have aY:∀ x,x∈dn++(j,o)::(A++B)↔x∈E:=λx=>(bm.mem_iff).trans (ad x)
     have aZ:((dn++(j,o)::(A++B)).map λp=>p.1).Nodup:=(bm.map _).nodup_iff.2 aO
     have bO:∀ y∈A++B,j8 y.1 o=false:=λy al=>by
      cases hc:j8 y.1 o with
      |false=>rfl
      |true =>
       obtain⟨e,au,aw,aQ⟩:=Z6 hc
       have S:=D e au aw
       have O:=a05 (af y (by
        rcases List.mem_append.1 al with al|al
        ·exact List.mem_append_left _ al
        ·exact List.mem_append_right _ (mC _ al)))
       rw[aQ,O]at S;cases S
     let aW:List (Nat×Oper)->List (Nat×Oper)->List (Nat×j6)->St->Hp->Prop:=λd r L st h=>match Nat.beq d.length dn.length with
      |true=>o0q (T9 U ⟨n,fr,bx,ow⟩ ops.toList) (ops.size,D09 E) P (C0g (A++B)) (j,o) (A++B) L st h K
      |false=>ab d r L st h
     have aB:n0m P h0 w0 ops (D09 E) n fr bx ow h 0 (dn++(j,o)::(A++B)) U aW listed a w :=
      ⟨dn,(j,o)::(A++B),L,ao,az,h',be',oe',aA,rfl,aF,an,λp m=>af p (by
       rcases List.mem_cons.1 m with rfl|m
       ·simp
       ·rcases List.mem_append.1 m with m|m
        ·exact List.mem_append_left _ m
        ·exact List.mem_append_right _ (mC _ m)),Z,aG,aH,by
       show(match Nat.beq dn.length dn.length with|true=>_|false=>_:Prop)
       rw[Nat.beq_refl]
       refine V0r (st:=⟨n,fr,ao,az⟩) bO ?_
       have e:C0g (A++(j,o)::B)=C0g (A++B)+1:=by rw[N0i,N0i];simp;omega
       have ag:O0j _ _ _ (C0g (A++(j,o)::B)) _ _ _ _ _:=ag
       rw[e]at ag
       exact ag,aJ,aK⟩
     have:=a0h (F:=dn++(j,o)::(A++B)) (EV:=aW) (Q:=Q) ah ax N (λ_=>B05) (λx b=>(aY x).1 b) (λb=>(aY _).2 b) aZ (λM Y e S O ac=>by
      obtain⟨C,W,V⟩:=S06 (listed:=listed) e Z O
      cases C with
      |nil=>exact⟨A++B,by simpa using V.symm⟩
      |cons z C =>
       exfalso
       simp only[List.cons_append,List.cons.injEq]at V
       have:=S (j,o) (by rw[W,V.1];simp)
       rw[a05 u]at this;cases this) (λM Y L aM aS h e S T=>by
      obtain⟨C,W,V⟩:=S06 (listed:=listed) (A:=dn) (B:=(j,o)::(A++B)) e Z (λp m=>by
       have b:p∈dn++(j,o)::(A++B):=by rw[e];exact List.mem_append_right _ m
       rcases List.mem_cons.1 m with rfl|bl
       ·exact u
       ·rcases List.mem_append.1 b with b|b
        ·exfalso
         have bk:=aZ
         rw[e,List.map_append,List.nodup_append]at bk
         obtain⟨bp,ba,bb⟩:=bk
         have aD:dn.length<=M.length∨M.length<dn.length:=Nat.lt_or_ge M.length dn.length |>.symm
         rcases aD with aD|aD
         ·have:p∈M:=by
           have ae:dn=M.take dn.length:=by
            have:=congrArg (List.take dn.length) e
            rw[List.take_append_of_le_length (Nat.le_refl _),List.take_length,List.take_append_of_le_length aD]at this
            exact this
           rw[ae]at b;exact List.mem_of_mem_take b
          exact bb p.1 (List.mem_map.2 ⟨p,this,rfl⟩) p.1 (List.mem_map.2 ⟨p,m,rfl⟩) rfl
         ·have:(j,o)∈dn:=by
           have ae:=congrArg (λl=>l[M.length]?) e
           simp only[List.getElem?_append_left aD,List.getElem?_append_right (Nat.le_refl _),Nat.sub_self,List.getElem?_cons_zero]at ae
           exact List.mem_of_getElem? ae
          have ac:=Z _ this
          rw[a05 u]at ac;cases ac
        ·exact af p (by
          rcases List.mem_cons.1 b with rfl|b
          ·simp
          ·rcases List.mem_append.1 b with b|b
           ·exact List.mem_append_left _ b
           ·exact List.mem_append_right _ (mC _ b)))
      have bD:C = []:=by
       cases C with
       |nil=>rfl
       |cons z C =>
        exfalso
        simp only[List.cons_append,List.cons.injEq]at V
        have:=S (j,o) (by rw[W,V.1];simp)
        rw[a05 u]at this;cases this
      subst bD
      simp only[List.append_nil]at W
      subst W
      have ae:Y=A++B:=by simpa using V.symm
      subst ae
      have T:(match Nat.beq M.length M.length with|true=>_|false=>_:Prop):=T
      rw[Nat.beq_refl]at T
      have a7:Nat.beq (M ++ [(j,o)]).length M.length=false:=by
       rw[List.length_append,List.length_singleton]
       exact p0q (by omega)
      have bE:aW (M ++ [(j,o)]) (A++B)=λL st h=>O0j (T9 U ⟨n,fr,bx,ow⟩ ops.toList) (ops.size,D09 E) P (C0g (A++B)) (A++B) L st h K:=by
       funext L st h
       show(match Nat.beq (M ++ [(j,o)]).length M.length with|true=>_|false=>_:Prop)=_
       rw[a7]
      rw[bE]
      simp only[Nat.zero_sub]
      exact T) (R06 _) u v aa (ap listed j o v D) D aB
     refine⟨this.1,Oper.wp_mono (λaL aU b=>?_) this.2⟩
     obtain⟨aX,bV,bt,aM,aS,bB,bA,bS,bs,bd,bW,bX,br,bY,bZ,b0,aV,b1,b2⟩:=b
     refine⟨dn++(j,o)::(A++B),aY,aZ,aX,bV,bt,aM,aS,bB,bA,bS,bs,bd,bW,bX,br,bY,bZ,b0,?_,b1,b2⟩
     have a7:Nat.beq aX.length dn.length=false:=by
      refine p0q λe=>?_
      obtain⟨b6,bT⟩:=List.append_inj bd e.symm
      have:=br (j,o) (by rw[←bT];simp)
      simp[a5]at this
     have aV:(match Nat.beq aX.length dn.length with|true=>_|false=>_:Prop):=aV
     rw[a7]at aV
     exact aV
    ·have:=a0h (F:=F) (EV:=ab) (Q:=Q) ah ax N (λ_=>B05) (λx b=>(ad x).1 b) (λb=>absurd b hjE) aO (λdn r s ar bo aC=>absurd ((ad _).1 (by rw[s];exact List.mem_append_right _ aC)) hjE)
      (λdn Y L aM aS h s ar T=>absurd ((ad (j,o)).1 (by rw[s];simp)) hjE) (R06 _) u v aa (ap listed j o v D) D G
     exact⟨this.1,Oper.wp_mono (λaL aU b=>⟨F,ad,aO,b⟩) this.2⟩
   ·obtain⟨F,ad,aO,dn,r,L,ao,az,h',be',oe',aA,s,aF,an,af,Z,aG,aH,ag,aJ,aK⟩:=G
    have bP:r = []:=by
     cases r with
     |nil=>rfl
     |cons p Y =>
      have S:=af p mS
      have O:=(N.eff p ((ad _).1 (by rw[s];simp))).1
      have ac:=ak p.1 (by simpa using O)
      rw[a05 S]at ac;cases ac
    subst bP
    exact u0t (c:=0) (F:=F) N (λx b=>(ad x).1 b) a0 ak ⟨dn,[],L,ao,az,h',be',oe',aA,s,aF,an,af,Z,aG,aH,ag,aJ,aK⟩
theorem Y0o{ops:Array Oper}{st:St}{K:St->Hp->Prop}{Q:Exit->Act->World->Prop}(j:Sim P h0 w0 be oe H st h a w)(g:W02 st.n ops.toList=true)
  (i:c04 P st h ops.toList 0 [] [] [] λL X E=>evD (T9 L st ops.toList) ops.size P X E L st h K)
  (f:∀ a w st h be oe H,K st h->Sim P h0 w0 be oe H st h a w->Q .normal a w):wpAny P .any ops Q ops.size (Array.replicate ops.size false) a w:=by
 obtain⟨Inv,b,c,d,e⟩:=i0k (Q:=Q) (R:=λa w=>Q .normal a w) j g i f
 exact t0t (Inv:=Inv) b c d ops.size _ a w (by simp) (by simp[List.count_replicate]) e
theorem e0b{L l:Array Bool}{x:Bool}(h:L.toList=l.toList ++ [x]){j:Nat}(a:j<l.size)(b:Bool):L.getD j b=l.getD j b:=by
 rw[Array.getD_eq_getD_getElem?,Array.getD_eq_getD_getElem?,←Array.getElem?_toList,←Array.getElem?_toList,h,List.getElem?_append_left (by simpa using a)]
theorem Z0o{L l:Array Bool}{x:Bool}(h:L.toList=l.toList ++ [x])(b:Bool):L.getD l.size b=x:=by
 rw[Array.getD_eq_getD_getElem?,←Array.getElem?_toList,h,List.getElem?_append_right (by simp)];simp
theorem k0u{ops ops0:Array Oper}{o:Oper}{Q:Exit->Act->World->Prop}{Inv:Array Bool->Act->World->Prop}{a:Act}{w:World}(t:ops.toList=ops0.toList ++ [o])
  (q:∀(k:Nat) (o:Oper),ops.toList[k]?=some o->∀ e∈o.after,Region.binds .any e=true->e.on<k)
  (B:o.guard=none) (G:∀ k,k<ops0.size->∃ e∈o.after,Region.binds .any e=true/\e.on=k)
  (I:∀ listed a w j o,listed.size=ops0.size->listed.getD j true=false->ops0[j]?=some o->(∀ e∈o.after,Region.binds .any e=true->listed.getD e.on false=true)->Inv listed a w->o.guard=none/\o.wp P a w (Inv (listed.setIfInBounds j true)) Q)
  (A:∀ listed a w,(∀ j,j<ops0.size->listed.getD j false=true)->Inv listed a w->o.wp P a w (λa w=>Q .normal a w) Q)
  (h0:Inv (Array.replicate ops0.size false) a w):wpAny P .any ops Q ops.size (Array.replicate ops.size false) a w:=by
 have M:ops.size=ops0.size+1:=by
  have:=congrArg List.length t
  simpa using this
 refine t0t (Inv:=λL a w=>(∃ l:Array Bool,l.size=ops0.size/\L.toList=l.toList ++ [false]/\Inv l a w)∨((∀ j,j<ops.size->L.getD j false=true)/\Q .normal a w)) q (λL a w j m J y b p d=>?_) (λL a w f d=>?_) ops.size _ a w (by simp) (by simp[List.count_replicate]) (.inl ⟨_,by simp,by grind,h0⟩)
 ·rcases d with⟨l,g,c,d⟩|⟨f,_⟩
  ·have E:j<ops.size:=(Array.getElem?_eq_some_iff.1 b).1
   by_cases hj:j<ops0.size
   ·have z:ops0[j]?=some m:=by
     rw[←Array.getElem?_toList]at b ⊢
     grind
    obtain⟨v,x⟩:=I l a w j m g (by rw[←e0b c (by omega)];exact y) z (λe i h=>by
     have:=q j m (by rw[Array.getElem?_toList];exact b) e i h
     rw[←e0b c (by omega)];exact p e i h) d
    refine⟨v,Oper.wp_mono (λu K C => .inl ⟨_,by simpa using g,?_,C⟩) x⟩
    rw[Array.toList_setIfInBounds,c,List.set_append_left _ _ (by simpa [g] using hj),Array.toList_setIfInBounds]
   ·have D:j=ops0.size:=by omega
    have H:m=o:=by
     rw[←Array.getElem?_toList,t,List.getElem?_append_right (by simp;omega)]at b
     rw[D]at b;simp at b;exact b.symm
    subst H
    have f:∀ k,k<ops0.size->l.getD k false=true:=λk s=>by
     obtain⟨e,i,h,rfl⟩:=G k s
     rw[←e0b c (by omega)];exact p e i h
    refine⟨B,Oper.wp_mono (λu K n => .inr ⟨λk s=>?_,n⟩) (A l a w f d)⟩
    by_cases hkj:k=j
    ·rw[hkj];simp[Array.getD_eq_getD_getElem?,J,E]
    ·have F:k<ops0.size:=by omega
     have:=f k F
     rw[←e0b c (by omega)]at this
     rw[Array.getD_eq_getD_getElem?,Array.getElem?_setIfInBounds_ne (by omega),←Array.getD_eq_getD_getElem?];exact this
  grind
 ·rcases d with⟨l,g,c,d⟩|⟨_,n⟩
  ·have:=f ops0.size (by omega)
   rw[←g,Z0o c]at this;cases this
  ·exact n
theorem m0d{o:Oper}:∀(ops:List Oper),u0e ops=some o->ops=n01 ops ++ [o]
 | [],h=>by simp[u0e]at h
 | [x],h=>by grind[u0e,Option.some.injEq,n01]
 |x::y::r,h=>by
  simp only[u0e]at h
  have:=m0d (y::r) (by simp only[u0e];exact h)
  rw[show n01 (x::y::r)=x::n01 (y::r) by simp only[n01],List.cons_append,←this]
theorem a0p{ops:List Oper}{o:Oper}(h:Z0p ops=some o):ops=n01 ops ++ [o]/\o.guard=none/\o08 (n01 ops).length (n01 ops).length o=true:=by
 unfold Z0p at h
 split at h
 ·rename_i f e
  split at h
  ·rename_i d c b
   split at h
   ·rename_i a
    cases h
    simp only[Bool.and_eq_true]at a
    grind[m0d]
   ·cases h
  ·cases h
 ·cases h
end
theorem c05:∀ {L:FL} {t:Nat} {x:List (Nat×Bool)×j6},W03 L t=some x->(t,x)∈L
 | [],t,x,h=>by cases h
 |(d,y)::r,t,x,h=>by
  simp only[W03]at h
  split at h
  ·simp_all
  ·exact mC _ (c05 h)
theorem k0a:∀ {L:FL} {t:Nat} {x:List (Nat×Bool)×j6},(t,x)∈L->∃ y,W03 L t=some y
 |(d,y)::r,t,x,h=>by
  simp only[W03]
  split
  ·exact⟨_,rfl⟩
  ·rename_i a
   rcases List.mem_cons.1 h with e|h
   ·simp_all
   ·exact k0a h
theorem b0p{bs:List BE}{x:BE}(e:∀ y∈bs,y.j≠x.j){j:Nat}{b:BE}(h:k03 bs j=some b):k03 (x::bs) j=some b:=by
 simp only[k03]
 split
 ·rename_i d
  obtain⟨a,c⟩:=d04 h
  simp_all
 ·exact h
abbrev Asg:=Nat->List (Nat×Bool)×Bool×j6
structure H0g (ops:List Oper) (A:Asg) (L:FL) (bs:List BE) (k:Nat):Prop where
 p1:∀ t x,(t,x)∈L->∃ i oi,i<k/\ops[i]?=some oi/\oi.dst=some t/\(A i).1=x.1/\(A i).2.2=x.2
 p2:∀ i oi d,i<k->ops[i]?=some oi->oi.dst=some d->∃ x,W03 L d=some x
 p3:∀ i,i<k->i<ops.length->cB bs (A i).1=some (A i).2.1
 p4:∀ x∈bs,x.j<k/\(∃ o,ops[x.j]?=some o/\o.dst=some x.d)/\(A x.j).1=x.ch/\(A x.j).2.2 = .pu (.val (.bool x.e))
structure F09 (bs bs':List BE):Prop where
 c:∀ ch c,cB bs ch=some c->cB bs' ch=some c
 e:∀ j b,k03 bs j=some b->k03 bs' j=some b
theorem F09.refl(bs:List BE):F09 bs bs:=⟨λ_ _ h=>h,λ_ _ h=>h⟩
theorem F09.trans{a b c:List BE}(d:F09 a b)(f:F09 b c):F09 a c:=⟨λch x h=>f.c ch x (d.c ch x h),λj b h=>f.e j b (d.e j b h)⟩
def OpU(P:Program)(st:St)(h:Hp)(L:FL)(bs:List BE)(o:Oper)(ch:List (Nat×Bool))(c:Bool):j6->Prop
 | .pu av=>K09 P L bs ch o st=some av∨∀ h',Sub h h'->imp ch c (T07 L st h' ch o.op.operands.toList [] λfr=>t8 P o { st with fr:=fr } h' (n0n av { st with fr:=fr } h'))
 | .ef F=>(∀ v a b,Sub a b->F v a->F v b)/\∀ h',Sub h h'->imp ch c (T07 L st h' ch o.op.operands.toList [] λfr=>P0j P o { st with fr:=fr } h' (a0q { st with fr:=fr } h' F))
theorem r0q{d:Option Tmp}{ch:List (Nat×Bool)}{f:j6}{L:FL}{p:Nat×List (Nat×Bool)×j6}(h:p∈z0i d ch f L):(∃ s,d=some s/\p=(s,ch,f))∨p∈L:=by
 cases d with
 |none=>exact .inr h
 |some s =>
  rcases List.mem_cons.1 h with h|h
  all_goals grind
theorem s0q{i:Nat}{d:Option Tmp}{ch:List (Nat×Bool)}{av:AV}{bs:List BE}{x:BE}(h:x∈A0i i d ch av bs):(∃ s e,d=some s/\av = .val (.bool e)/\x=⟨i,s,e,ch⟩)∨x∈bs:=by
 unfold A0i at h
 grind
theorem t0q{i:Nat}{d:Option Tmp}{ch:List (Nat×Bool)}{av:AV}{bs:List BE}(f:∀ y∈bs,y.j<i):F09 bs (A0i i d ch av bs):=by
 unfold A0i
 split
 ·split
  ·refine⟨λe c h=>m0m (λy a=>?_) h,λj b h=>b0p (λy a=>?_) h⟩<;>(grind)
  ·exact F09.refl _
 ·exact F09.refl _
theorem W0r(P:Program)(i:Nat)(L:FL)(bs:List BE)(st:St)(h:Hp)(K:St->Hp->Prop):evU P [] i L bs st h K=∀ h',Sub h h'->D0g h' L st.fr λfr=>K { st with fr:=fr } h':=by
 obtain⟨n,fr,bx,ow⟩:=st;rfl
theorem u0q(P:Program)(o:Oper)(l:List Oper)(i:Nat)(L:FL)(bs:List BE)(st:St)(h:Hp)(K:St->Hp->Prop)(a:evU P (o::l) i L bs st h K):
    ∃ ch c f,s00 bs o.guard=some ch/\cB bs ch=some c/\(OpU P st h L bs o ch c f/\∀ av,K09 P L bs ch o st=some av->f = .pu av)/\∃ j,j=(match f with
      | .pu av=>A0i i o.dst ch av bs
      | .ef _=>bs)/\evU P l (i+1) (z0i o.dst ch f L) j st h K:=by
  obtain⟨n,fr,bx,ow⟩:=st
  change (match s00 bs o.guard with
        |some ch=>match cB bs ch with
          |some c=>match K09 P L bs ch o ⟨n,fr,bx,ow⟩with
            |some av=>t01 av λav=>evU P l (i+1) (z0i o.dst ch (.pu av) L) (A0i i o.dst ch av bs) ⟨n,fr,bx,ow⟩ h K
            |none=>(∃ av,(∀ h',Sub h h'->imp ch c (T07 L ⟨n,fr,bx,ow⟩ h' ch o.op.operands.toList [] λfr=>t8 P o ⟨n,fr,bx,ow⟩ h' (n0n av ⟨n,fr,bx,ow⟩ h'))) /\
                  t01 av λav=>evU P l (i+1) (z0i o.dst ch (.pu av) L) (A0i i o.dst ch av bs) ⟨n,fr,bx,ow⟩ h K) ∨
                (∃ F:Value->Hp->Prop,(∀ v d b,Sub d b->F v d->F v b) /\
                  (∀ h',Sub h h'->imp ch c (T07 L ⟨n,fr,bx,ow⟩ h' ch o.op.operands.toList [] λfr=>P0j P o ⟨n,fr,bx,ow⟩ h' (a0q ⟨n,fr,bx,ow⟩ h' F))) /\
                  evU P l (i+1) (z0i o.dst ch (.ef F) L) bs ⟨n,fr,bx,ow⟩ h K)
          |none=>False
        |none=>False)at a
  split at a
  · rename_i ch g
    split at a
    · rename_i c e
      split at a
      · rename_i av p
        rw[l03]at a
        exact⟨ch,c,.pu av,g,e,⟨.inl p,λq h'=>by grind⟩,_,rfl,a⟩
      · rename_i s
        have k:∀(f:j6) av,K09 P L bs ch o ⟨n,fr,bx,ow⟩=some av->f = .pu av:=λf av h'=>by grind
        rcases a with⟨av,d,b⟩|⟨F,d,b,m⟩
        · rw[l03]at b
          exact⟨ch,c,.pu av,g,e,⟨.inr d,k _⟩,_,rfl,b⟩
        · exact⟨ch,c,.ef F,g,e,⟨⟨d,b⟩,k _⟩,_,rfl,m⟩
    · exact a.elim
  · exact a.elim
theorem K0e{P:Program}{ops:List Oper}{st:St}{h:Hp}{K:St->Hp->Prop}(am:∀(i j:Nat) (n Q:Oper) (d:Nat),ops[i]?=some n->ops[j]?=some Q->n.dst=some d->Q.dst=some d->i=j):
  ∀(l:List Oper) (k:Nat) (L:FL) (bs:List BE) (q:Asg),(∀ j,l[j]?=ops[k+j]?)->k+l.length=ops.length->H0g ops q L bs k->evU P l k L bs st h K ->
   ∃(A:Asg) (J:FL) (v:List BE),(∀ i,i<k->A i=q i)/\F09 bs v/\H0g ops A J v ops.length /\
    (∀ j o,k<=j->ops[j]?=some o->∃ R C,s00 v o.guard=some (A j).1/\H0g ops A R C j/\F09 C v/\cB C (A j).1=some (A j).2.1/\(OpU P st h R C o (A j).1 (A j).2.1 (A j).2.2/\∀ av,K09 P R C (A j).1 o st=some av->(A j).2.2 = .pu av)) /\
    (∀ h',Sub h h'->D0g h' J st.fr λfr=>K { st with fr:=fr } h')
 | [],k,L,bs,q,V,ad,g,ac=>by
  have ae:k=ops.length:=by simpa using ad
  grind[F09.refl,W0r,List.getElem?_eq_some_iff]
 |o::l,k,L,bs,q,V,ad,g,ac=>by
  have X:ops[k]?=some o:=by simpa using (V 0).symm
  have ar:∀ j,l[j]?=ops[k+1+j]?:=λj=>by have:=V (j+1);grind
  have ae:k+1+l.length=ops.length:=by grind
  obtain⟨ch,c,f,u,ab,au,U,ap,aq⟩:=u0q P o l k L bs st h K ac
  let B:Asg:=λi=>if i=k then(ch,c,f)else q i
  have M:B k=(ch,c,f):=by simp[B]
  have Z:∀ i,i<k->B i=q i:=λi m=>by grind
  have ay:∀ y∈bs,y.j<k:=λy ax=>(g.p4 y ax).1
  have I:F09 bs U:=by
   grind[t0q,F09.refl]
  have aw:H0g ops B (z0i o.dst ch f L) U (k+1):=by
   refine⟨λt x a=>?_,λi n d m H O=>?_,λi m W=>?_,λx a=>?_⟩
   ·rcases r0q a with⟨ah,ag,e⟩|a
    ·grind
    ·obtain⟨i,n,s,D,E,G,al⟩:=g.p1 t x a
     grind
   ·rcases Nat.lt_or_ge i k with z|z
    ·obtain⟨x,a⟩:=g.p2 i n d z H O
     cases hd:o.dst with
     |none=>exact⟨x,a⟩
     |some ah=>exact k0a (x:=x) (mC _ (c05 a))
    ·have:i=k:=by omega
     subst this
     rw[X]at H;cases H
     rw[O]
     exact k0a mS
   ·rcases Nat.lt_or_ge i k with z|z
    ·rw[Z i z];exact I.c _ _ (g.p3 i z W)
    ·have:i=k:=by omega
     subst this
     rw[M];exact I.c _ _ ab
   ·subst ap
    cases f with
    |ef F =>
     obtain⟨s,D,E,G⟩:=g.p4 x a
     grind
    |pu av =>
     rcases s0q a with⟨ah,e,ag,an,rfl⟩|a
     ·refine⟨nS _,⟨o,X,ag⟩,by rw[M],?_⟩
      rw[M,an]
     ·obtain⟨s,D,E,G⟩:=g.p4 x a
      grind
  obtain⟨A,J,v,aa,S,ai,aj,ak⟩:=K0e am l (k+1) _ U B ar ae aw aq
  have T:A k=(ch,c,f):=by rw[aa k (nS _),M]
  have N:∀ i,i<k->A i=q i:=λi m=>by rw[aa i (Nat.lt_succ_of_lt m),Z i m]
  refine⟨A,J,v,N,I.trans S,ai,λj Q az Y=>?_,ak⟩
  rcases Nat.lt_or_ge k j with af|af
  ·exact aj j Q af Y
  ·have:j=k:=by omega
   subst this
   rw[X]at Y;cases Y
   refine⟨L,bs,?_,⟨λt x a=>?_,λi n d m H O=>g.p2 i n d m H O,λi m W=>?_,λx a=>?_⟩,I.trans S,by rw[T];exact ab,by rw[T];exact au⟩
   ·rw[T]
    cases hg:o.guard with
    |none=>rw[hg]at u;exact u
    |some p =>
     obtain⟨aA,w⟩:=p
     rw[hg]at u
     simp only[s00]at u ⊢
     split at u
     ·rename_i b ao
      rw[(I.trans S).e _ _ ao]
      exact u
     ·cases u
   ·obtain⟨i,n,s,D,E,G,al⟩:=g.p1 t x a
    grind
   ·rw[N i m];exact g.p3 i m W
   ·obtain⟨s,D,E,G⟩:=g.p4 x a
    exact⟨s,D,by rw[N _ s];exact E,by rw[N _ s];exact G⟩
section
variable {P:Program} {h0:Hp} {w0:World} {be:Nat->Nat} {oe:Nat->Value} {H:Hp} {st:St} {h:Hp} {a:Act} {w:World} {o:Oper} {K:AV->St->Hp->Prop} {Q:Exit->Act->World->Prop}
theorem j0k(i:Sim P h0 w0 be oe H st h a w){t n:Nat}{f:Array (Nat×Operand)}(m:o.op = .buildSlice t n f)(z:f.toList = [])(c:b0q P t n st h K):o.wp P a w (Nx P h0 w0 st be oe K a o.dst) Q:=by
 unfold b0q at c
 split at c
 rotate_left
 ·exact c.elim
 rename_i e u
 split at c
 rotate_left
 ·exact c.elim
 rename_i sz s k
 have l:=Nat.eq_of_beq_eq_true k
 subst l
 have p:f = #[]:=by grind
 subst p
 have v:wpS P (execOp a.eval o) h (λg h'=>∃ b,h b=none/\g = .value (.slice (some ⟨b,0,none⟩) 0 0)/\h'=h.set b (.cells #[] e (0,0))):=by
  unfold execOp;rw[m]
  refine l8 _ _ _ ?_
  simp only[Instr.buildSlice,J2,U5 (J9 u),u01 s,Nat.zero_mul,A3]
  rw[if_neg (by omega)]
  simp only[A3,if_true,Instr.fill,Array.map_empty,J2,newRow,newObj,wpS]
  exact λb d=>⟨b,d,rfl,by rw[show Array.range 0 = #[] from rfl,Array.map_empty]⟩
 obtain⟨g,h',A,q,⟨b,d,rfl,rfl⟩,j⟩:=d00 _ _ _ (s08 i) v
 obtain⟨y,x⟩:=i.moved j
 exact O7 q ⟨_,_,_,_,_,_,_,c b d,rfl,x,rfl,S6.refl _ _ _⟩
theorem k0k(m:Sim P h0 w0 be oe H st h a w){t:TypeId}{p q:Operand}{as:Array Operand}{R:Array TypeId}(L:o.op = .call { callee := .builtin .append,args:=as,argTypes:=R })
  (F:as = #[p,q]) (N:R = #[t,t]) (d:c0q P t p q st h K):o.wp P a w (Nx P h0 w0 st be oe K a o.dst) Q:=by
 unfold c0q at d
 split at d
 rotate_left
 ·exact d.elim
 rename_i e aa
 split at d
 rotate_left
 ·exact d.elim
 rename_i sz by_ z Z S ac
 split at d
 rotate_left
 ·exact d.elim
 rename_i ad
 obtain⟨i,y,C,ag,ai⟩:=i0a Z S ac
 have A:=J9 aa
 have ae:z.cells.size=i.size:=by rw[C];simpa using X02 _ _ ad
 have g:=m.rdO p
 split at d
 rotate_left
 ·exact d.elim
 rename_i n s Y
 rw[Y]at g
 have v:a.eval p = .slice (some ⟨n,s,none⟩) 0 0:=g
 obtain⟨b,⟨M,W,J⟩,l⟩:=v05 m (Nat.succ_pos sz) d
 have af:i.size=sz+1:=C
 have ah:i.bytes=by_+1:=ag
 rw[←C]at l
 rw[←af]at J
 rw[←ah]at M
 have T:0<i.bytes:=by grind
 have am:b.length<=140737488355328:=Nat.le_trans (Nat.le_mul_of_pos_right _ T) M
 have X:((0+b.length:Nat):Int)<=9223372036854775807:=by omega
 have I:=P00 b (λx B=>(l.1 x B).1)
 have O:=s08 m
 by_cases hn:b = []
 ·have k:(Builtin.append_ #[t,t] o.type #[.slice (some ⟨n,s,none⟩) 0 0,a.eval q]).run P w = .ok (.slice (some ⟨n,s,none⟩) 0 0) w:=by
   subst hn
   rcases l.2 with⟨D,c,f,G⟩|⟨c,f,_⟩
   ·rw[f]
    simp[Builtin.append_,run_underlying A,sizeOf,typeInfo,y,Builtin.lenOf,Builtin.firstCells,loadCells,loadCellsFrom,storeCells]
   ·rw[f]
    simp[Builtin.append_,run_underlying A,sizeOf,typeInfo,y,Builtin.lenOf,Builtin.firstCells,storeCells]
  rw[←v]at k
  exact O7 (n03 L F N k) ⟨_,_,h,_,_,_,_,W hn,rfl,m,v,S6.refl _ _ _⟩
 ·rcases l.2 with⟨D,E,f,G⟩|⟨E,f,ab⟩
  rotate_left
  ·exact absurd ab hn
  have an:0<b.length:=by
   grind
  have k:=run_append_grow (P:=P) w t o.type e i z A y ai ⟨n,s,none⟩ 0 0 [] (by simp) (λj u V=>by simp at V) D b.length E b.flatten I G (by omega) X (growslice_fits (by omega) (by grind[G06]))
  have al:=grownCap_ge w (0+b.length) 0 e
  have U:grownCap w (0+b.length) 0 e<=maxLen:=grownCap_le_maxLen w _ 0 e (by unfold maxLen;omega)
  rw[←f,←v]at k
  obtain⟨ak,aj⟩:=m.moved (T2.newD O (.cells ([].toArray++b.flatten.toArray++Builtin.zeroCells z.cells (grownCap w (0+b.length) 0 e-(0+b.length))) e (0,0)) rfl)
  refine O7 (n03 L F N k) ⟨_,_,_,_,_,_,_,J _ _ ⟨λx B=>l.1 x B,.inr ⟨w.heap.size,grownCap w (0+b.length) 0 e,_,?_,N02 O,rfl,by omega,U,?_,?_⟩⟩,rfl,aj,rfl,S6.refl _ _ _⟩
  ·rw[Nat.zero_add]
  ·simp only[Array.size_append,List.size_toArray,I,size_zeroCells,ae,List.length_nil,←Nat.add_mul,Nat.zero_add]
   grind
  grind
theorem l0k(e:Sim P h0 w0 be oe H st h a w)(b:P0j P o st h K):o.wp P a w (Nx P h0 w0 st be oe K a o.dst) Q:=by
 unfold P0j at b
 split at b
 ·grind[j0k,k00]
 ·rename_i as j d
  split at b
  ·rename_i x y t i f g
   split at b
   ·rename_i c
    have:=Nat.eq_of_beq_eq_true c
    subst this
    exact k0k e d (by grind) (by grind) b
   ·exact b.elim
  ·exact b.elim
 grind[k00]
end
section
variable {P:Program} {h0:Hp} {w0:World} {be:Nat->Nat} {oe:Nat->Value} {H:Hp} {h:Hp} {a:Act} {w:World}
def O0i(st:St)(be:Nat->Nat)(oe:Nat->Value)(h:Hp)(bs:List BE)(x:List (Nat×Bool)×j6)(v:Value):Prop:=cB bs x.1=some true->w06 st be oe h x.2 v
theorem d02{L:FL}{st:St}{h:Hp}{bs:List BE}{ch:List (Nat×Bool)}{val:Nat->Value}{K:List (Nat×AV)->Prop}(d:cB bs ch=some true):∀ {l:List Operand} {acc:List (Nat×AV)},
  (∀ t,D2 st be oe (E3 acc t) (val t))->(∀ t,Operand.tmp t∈l->(∀ x,W03 L t=some x->O0i st be oe h bs x (val t))/\(W03 L t=none->D2 st be oe (E3 st.fr t) (val t))) ->
  T07 L st h ch l acc K->∃ fr,K fr/\∀ t,D2 st be oe (E3 fr t) (val t)
 | [],acc,c,b,a=>⟨acc,a,c⟩
 | .tmp t::r,acc,c,b,a=>by
  have j:∀ u,Operand.tmp u∈r->_:=λu i=>b u (mC _ i)
  have k:=b t mS
  have put:∀ av,D2 st be oe av (val t)->∀ u,D2 st be oe (E3 ((t,av)::acc) u) (val u):=λav g u=>by
   grind[Z3]
  simp only[T07]at a
  split at a
  ·rename_i n f e
   split at a
   ·rename_i m
    have hf:=k.1 _ e (p09 m d)
    cases f with
    |pu av=>exact d02 d (put av hf) j a
    |ef F=>exact d02 d (put (.val (val t)) rfl) j (a _ hf)
   ·exact a.elim
  ·rename_i e
   exact d02 d (put _ (k.2 e)) j a
 | .const v::r,acc,c,b,a=>d02 (l:=r) d c (λu i=>b u (mC _ i)) a
 | .global v::r,acc,c,b,a=>d02 (l:=r) d c (λu i=>b u (mC _ i)) a
 | .func v::r,acc,c,b,a=>d02 (l:=r) d c (λu i=>b u (mC _ i)) a
theorem c0h{st:St}{val:Nat->Value}{K:List (Nat×AV)->Prop}:∀ {L:FL} {fr:List (Nat×AV)},(∀ p∈L,p.2.1 = []->w06 st be oe h p.2.2 (val p.1)) ->
  (∀ t,(∀ x,(t,x) ∉ L)->D2 st be oe (E3 fr t) (val t))->D0g h L fr K->∃ fr,K fr/\∀ t,D2 st be oe (E3 fr t) (val t)
 | [],fr,b,c,a=>⟨fr,a,λt=>c t (by simp)⟩
 |(d,ch,f)::r,fr,b,c,a=>by
  have step:∀ av,D2 st be oe av (val d)->D0g h r ((d,av)::fr) K->∃ fr,K fr/\∀ t,D2 st be oe (E3 fr t) (val t):=λav g a =>
   c0h (L:=r) (fr:=(d,av)::fr) (λp e=>b p (mC _ e)) (λt i=>by
    grind[Z3]) a
  cases ch with
  |nil =>
   have hf:=b (d,[],f) mS rfl
   cases f with
   |pu av=>exact step av hf a
   |ef F=>exact step (.val (val d)) rfl (a _ hf)
  |cons p q =>
   refine step .dead trivial ?_
   cases f<;>exact a
theorem v0q{st:St}{L:FL}{bs:List BE}{ch:List (Nat×Bool)}{o:Oper}{av:AV}(c:K09 P L bs ch o st=some av)(z:cB bs ch=some true)
  (am:∀ t,(∀ x,W03 L t=some x->O0i st be oe h bs x (a.tmps.getD t undef))/\(W03 L t=none->D2 st be oe (E3 st.fr t) (a.tmps.getD t undef))∨Operand.tmp t ∉ o.op.operands)
  (ay:∀ x∈bs,∀ y,W03 L x.d=some y->y=(x.ch,.pu (.val (.bool x.e)))) (ah:∀ x∈bs,k03 bs x.j=some x) (aw:∀ x∈bs,∃ y,W03 L x.d=some y)
  (T:∀ {fr:List (Nat×AV)},(∀ t,D2 st be oe (E3 fr t) (a.tmps.getD t undef))->Sim P h0 w0 be oe H { st with fr:=fr } h a w) {Q:Exit->Act->World->Prop} :
  o.wp P a w (λE l=>∃ v be' oe' C,E=a.put o.dst v/\(∃ fr,Sim P h0 w0 be' oe' C { st with fr:=fr } h a l)/\S6 st be oe st be' oe'/\D2 st be' oe' av v) Q:=by
 have G:Sim P h0 w0 be oe H { st with fr:=[] } h a w:=T (λt=>trivial)
 have rd:∀(x:Operand) (I:List (Nat×Bool)),cB bs I=some true->(∀ t,x = .tmp t->Operand.tmp t∈o.op.operands)->D2 st be oe (rdU L st I x) (a.eval x):=by
  intro x I af f
  cases x with
  |tmp t =>
   have Y:=(am t).resolve_right (λB=>B (f t rfl))
   simp only[rdU]
   split
   ·rename_i ar A e
    split
    ·rename_i O
     have:=Y.1 _ e (p09 O af)
     have g:D2 st be oe A (a.tmps.getD t undef):=this
     have s:=G.rdA (D2.fr (st:=st) (fr:=[]) g)
     have p:rdA { st with fr:=[] } A=rdA st A:=by obtain⟨n,fr,bx,ow⟩:=st;cases A<;>rfl
     rw[p]at s
     exact D2.fr (st := { st with fr:=[] }) (fr:=st.fr) s
    ·trivial
   ·trivial
   ·rename_i e
    have g:=Y.2 e
    have s:=G.rdA (D2.fr (st:=st) (fr:=[]) g)
    have p:rdA { st with fr:=[] } (E3 st.fr t)=rdA st (E3 st.fr t):=by obtain⟨n,fr,bx,ow⟩:=st;cases E3 fr t<;>rfl
    rw[p]at s
    exact D2.fr (st := { st with fr:=[] }) (fr:=st.fr) s
  |const v=>exact rfl
  |global v=>trivial
  |func v=>exact rfl
 have done:∀ {v:Value},(∀ l,(execOp a.eval o).run P l = .ok (.value v) l ∨ ¬ Vis H l)->D2 st be oe av v->o.wp P a w (λE l=>∃ v be' oe' C,E=a.put o.dst v/\(∃ fr,Sim P h0 w0 be' oe' C { st with fr:=fr } h a l)/\S6 st be oe st be' oe'/\D2 st be' oe' av v) Q:=λ{v} m g =>
  O7 ((m w).resolve_right λB=>B G.mv.vis) ⟨v,be,oe,H,rfl,⟨[],G⟩,S6.refl _ _ _,g⟩
 unfold K09 at c
 split at c
 ·rename_i x f
  have g:=rd x ch z (λt e=>by rw[f];simp[Op.operands,e])
  refine done (v:=a.eval x) (λl => .inl (by unfold execOp;rw[f];rfl)) ?_
  revert c
  cases m:rdU L st ch x<;>intro c<;>first|(cases c;done)|(cases c;rw[m]at g;exact g)
 ·rename_i x f
  have g:=rd x ch z (λt e=>by rw[f];simp[Op.operands,e])
  refine done (v:=a.eval x) (λl => .inl (by unfold execOp;rw[f];rfl)) ?_
  revert c
  cases m:rdU L st ch x<;>intro c<;>first|(cases c;done)|(cases c;rw[m]at g;exact g)
 ·rename_i t x f
  have g:=rd x ch z (λt e=>by rw[f];simp[Op.operands,e])
  split at c
  ·rename_i i off m
   rw[m]at g
   split at c
   ·rename_i cs ty B
    have ao:∃ u,x = .tmp u:=by
     cases x with
     |tmp u=>exact⟨u,rfl⟩
     |const v=>simp[rdU,rdO]at m
     |global v=>simp[rdU,rdO]at m
     |func v=>simp[rdU,rdO]at m
    obtain⟨u,rfl⟩:=ao
    have ag:t8 P o { st with fr:=[(u,.box i off)] } h λS st' h'=>S=av/\st' = { st with fr:=[(u,.box i off)] }/\h'=h:=by
     have ak:rdO { st with fr:=[(u,.box i off)] } (.tmp u) = .box i off:=by
      show rdA _ (E3 [(u,AV.box i off)] u)=_
      rw[Z3,if_pos rfl]
      simp only[rdA,B]
     simp only[t8,f,ak,B]
     grind[q0e,l05,q0i,R5]
    have s1:=T (fr:=[(u,.box i off)]) (λaz=>by
     rw[Z3]
     split
     ·rename_i e;subst e;exact g
     ·trivial)
    refine Oper.wp_mono (λE l f=>?_) (k00 s1 ag)
    obtain⟨S,st',au,v,be',oe',C,⟨J,p,ac⟩,ae,s2,s,F⟩:=f
    rw[p,ac]at s2
    rw[J,p]at s
    rw[p]at F
    exact⟨v,be',oe',C,ae,⟨_,s2⟩,⟨F.bl,F.be,F.sm⟩,D2.fr (st := { st with fr:=[(u,.box i off)] }) (fr:=st.fr) s⟩
   ·cases c
  ·cases c
 ·rename_i t x k f
  have g:=rd x ch z (λt e=>by rw[f];simp[Op.operands,e])
  split at c
  ·rename_i i off K m X
   rw[m]at g
   cases c
   refine done (v:=ptr (be i) (off+K)) (λl=>?_) ⟨g.1,rfl⟩
   by_cases hvis:Vis H l
   ·exact .inl (R.run_of (R.exec_fieldAddr (H:=H) f X g.2) l hvis)
   ·exact .inr hvis
  ·rename_i sl j sz aq K m X
   rw[m]at g
   cases c
   obtain⟨b,Z,n,ab,J,p⟩:=g
   refine done (v:=ptr b (Z+(j.toNat*sz+aq)+K)) (λl=>?_) ⟨b,Z,n,ab,J,by simp[Nat.add_assoc]⟩
   grind[Vis,R.run_of,R.exec_fieldAddr]
  ·cases c
 ·rename_i aa x y f
  have g:=rd (.tmp aa) ch z (λt e=>by rw[f];cases e;simp[Op.operands])
  split at c
  ·rename_i e q O aj
   rw[O]at g
   have ad:a.eval (.tmp aa) = .bool e:=g
   split at c
   ·rename_i al
    obtain⟨ai,ax⟩:=k0c aj
    have V:=p09 al z
    have W:q.e=e:=by
     grind[rdU,bool,Go.H.rdA]
    have U:=ah q ai
    split at c
    ·rename_i bx by_ an ap
     cases c
     refine done (v := .bool (cond e bx by_)) (λl => .inl ?_) rfl
     unfold execOp;rw[f]
     simp only[ad,Sem.run_bind,asBool,Sem.run_pure,Result.andThen_ok]
     cases e with
     |true =>
      have N:cB bs ((q.j,true)::q.ch)=some true:=by
       rw[Z04,U,V];simp[lit,W]
      have D:=rd x _ N (λt e=>by rw[f];simp[Op.operands,e])
      rw[an]at D
      have M:a.eval x = .bool bx:=D
      simp[M]
     |false =>
      have N:cB bs ((q.j,false)::q.ch)=some true:=by
       rw[Z04,U,V];simp[lit,W]
      have D:=rd y _ N (λt e=>by rw[f];simp[Op.operands,e])
      rw[ap]at D
      have M:a.eval y = .bool by_:=D
      simp[M]
    ·cases c
   ·cases c
  ·cases c
 ·cases c
theorem Sim.untail{st:St}{t:List Own}(c:Sim P h0 w0 be oe H { st with ow:=st.ow++t } h a w)(hf:∀ u,D2 st be oe (E3 st.fr u) (a.tmps.getD u undef))
  (m:∀ i cs ty,nth st.bx i=some (.live cs ty)->∃ vs,Z1 st oe cs vs/\H (be i)=some (.cells vs.toArray ty (0,0))):Sim P h0 w0 be oe H st h a w:=by
 have up:∀ i o,nth st.ow i=some o->nth (st.ow++t) i=some o:=λi o b=>by
  grind[s05,List.getElem?_append_left,List.getElem?_eq_some_iff]
 refine⟨c.mv,c.sub,λi cs ty b=>⟨(c.box i cs ty b).1,m i cs ty b⟩,c.pub,λi f e sz by_ nn xs b=>c.own i f e sz by_ nn xs (up i _ b),λi f v b=>c.frz i f v (up i _ b),c.bb,
  λi j s1 e sz by_ nn xs s2 l p k n q g b d=>c.oo i j s1 e sz by_ nn xs s2 l p k n q g (up i _ b) (up j _ d),λi cs ty j s1 e sz by_ nn xs b d=>c.bo i cs ty j s1 e sz by_ nn xs b (up j _ d),c.dfr,c.siz,hf⟩
def l0a(P:Program)(h0:Hp)(w0:World)(ops:Array Oper)(st:St)(h:Hp)(A:Asg)(sk:Nat->Bool)(kp:List (Nat×Value))(listed:Array Bool)(a:Act)(w:World):Prop :=
 ∃ be oe H h',Sub h h'/\Sim P h0 w0 be oe H { st with fr:=w4 ops.toList st.fr } h' a w/\(∀ p∈kp,a.tmps.getD p.1 undef=p.2) /\
  ∀ j o d,sk j=false->ops[j]?=some o->o.dst=some d->listed.getD j false=true->((A j).2.1=true->w06 st be oe h' (A j).2.2 (a.tmps.getD d undef))/\((A j).2.1=false->a.tmps.getD d undef=undef)
theorem X0r{st st':St}(t:e0m st st'):∃ r,st' = { st with ow:=st.ow++r }:=by
 obtain⟨n,fr,bx,ow⟩:=st
 obtain⟨g,b,a,h⟩:=st'
 obtain⟨c,d,e,r,f⟩:=t
 grind
theorem Y0r{b:Type}{l r:List b}{i:Nat}(a:i<l.length):nth (l++r) i=nth l i:=by
 rw[s05,s05,List.getElem?_append_left a]
theorem d0h{st:St}{r:List Own}{i a:Nat}(b:stamp st i=some a):stamp { st with ow:=st.ow++r } i=some a:=by
 grind[stamp,nth,Y0r,a02]
theorem I0s{ops:Array Oper}{st:St}{A:Asg}{sk:Nat->Bool}{kp:List (Nat×Value)}{bc:FL}{ai:List BE}{listed:Array Bool}{j:Nat}{o:Oper}{Q:Exit->Act->World->Prop}
  (bp:∀(i j:Nat) (f a2:Oper) (d:Nat),ops.toList[i]?=some f->ops.toList[j]?=some a2->f.dst=some d->a2.dst=some d->i=j)
  (ak:∀ o∈ops.toList,∀ d,o.dst=some d->d<st.n)
  (bo:∀(k:Nat) (o:Oper),ops.toList[k]?=some o->∀ e∈o.after,Region.binds .any e=true->e.on<k)
  (aQ:∀ o∈ops.toList,∀ t,Operand.tmp t∈o.op.operands->∀(i:Nat) (f:Oper),ops.toList[i]?=some f->f.dst=some t->∃ e∈o.after,Region.binds .any e=true/\e.on=i)
  (bC:∀ o∈ops.toList,∀ i w,o.guard=some (i,w)->j8 i o=true)
  (aq:H0g ops.toList A bc ai ops.toList.length)
  (aO:∀ j o,ops.toList[j]?=some o->∃ T D,s00 ai o.guard=some (A j).1/\H0g ops.toList A T D j/\F09 D ai/\cB D (A j).1=some (A j).2.1/\(OpU P st h T D o (A j).1 (A j).2.1 (A j).2.2/\∀ av,K09 P T D (A j).1 o st=some av->(A j).2.2 = .pu av))
  (b8:sk j=false) (cb:∀(i:Nat) (f:Oper) (d:Nat),ops.toList[i]?=some f->f.dst=some d->sk i=true->∀ C∈ops.toList,Operand.tmp d ∉ C.op.operands)
  (bM:∀ i,sk i=true->(A i).2.2 = .pu (.val undef)) (ca:∀ p∈kp,∃(i:Nat) (f:Oper),ops.toList[i]?=some f/\f.dst=some p.1/\sk i=true)
  (aS:ops[j]?=some o) (aV:∀ e∈o.after,Region.binds .any e=true->listed.getD e.on false=true) (ag:l0a P h0 w0 ops st h A sk kp listed a w) :
  (Region.wanted o (yielded ops a.tmps)=true->o.wp P a w (l0a P h0 w0 ops st h A sk kp (listed.setIfInBounds j true)) Q) /\
  (Region.wanted o (yielded ops a.tmps)=false->l0a P h0 w0 ops st h A sk kp (listed.setIfInBounds j true) (a.put o.dst undef) w):=by
 obtain⟨be,oe,H,h',aE,ac,keep,ay⟩:=ag
 have al:ops.toList[j]?=some o:=by simpa using aS
 have aj:o∈ops.toList:=List.mem_of_getElem? al
 have aR:j<ops.toList.length:=(List.getElem?_eq_some_iff.1 al).1
 obtain⟨T,D,aa,W,bQ,ar,L,_⟩:=aO j o al
 have af:cB ai (A j).1=some (A j).2.1:=aq.p3 j aR aR
 have aY:Region.wanted o (yielded ops a.tmps)=(A j).2.1:=by
  unfold Region.wanted
  cases hg:o.guard with
  |none =>
   rw[hg]at aa
   cases hch':(A j).1 with
   |nil=>rw[hch']at af;exact oJ af
   |cons p q=>rw[hch']at aa;cases aa
  |some p =>
   obtain⟨i,aK⟩:=p
   rw[hg]at aa
   simp only[s00]at aa
   split at aa
   ·rename_i b J
    obtain⟨bG,rfl⟩:=d04 J
    obtain⟨E,⟨C,s,N⟩,an,ae⟩:=aq.p4 b bG
    have aC:listed.getD b.j false=true:=by
     obtain⟨e,R,br,am⟩:=Z6 (bC o aj b.j aK hg)
     rw[←am];exact aV e R br
    have bL:sk b.j=false:=by
     cases e:sk b.j with
     |false=>rfl
     |true=>rw[bM b.j e]at ae;cases ae
    have hf:=ay b.j C b.d bL (by simpa using s) N aC
    have aP:=aq.p3 b.j E E
    rw[an]at aP
    have ab:b.d<a.tmps.size:=by rw[ac.siz];exact ak C (List.mem_of_getElem? s) b.d N
    have aG:a.tmps[b.d]?=some (if(A b.j).2.1=true then .bool b.e else undef):=by
     rw[Array.getElem?_eq_getElem ab]
     have bD:a.tmps.getD b.d undef=a.tmps[b.d]:=by simp[ab]
     cases K:(A b.j).2.1 with
     |true =>
      have:=hf.1 K
      rw[ae,bD]at this
      have I:a.tmps[b.d] = .bool b.e:=this
      rw[I];rfl
     |false =>
      grind
    have aH:yielded ops a.tmps b.j=if(A b.j).2.1=true then some b.e else none:=by
     unfold yielded
     have:ops[b.j]?=some C:=by simpa using s
     simp only[this,N,oB,aG]
     cases (A b.j).2.1<;>rfl
    have bz:(A j).1=(b.j,aK)::b.ch:=by
     grind
    rw[bz,Z04,J,aP]at af
    simp only[Option.some.injEq]at af
    simp only[aH,←af]
    cases (A b.j).2.1<;>cases aK<;>cases b.e<;>rfl
   ·cases aa
 have bY:∀ i f,ops.toList[i]?=some f->∀ F,(A i).2.2 = .ef F->∀ v G I,Sub G I->F v G->F v I:=λi f au F bq=>by
  obtain⟨bZ,b2,_,_,_,_,aU,_⟩:=aO i f au
  rw[bq]at aU
  exact aU.1
 have fin:∀ {fr:List (Nat×AV)} {ad:Act} {S:World} {O:Hp} {be':Nat->Nat} {oe':Nat->Value} {M:Hp} {v:Value},Sub h' O->ad=a.put o.dst v->Sim P h0 w0 be' oe' M { st with fr:=fr } O a S ->
   S6 st be oe st be' oe'->((A j).2.1=true->w06 st be' oe' O (A j).2.2 v)->((A j).2.1=false->v=undef)->l0a P h0 w0 ops st h A sk kp (listed.setIfInBounds j true) ad S:=by
  intro fr ad S O be' oe' M v aX Z bV ao aG bN
  subst Z
  have bm:S6 { st with fr:=w4 ops.toList st.fr } be oe { st with fr:=w4 ops.toList st.fr } be' oe':=⟨ao.bl,ao.be,ao.sm⟩
  have s1:Sim P h0 w0 be' oe' M { st with fr:=w4 ops.toList st.fr } O a S :=
   bV.refr (fr:=w4 ops.toList st.fr) λt=>D2.fr (st := { st with fr:=w4 ops.toList st.fr }) ((ac.fr t).grow bm)
  have s2:Sim P h0 w0 be' oe' M { st with fr:=w4 ops.toList st.fr } O (a.put o.dst v) S:=by
   cases V:o.dst with
   |none=>exact s1
   |some d =>
    have aD:=s1.put (d:=d) (av := .dead) (v:=v) (ak o aj d V) trivial
    refine aD.refr (fr:=w4 ops.toList st.fr) λt=>?_
    have g:=aD.fr t
    grind[Z3,y02]
  have cl:∀ d,o.dst≠some d->(a.put o.dst v).tmps.getD d undef=a.tmps.getD d undef:=λd V=>by
   cases aB:o.dst with
   |none=>rfl
   |some U=>simp[Act.put,Array.getElem?_setIfInBounds_ne (λe=>V (by rw[aB,e]):U≠d)]
  refine⟨be',oe',M,O,λb x J=>aX b x (aE b x J),s2,λp aD=>?_,λi f d aF G I aN=>?_⟩
  ·grind
  by_cases hij:j=i
  ·subst hij
   rw[aS]at G;cases G
   have ab:d<a.tmps.size:=by rw[ac.siz];exact ak o aj d I
   have:(a.put o.dst v).tmps.getD d undef=v:=by
    rw[I]
    simp[Act.put,ab]
   rw[this]
   exact⟨aG,bN⟩
  ·have bF:listed.getD i false=true:=by rw[getD_set_ne false hij]at aN;exact aN
   have bI:∀ U,o.dst=some U->U≠d:=λU aB e=>by
    subst e
    exact hij (bp j i o f U al (by simpa using G) aB I)
   have:(a.put o.dst v).tmps.getD d undef=a.tmps.getD d undef:=by
    cases V:o.dst with
    |none=>rfl
    |some U=>simp[Act.put,Array.getElem?_setIfInBounds_ne (bI U V)]
   rw[this]
   obtain⟨ah,bR⟩:=ay i f d aF G I bF
   refine⟨λK=>?_,bR⟩
   have ah:=ah K
   cases hA:(A i).2.2 with
   |pu av=>rw[hA]at ah;exact D2.grow ao ah
   |ef F=>rw[hA]at ah;exact bY i f (by simpa using G) F hA _ _ _ aX ah
 refine⟨λbP=>?_,λbO=>?_⟩
 rotate_left
 ·have K:(A j).2.1=false:=by rw[←aY];exact bO
  exact fin (fr:=w4 ops.toList st.fr) (λ_ _ h=>h) rfl ac (S6.refl _ _ _) (λh=>by rw[K]at h;cases h) (λ_=>rfl)
 have K:(A j).2.1=true:=by rw[←aY];exact bP
 rw[K]at ar L
 have b7:cB ai (A j).1=some true:=by rw[af,K]
 have bX:∀ t x,W03 T t=some x->O0i st be oe h' D x (a.tmps.getD t undef)∨Operand.tmp t ∉ o.op.operands:=λt x m=>by
  by_cases B:Operand.tmp t∈o.op.operands
  ·refine .inl λbB=>?_
   obtain⟨i,f,E,s,N,an,ae⟩:=W.p1 t x (c05 m)
   obtain⟨e,R,J,am⟩:=aQ o aj t B i f s N
   have aC:listed.getD i false=true:=by rw[←am];exact aV e R J
   have bA:(A i).2.1=true:=by
    have G:=aq.p3 i (List.getElem?_eq_some_iff.1 s).1 (List.getElem?_eq_some_iff.1 s).1
    rw[an,bQ.c _ _ bB]at G
    exact(oJ G).symm
   have aF:sk i=false:=by
    grind
   have:=(ay i f t aF (by simpa using s) N aC).1 bA
   rwa [ae]at this
  ·exact .inr B
 have bk:∀ t,Operand.tmp t∈o.op.operands->W03 T t=none->D2 st be oe (E3 st.fr t) (a.tmps.getD t undef):=λt B bJ=>by
  have g:=ac.fr t
  have bH:E3 (w4 ops.toList st.fr) t=E3 st.fr t:=v01 λC bK V=>by
   obtain⟨i,ag,e⟩:=List.getElem_of_mem bK
   have au:ops.toList[i]?=some C:=by rw[List.getElem?_eq_getElem ag,e]
   obtain⟨bj,R,J,am⟩:=aQ o aj t B i C au V
   have ab:=bo j o al bj R J
   rw[am]at ab
   obtain⟨x,m⟩:=W.p2 i C t ab au V
   rw[bJ]at m;cases m
  rw[←bH]
  exact D2.fr (st := { st with fr:=w4 ops.toList st.fr }) (fr:=st.fr) g
 have a3:∀ t,Operand.tmp t∈o.op.operands->(∀ x,W03 T t=some x->O0i st be oe h' D x (a.tmps.getD t undef))/\(W03 T t=none->D2 st be oe (E3 st.fr t) (a.tmps.getD t undef)):=λt B =>
  ⟨λx m=>(bX t x m).resolve_right λak=>ak B,bk t B⟩
 have mk:∀ {fr:List (Nat×AV)},(∀ t,D2 st be oe (E3 fr t) (a.tmps.getD t undef))->Sim P h0 w0 be oe H { st with fr:=fr } h' a w:=λ{fr} g=>ac.refr (fr:=fr) λt=>D2.fr (g t)
 cases hA:(A j).2.2 with
 |pu av =>
  rw[hA]at L
  rcases L with L|L
  ·refine Oper.wp_mono (λad S m=>?_) (v0q (be:=be) (oe:=oe) (H:=H) (h:=h') L ar (λt=>?_) (λx m y aH=>?_) (λx m=>?_) (λx m=>?_) mk)
   ·obtain⟨v,be',oe',M,Z,⟨fr,s2⟩,Y,s⟩:=m
    exact fin (λ_ _ h=>h) Z s2 Y (λ_=>by rw[hA];exact s) (λh=>by rw[K]at h;cases h)
   ·grind
   ·obtain⟨E,⟨C,s,N⟩,an,ae⟩:=W.p4 x m
    obtain⟨i,f,a0,a1,cc,cd,ce⟩:=W.p1 x.d y (c05 aH)
    grind
   ·have aJ:∀(l:List BE),x∈l->∃ b,k03 l x.j=some b:=by
     intro l
     induction l with
     |nil=>intro h;cases h
     |cons z l aZ =>
      intro h
      simp only[k03]
      split
      ·exact⟨_,rfl⟩
      grind[absurd,Nat.ne_of_beq_eq_false]
    obtain⟨b,J⟩:=aJ D m
    obtain⟨bu,bt⟩:=d04 J
    obtain⟨_,⟨cf,aw,aL⟩,aM,ax⟩:=W.p4 b bu
    obtain⟨_,⟨cg,bf,bg⟩,bh,bi⟩:=W.p4 x m
    rw[bt]at aw aM ax
    rw[bf]at aw;cases aw
    rw[bg]at aL
    rw[bi]at ax
    have b4:x.d=b.d:=by simpa using aL
    have b5:x.ch=b.ch:=bh.symm.trans aM
    have b6:x.e=b.e:=by simpa using ax
    rw[J]
    obtain⟨b3,b1,be',b0⟩:=b
    obtain⟨cr,cp,cq,co⟩:=x
    grind
   ·obtain⟨E,⟨C,s,N⟩,_,_⟩:=W.p4 x m
    exact W.p2 x.j C x.d E s N
  ·obtain⟨fr,R,g⟩:=d02 (acc:=[]) (be:=be) (oe:=oe) (val:=λt=>a.tmps.getD t undef) ar (λt=>trivial) (λt B=>a3 t (by simpa using B)) (y08 (bs:=D) (L h' aE) rfl)
   refine Oper.wp_mono (λad S m=>?_) (k00 (mk g) R)
   obtain⟨bd,st',O,v,be',oe',M,⟨rfl,rfl,rfl⟩,Z,s2,s,Y⟩:=m
   exact fin (λ_ _ h=>h) Z s2 ⟨Y.bl,Y.be,Y.sm⟩ (λ_=>by rw[hA];exact D2.fr (st := { st with fr:=fr }) (fr:=st.fr) s) (λh=>by rw[K]at h;cases h)
 |ef F =>
  rw[hA]at L
  obtain⟨_,L⟩:=L
  obtain⟨fr,R,g⟩:=d02 (acc:=[]) (be:=be) (oe:=oe) (val:=λt=>a.tmps.getD t undef) ar (λt=>trivial) (λt B=>a3 t (by simpa using B)) (y08 (bs:=D) (L h' aE) rfl)
  refine Oper.wp_mono (λad S m=>?_) (l0k (mk g) R)
  obtain⟨bd,st',O,v,be',oe',M,bE,Z,s2,s,Y⟩:=m
  obtain⟨cj,I,⟨B,a0,a1⟩,ba,bn⟩:=m03 s2 s bE
  obtain⟨r,rfl⟩:=X0r B
  have ap:S6 st be oe st be' oe':=by
   have aA:=Y.trans bn
   refine⟨aA.bl,aA.be,λi a9 aW=>?_⟩
   obtain⟨s1,a4,ci,a5⟩:=aA.sm i a9 aW
   have a6:stamp { n:=st.n,fr:=fr,bx:=st.bx,ow:=st.ow++r } i=some a9:=d0h (st := { st with fr:=fr }) aW
   grind
  have bv:∀ i cs ty,nth st.bx i=some (.live cs ty)->∃ vs,Z1 { st with fr:=fr } oe' cs vs/\M (be' i)=some (.cells vs.toArray ty (0,0)):=λi cs ty ag=>by
   obtain⟨_,X,a4,_⟩:=ac.box i cs ty ag
   obtain⟨_,vs,a5,a6⟩:=ba.box i cs ty ag
   refine⟨vs,?_,a6⟩
   have aJ:∀(cs:List F5) (X vs:List Value),Z1 { st with fr:=w4 ops.toList st.fr } oe cs X->Z1 { n:=st.n,fr:=fr,bx:=st.bx,ow:=st.ow++r } oe' cs vs->Z1 { st with fr:=fr } oe' cs vs:=by
    intro cs
    induction cs with
    |nil=>intro X vs _ g;cases vs with
     |nil=>trivial
     |cons v vs=>exact g.elim
    |cons c cs aZ =>
     intro X vs az E
     cases X with
     |nil=>exact az.elim
     |cons cm X =>
      cases vs with
      |nil=>exact E.elim
      |cons cn vs =>
       refine⟨?_,aZ X vs az.2 E.2⟩
       cases c with
       |val x=>exact E.1
       |own k s1 =>
        obtain⟨bb,a7,_,_⟩:=az.1
        obtain⟨ck,a8,bS,bT⟩:=E.1
        have bU:stamp { n:=st.n,fr:=fr,bx:=st.bx,ow:=st.ow++r } k=some bb:=d0h (st := { st with fr:=fr }) a7
        rw[bU]at a8
        cases a8
        exact⟨bb,a7,bS,bT⟩
   exact aJ cs X vs a4 a5
  have bW:Sim P h0 w0 be' oe' M { st with fr:=fr } I a S:=Sim.untail (st := { st with fr:=fr }) (t:=r) ba (λu=>D2.grow (st := { st with fr:=fr }) (st' := { st with fr:=fr }) ⟨ap.bl,ap.be,ap.sm⟩ (D2.fr (g u))) bv
  exact fin (fr:=fr) a0 Z bW ap (λ_=>by rw[hA];exact a1) (λh=>by rw[K]at h;cases h)
theorem l0a.start{ops:Array Oper}{st:St}{A:Asg}{sk:Nat->Bool}(f:Sim P h0 w0 be oe H st h a w):l0a P h0 w0 ops st h A sk [] (Array.replicate ops.size false) a w:=by
 refine⟨be,oe,H,h,λ_ _ h=>h,f.refr (fr:=w4 ops.toList st.fr) λt=>?_,λp k=>(by cases k),λj o d _ c e b=>?_⟩
 ·by_cases hx:∃ o∈ops.toList,o.dst=some t
  ·obtain⟨o,c,e⟩:=hx
   rw[y02 c e]
   trivial
  ·rw[v01 λo i g=>hx ⟨o,i,g⟩]
   exact f.fr t
 ·simp[Array.getElem?_replicate]at b
  split at b<;>cases b
theorem x0n{ops:Array Oper}{st:St}{A:Asg}{sk:Nat->Bool}{kp:List (Nat×Value)}{q:FL}{C:List BE}{K:St->Hp->Prop}{listed:Array Bool}
  (S:∀ i,sk i=true->(A i).2.2 = .pu (.val undef)) (X:∀(i j:Nat) (b B:Oper) (d:Nat),ops.toList[i]?=some b->ops.toList[j]?=some B->b.dst=some d->B.dst=some d->i=j)
  (c:H0g ops.toList A q C ops.toList.length) (M:∀ h',Sub h h'->D0g h' q st.fr λfr=>K { st with fr:=fr } h') (aa:∀ j,j<ops.size->listed.getD j false=true)
  (f:l0a P h0 w0 ops st h A sk kp listed a w):∃ be oe H h' fr,K { st with fr:=fr } h'/\Sim P h0 w0 be oe H { st with fr:=w4 ops.toList st.fr } h' a w/\(∀ p∈kp,a.tmps.getD p.1 undef=p.2) /\
   ∀ t,(∀(i:Nat) (b:Oper),ops.toList[i]?=some b->b.dst=some t->sk i=false)->D2 st be oe (E3 fr t) (a.tmps.getD t undef):=by
 obtain⟨be,oe,H,h',R,V,keep,W⟩:=f
 have L:∀ t,(∃(i:Nat) (b:Oper),ops.toList[i]?=some b/\b.dst=some t/\sk i=true) ∨ ¬ ∃(i:Nat) (b:Oper),ops.toList[i]?=some b/\b.dst=some t/\sk i=true:=λt=>Classical.em _
 have l:∃ val:Nat->Value,∀ t,((∃(i:Nat) (b:Oper),ops.toList[i]?=some b/\b.dst=some t/\sk i=true)->val t=undef)/\((¬ ∃(i:Nat) (b:Oper),ops.toList[i]?=some b/\b.dst=some t/\sk i=true)->val t=a.tmps.getD t undef) :=
  Classical.axiomOfChoice (r:=λt v=>((∃(i:Nat) (b:Oper),ops.toList[i]?=some b/\b.dst=some t/\sk i=true)->v=undef)/\((¬ ∃(i:Nat) (b:Oper),ops.toList[i]?=some b/\b.dst=some t/\sk i=true)->v=a.tmps.getD t undef)) λt=>by
   rcases L t with h|h
   ·exact⟨undef,λ_=>rfl,λn=>absurd h n⟩
   grind
 obtain⟨val,l⟩:=l
 obtain⟨fr,Z,g⟩:=c0h (st:=st) (be:=be) (oe:=oe) (val:=val) (λp Q I=>by
  obtain⟨t,x⟩:=p
  obtain⟨i,b,h0,D,E,F,G⟩:=c.p1 t x Q
  cases hsk:sk i with
  |true =>
   have e:=(l t).1 ⟨i,b,D,E,hsk⟩
   have s:=S i hsk
   rw[G]at s
   show w06 st be oe h' x.2 (val t)
   rw[s,e];exact rfl
  |false =>
  have u : ¬ ∃(i:Nat) (b:Oper),ops.toList[i]?=some b/\b.dst=some t/\sk i=true:=λ⟨k,ok,o,z,T⟩=>by
   grind
  have Y:(A i).2.1=true:=by
   have:=c.p3 i h0 h0
   rw[F,show x.1 = [] from I]at this
   exact(oJ this).symm
  grind) (λt y=>by
  have u : ¬ ∃(i:Nat) (b:Oper),ops.toList[i]?=some b/\b.dst=some t/\sk i=true:=λ⟨k,ok,o,z,T⟩=>by
   obtain⟨x,m⟩:=c.p2 k ok t (List.getElem?_eq_some_iff.1 o).1 o z
   exact y x (c05 m)
  rw[(l t).2 u]
  have N:E3 (w4 ops.toList st.fr) t=E3 st.fr t:=v01 λU O J=>by
   obtain⟨i,f,e⟩:=List.getElem_of_mem O
   obtain⟨x,m⟩:=c.p2 i U t f (by rw[List.getElem?_eq_getElem f,e]) J
   exact y x (c05 m)
  have:=V.fr t
  rw[N]at this
  exact D2.fr (st := { st with fr:=w4 ops.toList st.fr }) (fr:=st.fr) this) (M h' R)
 grind
theorem C07:∀ {l:List Oper},c0e l=true->∀ o∈l,∀ i w,o.guard=some (i,w)->j8 i o=true
 | [],h,o,a=>by cases a
 |y::r,h,o,a=>by
  simp only[c0e,Bool.and_eq_true]at h
  rcases List.mem_cons.1 a with rfl|a
  ·grind
  ·exact C07 h.2 o a
theorem l0u{ops:Array Oper}{Q:Exit->Act->World->Prop}{Inv:Array Bool->Act->World->Prop}(hB:∀(k:Nat) (o:Oper),ops.toList[k]?=some o->∀ e∈o.after,Region.binds .any e=true->e.on<k)
  (hstep:∀ listed a w j o,ops[j]?=some o->(∀ e∈o.after,Region.binds .any e=true->listed.getD e.on false=true)->Inv listed a w ->
   (Region.wanted o (yielded ops a.tmps)=true->o.wp P a w (Inv (listed.setIfInBounds j true)) Q)/\(Region.wanted o (yielded ops a.tmps)=false->Inv (listed.setIfInBounds j true) (a.put o.dst undef) w))
  (hQ:∀ listed a w,(∀ j,j<ops.size->listed.getD j false=true)->Inv listed a w->Q .normal a w) :
  ∀(fuel:Nat) (listed:Array Bool) (a:Act) (w:World),listed.size=ops.size->listed.toList.count true+fuel=ops.size->Inv listed a w->wpAny P .any ops Q fuel listed a w
 |0,listed,a,w,hsz,hc,hi=>by
  have hall':∀ j,j<ops.size->listed.getD j false=true:=λj hj=>by
   have h1:∀ b∈listed.toList,true=b:=List.count_eq_length.1 (by grind)
   have hlt:j<listed.size:=by omega
   have:=h1 listed[j] (by simp)
   simp[hlt,←this]
  refine⟨?_,hQ listed a w hall' hi⟩
  simp_all[Region.ready,List.mem_cons_self,mem_ready,Array.getElem?_eq_some_iff]
 |fuel+1,listed,a,w,hsz,hc,hi=>by
  refine⟨λhr=>hQ listed a w (m0c hB hsz hr) hi,λj hj=>?_⟩
  obtain⟨h1,o,h2,h3⟩:=mem_ready.1 hj
  unfold wpOp
  simp only[h2]
  obtain⟨ht,hf⟩:=hstep listed a w j o h2 h3 hi
  have next:∀ a' w',Inv (listed.setIfInBounds j true) a' w'->wpAny P .any ops Q fuel (listed.setIfInBounds j true) a' w':=λa' w' hi'=>l0u hB hstep hQ fuel _ a' w' (by simpa using hsz) (by rw[count_set h1];omega) hi'
  cases hw:Region.wanted o (yielded ops a.tmps)with
  |true =>
   rw[if_pos rfl]
   exact .inl (Oper.wp_mono next (ht hw))
  |false =>
   grind
theorem J0s{ops:Array Oper}{Q:Exit->Act->World->Prop}{Inv:Array Bool->Act->World->Prop}(hB:∀(k:Nat) (o:Oper),ops.toList[k]?=some o->∀ e∈o.after,Region.binds .any e=true->e.on<k)
  (hstep:∀ listed a w j o,ops[j]?=some o->(∀ e∈o.after,Region.binds .any e=true->listed.getD e.on false=true)->Inv listed a w ->
   (Region.wanted o (yielded ops a.tmps)=true->o.wp P a w (Inv (listed.setIfInBounds j true)) Q)/\(Region.wanted o (yielded ops a.tmps)=false->Inv (listed.setIfInBounds j true) (a.put o.dst undef) w))
  (hQ:∀ listed a w,(∀ j,j<ops.size->listed.getD j false=true)->Inv listed a w->Q .normal a w) :
  ∀(l:List Oper) (k:Nat) (listed:Array Bool) (a:Act) (w:World),(∀ j,l[j]?=ops.toList[k+j]?)->k+l.length=ops.size->listed.size=ops.size->(∀ j,j<k->listed.getD j false=true)->Inv listed a w->wpList P ops Q l a w
 | [],k,listed,a,w,hl,hk,hsz,hp,hi=>hQ listed a w (λj hj=>hp j (by simp at hk;omega)) hi
 |o::l,k,listed,a,w,hl,hk,hsz,hp,hi=>by
  have ho:ops.toList[k]?=some o:=by simpa using (hl 0).symm
  have hl':∀ j,l[j]?=ops.toList[k+1+j]?:=λj=>by have:=hl (j+1);grind
  obtain⟨ht,hf⟩:=hstep listed a w k o (by simpa using ho) (λe he hb=>hp _ (hB k o ho e he hb)) hi
  have next:∀ a' w',Inv (listed.setIfInBounds k true) a' w'->wpList P ops Q l a' w':=λa' w' hi' =>
   J0s hB hstep hQ l (k+1) _ a' w' hl' (by grind) (by simpa using hsz) (λj hj=>by
    by_cases e:k=j
    ·subst e
     have:k<listed.size:=by grind
     simp[this]
    ·rw[getD_set_ne false e];exact hp j (by omega)) hi'
  unfold wpList
  cases hw:Region.wanted o (yielded ops a.tmps)with
  |true =>
   rw[if_pos rfl]
   exact .inl (Oper.wp_mono next (ht hw))
  |false =>
   grind
theorem m0k{ops:Array Oper}{st:St}{K:St->Hp->Prop}{Q:Exit->Act->World->Prop}(hb:o04 st.n ops.toList=true)(he:evU P ops.toList 0 [] [] st h K)
  (hQ:∀ a w st h be oe H,K st h->Sim P h0 w0 be oe H st h a w->Q .normal a w) :
  (∀ {be:Nat->Nat} {oe:Nat->Value} {H:Hp} {a:Act} {w:World},Sim P h0 w0 be oe H st h a w->wpAny P .any ops Q ops.size (Array.replicate ops.size false) a w) /\
  (∀ {be:Nat->Nat} {oe:Nat->Value} {H:Hp} {a:Act} {w:World},Sim P h0 w0 be oe H st h a w->wpList P ops Q ops.toList a w):=by
 simp only[o04,W02,Bool.and_eq_true]at hb
 obtain⟨⟨⟨b1,b2⟩,b3⟩,b4⟩:=hb
 obtain⟨hn,hD⟩:=A05 b1
 have hB:∀(k:Nat) (o:Oper),ops.toList[k]?=some o->∀ e∈o.after,Region.binds .any e=true->e.on<k:=λk o hk e he' hb=>by
  have:=e04 b2 k o hk e he' hb
  omega
 have hdep:=A07 b3
 have hgd:=C07 b4
 obtain⟨A,Lf,Bf,_,_,hP,hall,hfin⟩:=K0e (ops:=ops.toList) hD ops.toList 0 [] [] (λ_=>([],true,.pu .dead)) (λj=>by simp) (by simp)
  ⟨λt x h=>(by cases h),λi oi d hi=>by omega,λi hi=>by omega,λx hx=>(by cases hx)⟩ he
 have step:∀ listed a w j o,ops[j]?=some o->(∀ e∈o.after,Region.binds .any e=true->listed.getD e.on false=true)->l0a P h0 w0 ops st h A (λ_=>false) [] listed a w ->
   (Region.wanted o (yielded ops a.tmps)=true->o.wp P a w (l0a P h0 w0 ops st h A (λ_=>false) [] (listed.setIfInBounds j true)) Q)/\(Region.wanted o (yielded ops a.tmps)=false->l0a P h0 w0 ops st h A (λ_=>false) [] (listed.setIfInBounds j true) (a.put o.dst undef) w) :=
  λlisted a w j o h1 h2 h3=>I0s hD hn hB hdep hgd hP (λj o ho=>hall j o (Nat.zero_le _) ho) rfl (λ_ _ _ _ _ h=>nomatch h) (λ_ h=>nomatch h) (λ_ hp=>nomatch hp) h1 h2 h3
 have done:∀ listed a w,(∀ j,j<ops.size->listed.getD j false=true)->l0a P h0 w0 ops st h A (λ_=>false) [] listed a w->Q .normal a w:=λlisted a w hl hi=>by
  obtain⟨be,oe,H,h',fr,hk,s,_,g⟩:=x0n (sk:=λ_=>false) (λ_ h=>nomatch h) hD hP hfin hl hi
  exact hQ a w _ h' be oe H hk (s.refr (fr:=fr) λt=>D2.fr (g t λ_ _ _ _=>rfl))
 refine⟨λs=>?_,λs=>?_⟩
 ·exact l0u hB step done ops.size _ _ _ (by simp) (by simp[List.count_replicate]) (l0a.start s)
 ·exact J0s hB step done ops.toList 0 _ _ _ (λj=>by simp) (by simp) (by simp) (λj hj=>by omega) (l0a.start s)
end
def y04(H:Hp):List (Nat×Obj)->Hp
 | []=>H
 |p::l=>(y04 H l).set p.1 p.2
theorem f04{H:Hp}{b:Nat}:∀ {l:List (Nat×Obj)},(∀ p∈l,p.1≠b)->y04 H l b=H b
 | [],_=>rfl
 |p::l,h=>by
  rw[y04,Hp.set_other _ _ λe=>h p mS e.symm]
  exact f04 λq a=>h q (mC _ a)
theorem C05{H:Hp}:∀ {l:List (Nat×Obj)},(l.map λp=>p.1).Nodup->∀ {p:Nat×Obj},p∈l->y04 H l p.1=some p.2
 | [],_,p,h=>nomatch h
 |q::l,a,p,h=>by
  rw[List.map_cons,List.nodup_cons]at a
  rcases List.mem_cons.1 h with rfl|h
  ·exact Hp.set_same _ _ _
  ·rw[y04,Hp.set_other _ _ λe=>a.1 (List.mem_map.2 ⟨p,h,e⟩)]
   exact C05 a.2 h
theorem B08{H:Hp}{l:List (Nat×Obj)}(b:Nat):(∃ p∈l,p.1=b)∨∀ p∈l,p.1≠b:=by
 grind
theorem L0e{a H:Hp}{f w:World}{l:List (Nat×Obj)}(k:Vis (y04 a l) f)(i:∀ p∈l,a p.1=none/\p.1<f.heap.size)(g:(l.map λp=>p.1).Nodup)(m:T2 a f H w):
  T2 (y04 a l) f (y04 H l) w:=by
 refine⟨m.os,m.tape,m.output,m.size,λb e j=>?_,λb o c=>?_,λb e=>?_,m.fz,m.dn⟩
 ·rcases B08 (H:=a) (l:=l) b with⟨p,d,rfl⟩|c
  ·grind[C05]
  ·rw[f04 c]at j;exact m.keep b e j
 ·rcases B08 (H:=a) (l:=l) b with⟨p,d,rfl⟩|h
  ·rw[C05 g d]at c;cases c
   rw[m.keep p.1 (i p d).2 (i p d).1]
   exact k p.1 _ (C05 g d)
  ·rw[f04 h]at c;exact m.vis b o c
 ·rcases B08 (H:=a) (l:=l) b with⟨p,d,rfl⟩|h
  ·grind[C05]
  ·rw[f04 h]at e ⊢
   exact m.fresh b e
section
variable {P:Program} {h0:Hp} {w0:World} {be:Nat->Nat} {oe:Nat->Value} {H:Hp} {h:Hp} {a:Act} {w:World}
theorem Sim.base{st:St}(b:Sim P h0 w0 be oe H st h a w){c:Hp}{e d:World}(m:T2 c e H d):Sim P c e be oe H st h a d :=
 ⟨m,b.sub,b.box,b.pub,b.own,b.frz,b.bb,b.oo,b.bo,b.dfr,b.siz,b.fr⟩
theorem Sim.more{st:St}(c:Sim P h0 w0 be oe H st h a w){l:List (Nat×Obj)}(v:∀ p∈l,H p.1=none){j:Hp}{n:World}(m:T2 j n (y04 H l) w):Sim P j n be oe (y04 H l) st h a w:=by
 have keep:∀ b,H b≠none->y04 H l b=H b:=λb d=>f04 λp x e=>d (by grind)
 refine⟨m,λb o d=>by rw[keep b (by rw[c.sub b o d];simp)];exact c.sub b o d,λi cs ty f=>?_,c.pub,λi k e sz by_ nn xs f=>?_,c.frz,c.bb,c.oo,c.bo,c.dfr,c.siz,c.fr⟩
 ·obtain⟨s,vs,t,u⟩:=c.box i cs ty f
  grind
 ·refine(c.own i k e sz by_ nn xs f).keep λg q=>?_
  obtain⟨y,_,_,_,z⟩:=(c.own i k e sz by_ nn xs f).block q
  grind
theorem Sim.claim{st:St}(c:Sim P h0 w0 be oe H st h a w){cs:List F5}{vs:List Value}{t:TypeId}{b:Nat}(D:Z1 st oe cs vs)(C:H b=some (.cells vs.toArray t (0,0)))(E:h b=none)
  (J:∀ i cs ty,nth st.bx i=some (.live cs ty)->be i≠b) (K:∀ i s e sz by_ nn xs g,nth st.ow i=some ⟨s,.live e sz by_ nn xs⟩->(oe i).ownBlock=some g->g≠b) :
  let be':=λj=>if j=st.bx.length then b else be j
  let st':St := { st with bx:=st.bx ++ [.live cs t] }
  Sim P h0 w0 be' oe H st' h a w/\S6 st be oe st' be' oe:=by
 intro be' st'
 have l:S6 st be oe st' be' oe:=by
  refine⟨by simp[st'],λi d=>?_,λi c F=>⟨c,F,Nat.le_refl _,λ_=>rfl⟩⟩
  grind
 have m:∀ i cs ty,nth st.bx i=some (.live cs ty)->be' i=be i:=λi cs ty d=>by simp[be',Nat.ne_of_lt (a02 d)]
 have k:∀ i x,nth st'.bx i=some x->(i=st.bx.length/\x = .live cs t)∨(i≠st.bx.length/\nth st.bx i=some x):=by
  grind[M02]
 refine⟨⟨c.mv,c.sub,?_,?_,c.own,c.frz,?_,c.oo,?_,c.dfr,c.siz,λt=>(c.fr t).grow l⟩,l⟩
 ·intro i cs' ty d
  rcases k i _ d with⟨rfl,e⟩|⟨e,f⟩
  ·cases e
   exact⟨by simp[be',E],vs,D.grow l,by simp[be',C]⟩
  ·obtain⟨z,I,A,B⟩:=c.box i cs' ty f
   rw[m i cs' ty f]
   exact⟨z,I,A.grow l,B⟩
 ·intro i u d
  rcases k i _ d with⟨_,e⟩|⟨e,f⟩
  ·cases e
  ·simp[be',e,c.pub i u f]
 ·intro i j v G L M d o e
  rcases k i _ d with⟨rfl,n⟩|⟨n,f⟩<;>rcases k j _ o with⟨rfl,y⟩|⟨y,q⟩
  ·rfl
  ·grind
  ·grind
  ·rw[m i _ _ f,m j _ _ q]at e;exact c.bb i j _ _ _ _ f q e
 ·intro i v G j s e sz by_ nn xs d o p
  rcases k i _ d with⟨rfl,n⟩|⟨n,f⟩
  ·grind
  ·rw[m i _ _ f]at p;exact c.bo i _ _ j _ _ _ _ _ _ f o p
def f0b(a:Act)(d:Nat):Nat:=match a.tmps.getD d undef with
 | .pointer (some ⟨b,_,_⟩)=>b
 |_=>0
theorem T06{a:Act}{d b:Nat}(e:a.tmps.getD d undef=ptr b 0):f0b a d=b:=by
 unfold f0b;rw[e];rfl
def C0u(P:Program)(H h:Hp)(a:Act)(n:Nat)(o:Oper):Prop:=q05 o=true->∃ d t z,o.op = .alloc t/\o.dst=some d/\d<n/\O00 P t=some z/\a.tmps.getD d undef=ptr (f0b a d) 0/\H (f0b a d)=some (.cells z.cells t (0,0))/\h (f0b a d)=none
def D0u(a:Act)(o c:Oper):Prop:=q05 o=true->q05 c=true->∀ d b,o.dst=some d->c.dst=some b->f0b a d≠f0b a b
theorem P0i{st:St}{h:Hp}{d:Nat}:l08 ⟨st,h,[],[]⟩ d=false:=rfl
theorem o0m{K:St->Hp->Prop}{fd:List (Nat×AV)}:∀(l:List Oper) (st:St) (be:Nat->Nat),Sim P h0 w0 be oe H { st with fr:=fd } h a w ->
  (∀ t,(∀ o∈l,q05 o=true->o.dst≠some t)->D2 st be oe (E3 st.fr t) (a.tmps.getD t undef))->(∀ o∈l,C0u P H h a st.n o)->l.Pairwise (D0u a) ->
  (∀ i cs ty,nth st.bx i=some (.live cs ty)->∀ o∈l,q05 o=true->∀ d,o.dst=some d->be i≠f0b a d) ->
  (∀ i k e sz by_ nn xs g,nth st.ow i=some ⟨k,.live e sz by_ nn xs⟩->(oe i).ownBlock=some g->∀ o∈l,q05 o=true->∀ d,o.dst=some d->g≠f0b a d) ->
  doA (v04 P) l st h K->∃ st' be',K st' h/\Sim P h0 w0 be' oe H st' h a w
 | [],st,be,x,q,_,_,_,_,j=>⟨st,be,j,x.refr (fr:=st.fr) λt=>D2.fr (st:=st) (q t λo p=>nomatch p)⟩
 |o::l,st,be,x,q,y,s,A,p,j=>by
  rw[List.pairwise_cons]at s
  have j:(match q05 o with
   |true=>v04 P o st h λst h=>doA (v04 P) l st h K
   |false=>doA (v04 P) l st h K):=j
  cases hal:q05 o with
  |false =>
   rw[hal]at j
   exact o0m l st be x (λt T=>q t λc b F=>by
    grind) (λc b=>y c (mC _ b)) s.2 (λi cs ty f c b=>A i cs ty f c (mC _ b)) (λi k e sz by_ nn xs g f m c b=>p i k e sz by_ nn xs g f m c (mC _ b)) j
  |true =>
   rw[hal]at j
   obtain⟨d,t,z,N,v,V,O,Q,B,R⟩:=y o mS hal
   simp only[v04,t8,N,O,a0c,v,p0e,P0i]at j
   have J:Nat.blt d (st.withBx (st.bx ++ [.live (vals z.cells.toList) t])).n=true:=by
    grind
   simp only[J]at j
   obtain⟨n,fr,bx,ow⟩:=st
   have M:doA (v04 P) l ⟨n,(d,.box bx.length 0)::fr,bx ++ [.live (vals z.cells.toList) t],ow⟩ h K:=j
   have I:z.cells=z.cells.toList.toArray:=by simp
   rw[I]at B
   obtain⟨s2,E⟩:=x.claim (Z1.vals _ oe _) B R (λi cs ty f=>A i cs ty f o mS hal d v) (λi k e sz by_ nn xs g f m=>p i k e sz by_ nn xs g f m o mS hal d v)
   refine o0m l ⟨n,(d,.box bx.length 0)::fr,bx ++ [.live (vals z.cells.toList) t],ow⟩ _ s2 (λu U=>?_) (λc b=>y c (mC _ b)) s.2 (λi cs ty f c b G C L=>?_) (λi k e sz by_ nn xs g f m c b=>p i k e sz by_ nn xs g f m c (mC _ b)) M
   ·show D2 _ _ _ (E3 ((d,.box bx.length 0)::fr) u) _
    rw[Z3]
    split
    ·rename_i e
     subst e
     refine⟨by simp,?_⟩
     rw[Q];simp
    ·rename_i e
     have D:=q u λc b F S=>by
      grind
     exact D2.fr (st:=⟨n,fd,bx ++ [.live (vals z.cells.toList) t],ow⟩) (D2.grow E (D2.fr (st:=⟨n,fr,bx,ow⟩) (fr:=fd) D))
   ·simp only[M02]at f
    split at f
    ·rename_i e
     subst e
     simp only[if_pos]
     exact s.1 c b hal G d C v L
    grind
theorem f06{d:Nat}:∀ {l:List Operand},p08 d l=false->Operand.tmp d ∉ l
 | [],_,h=>nomatch h
 |x::r,a,h=>by
  rcases List.mem_cons.1 h with e|b
  ·subst e
   simp[p08]at a
  ·cases x<;>simp only[p08,Bool.or_eq_false_iff]at a
   ·exact f06 a.2 b
   all_goals exact f06 a b
theorem n0d{d:Nat}:∀ {l:List Oper},t0e d l=false->∀ o∈l,Operand.tmp d ∉ o.op.operands
 | [],_,o,h=>nomatch h
 |y::r,a,o,h=>by
  simp only[t0e,Bool.or_eq_false_iff]at a
  rcases List.mem_cons.1 h with rfl|h
  ·exact λb=>f06 a.1 (by simpa using b)
  ·exact n0d a.2 o h
theorem n0k{all:List Oper}:∀ {l:List Oper},okA P all l=true->∀ o∈l,q05 o=true->∃ t d z,o.op = .alloc t/\o.guard=none/\o.dst=some d/\O00 P t=some z/\∀ c∈all,Operand.tmp d ∉ c.op.operands
 | [],_,o,h,_=>nomatch h
 |y::r,a,o,h,b=>by
  simp only[okA,Bool.and_eq_true]at a
  rcases List.mem_cons.1 h with rfl|h
  ·grind[q05,n0d]
  ·exact n0k a.2 o h b
theorem o0k{o:Oper}(h:q05 o=false):z00 o=o:=by
 grind[z00,q05]
theorem H8(o:Oper):(z00 o).dst=o.dst:=by unfold z00;split<;>rfl
theorem p0k(o:Oper):(z00 o).after=o.after:=by unfold z00;split<;>rfl
theorem q0k(o:Oper):(z00 o).guard=o.guard:=by unfold z00;split<;>rfl
theorem I8:∀(l:List Oper) (i:Nat),(T5 l)[i]?=(l[i]?).map z00
 | [],i=>by simp[T5]
 |o::r,0=>by simp[T5]
 |o::r,i+1=>by simp[T5,I8 r i]
theorem e0h:∀(l:List Oper),(T5 l).length=l.length
 | []=>rfl
 |o::r=>by simp[T5,e0h r]
theorem r0k{o:Oper}{d:Nat}(h:Operand.tmp d∈(z00 o).op.operands):Operand.tmp d∈o.op.operands:=by
 grind[q05,o0k,z00,Op.operands]
abbrev E0u:=List (Nat×Nat×Obj)
def skA(a:List Oper)(i:Nat):Bool:=match a[i]? with
 |some o=>q05 o
 |none=>false
def p0c(P:Program)(h0:Hp)(w0:World)(e:List Oper)(st:St)(h:Hp)(A:Asg)(listed:Array Bool)(a:Act)(w:World):Prop :=
 ∃(c:E0u) (f:Hp) (g:World),T2 h0 w0 (y04 f (c.map λp=>p.2)) g/\(∀ p∈c,f p.2.1=none/\p.2.1<g.heap.size)/\((c.map λp=>p.2).map λp=>p.1).Nodup /\
  l0a P f g (T5 e).toArray st h A (skA e) (c.map λp=>(p.1,ptr p.2.1 0)) listed a w /\
  (∀(j:Nat) (o:Oper) t d z,e[j]?=some o->o.op = .alloc t->o.dst=some d->O00 P t=some z->listed.getD j false=true->∃ b,(d,b,Obj.cells z.cells t (0,0))∈c) /\
  ∀ p∈c,∃(j:Nat) (o:Oper),e[j]?=some o/\q05 o=true/\o.dst=some p.1/\listed.getD j false=true
theorem p0c.start{f:List Oper}{st:St}{A:Asg}{N:Nat}(g:Sim P h0 w0 be oe H st h a w):p0c P h0 w0 f st h A (Array.replicate N false) a w:=by
 refine⟨[],H,w,g.mv,λp b=>(by cases b),by simp,?_,λj o t d z _ _ _ _ e=>?_,λp b=>(by cases b)⟩
 ·have l:Sim P H w be oe H st h a w:=g.base (T2.refl g.mv.vis)
  refine⟨be,oe,H,h,λ_ _ h=>h,l.refr (fr:=w4 (T5 f) st.fr) λt=>?_,λp b=>(by cases b),λj o d _ i k c=>?_⟩
  ·by_cases hx:∃ o∈T5 f,o.dst=some t
   ·obtain⟨o,i,k⟩:=hx
    rw[y02 i k]
    trivial
   ·rw[v01 λo n m=>hx ⟨o,n,m⟩]
    exact l.fr t
  ·simp[Array.getElem?_replicate]at c
   split at c<;>cases c
 ·simp[Array.getElem?_replicate]at e
  split at e<;>cases e
theorem K0s{f:List Oper}{st:St}{A:Asg}{aq:FL}{X:List BE}{listed:Array Bool}{j:Nat}{o:Oper}{Q:Exit->Act->World->Prop}
  (ab:∀(i j:Nat) (l an:Oper) (d:Nat),(T5 f)[i]?=some l->(T5 f)[j]?=some an->l.dst=some d->an.dst=some d->i=j)
  (ac:∀ o∈T5 f,∀ d,o.dst=some d->d<st.n)
  (ay:∀(k:Nat) (o:Oper),(T5 f)[k]?=some o->∀ e∈o.after,Region.binds .any e=true->e.on<k)
  (aE:∀ o∈T5 f,∀ t,Operand.tmp t∈o.op.operands->∀(i:Nat) (l:Oper),(T5 f)[i]?=some l->l.dst=some t->∃ e∈o.after,Region.binds .any e=true/\e.on=i)
  (aF:∀ o∈T5 f,∀ i w,o.guard=some (i,w)->j8 i o=true)
  (az:H0g (T5 f) A aq X (T5 f).length)
  (aB:∀ j o,(T5 f)[j]?=some o->∃ Y I,s00 X o.guard=some (A j).1/\H0g (T5 f) A Y I j/\F09 I X/\cB I (A j).1=some (A j).2.1/\(OpU P st h Y I o (A j).1 (A j).2.1 (A j).2.2/\∀ av,K09 P Y I (A j).1 o st=some av->(A j).2.2 = .pu av))
  (aS:∀(i:Nat) (l:Oper) (d:Nat),(T5 f)[i]?=some l->l.dst=some d->skA f i=true->∀ ae∈T5 f,Operand.tmp d ∉ ae.op.operands)
  (aQ:∀ i,skA f i=true->(A i).2.2 = .pu (.val undef)) (aA:∀ o∈f,q05 o=true->∃ t d z,o.op = .alloc t/\o.guard=none/\o.dst=some d/\O00 P t=some z/\∀ ae∈f,Operand.tmp d ∉ ae.op.operands)
  (a5:listed.getD j true=false)
  (J:f[j]?=some o) (aO:∀ e∈o.after,Region.binds .any e=true->listed.getD e.on false=true) (aG:p0c P h0 w0 f st h A listed a w) :
  (Region.wanted o (yielded (T5 f).toArray a.tmps)=true->o.wp P a w (p0c P h0 w0 f st h A (listed.setIfInBounds j true)) Q) /\
  (Region.wanted o (yielded (T5 f).toArray a.tmps)=false->p0c P h0 w0 f st h A (listed.setIfInBounds j true) (a.put o.dst undef) w):=by
 obtain⟨s,R,W,ad,K,U,al,ah,aa⟩:=aG
 have aM:o∈f:=List.mem_of_getElem? J
 have G:(T5 f)[j]?=some (z00 o):=by rw[I8,J];rfl
 have aK:listed.getD j false=false:=by
  grind
 have aJ:j<listed.size:=by
  grind
 have ax:∀ p∈s,∃(i:Nat) (l:Oper),(T5 f)[i]?=some l/\l.dst=some p.1/\skA f i=true:=λp c=>by
  obtain⟨i,l,m,C,y,_⟩:=aa p c
  exact⟨i,z00 l,by rw[I8,m];rfl,by rw[H8];exact y,by unfold skA;rw[m];exact C⟩
 cases hisa:q05 o with
 |false =>
  have aH:=o0k hisa
  rw[aH]at G
  have aR:skA f j=false:=by unfold skA;rw[J];exact hisa
  have up:∀ Z D,l0a P R W (T5 f).toArray st h A (skA f) (s.map λp=>(p.1,ptr p.2.1 0)) (listed.setIfInBounds j true) Z D->p0c P h0 w0 f st h A (listed.setIfInBounds j true) Z D:=λZ D aX=>by
   refine⟨s,R,W,ad,K,U,aX,λi l t d z m C y F N=>?_,λp c=>?_⟩
   ·by_cases e:j=i
    ·grind[q05]
    ·rw[getD_set_ne false e]at N
     exact ah i l t d z m C y F N
   grind[getD_set_true]
  have a7:=I0s (P:=P) (h0:=R) (w0:=W) (ops:=(T5 f).toArray) (Q:=Q) (sk:=skA f) (kp:=s.map λp=>(p.1,ptr p.2.1 0)) (by simpa using ab) (by simpa using ac) (by simpa using ay) (by simpa using aE) (by simpa using aF) (by simpa using az) (by simpa using aB) aR (by simpa using aS) aQ (λp c=>by
   obtain⟨q,B,rfl⟩:=List.mem_map.1 c
   simpa using ax q B) (by simpa using G) aO al
  grind[Oper.wp_mono]
 |true =>
  obtain⟨t,d,z,aY,aZ,E,a0,a6⟩:=aA o aM hisa
  refine⟨λ_=>?_,λL=>?_⟩
  rotate_left
  ·unfold Region.wanted at L;rw[aZ]at L;cases L
  obtain⟨be,oe,H,h',aP,O,keep,aw⟩:=al
  have am:T2 h0 w0 (y04 H (s.map λp=>p.2)) w:=ad.trans (L0e ad.vis (λp c=>by
   obtain⟨q,B,rfl⟩:=List.mem_map.1 c
   exact K q B) U O.mv)
  have ag:∀ p∈s,H p.2.1=none:=λp c=>O.mv.none_of (K p c).2 (K p c).1
  have L:wpS P (execOp a.eval o) (y04 H (s.map λp=>p.2)) (λn af=>∃ b,y04 H (s.map λp=>p.2) b=none/\n = .value (ptr b 0)/\af=(y04 H (s.map λp=>p.2)).set b (.cells z.cells t (0,0))):=by
   unfold execOp;rw[aY]
   refine l8 _ _ _ ?_
   simp only[Instr.alloc,newVar,newRow,newObj,J2,Y0a a0,A3,wpS]
   exact λb S=>⟨b,S,rfl,rfl⟩
  obtain⟨n,af,D,aN,⟨b,S,rfl,rfl⟩,T⟩:=d00 _ _ _ am.vis L
  refine O7 aN ?_
  have aj:∀ p∈s,p.2.1≠b:=λp c e=>by
   have:=C05 (H:=H) U (List.mem_map.2 ⟨p,c,rfl⟩)
   rw[e,S]at this;cases this
  have ai:H b=none:=by
   rw[←S,f04]
   intro p c
   obtain⟨q,B,rfl⟩:=List.mem_map.1 c
   exact aj q B
  have aW:Vis H D:=λx a1 M=>by
   refine T.vis x a1 ?_
   rw[Hp.set_other _ _ λe=>by subst e;rw[ai]at M;cases M]
   rw[f04]
   ·exact M
   ·intro p c e
    obtain⟨q,B,rfl⟩:=List.mem_map.1 c
    rw[←e,ag q B]at M;cases M
  have aL:d<a.tmps.size:=by rw[O.siz];exact ac (z00 o) (List.mem_of_getElem? G) d (by rw[H8];exact E)
  have a4:(a.put o.dst (ptr b 0)).tmps.getD d undef=ptr b 0:=by rw[E];simp[Act.put,aL]
  have ap:∀ u,u≠d->(a.put o.dst (ptr b 0)).tmps.getD u undef=a.tmps.getD u undef:=λu aU=>by
   rw[E];simp[Act.put,Array.getElem?_setIfInBounds_ne (Ne.symm aU)]
  have a2:∀ p∈s,p.1≠d:=λp c e=>by
   obtain⟨i,l,m,C,y,F⟩:=aa p c
   have:=ab i j (z00 l) (z00 o) d (by rw[I8,m];rfl) G (by rw[H8,y,e]) (by rw[H8];exact E)
   subst this
   rw[aK]at F;cases F
  have s1:Sim P H D be oe H { st with fr:=w4 (T5 f) st.fr } h' a D:=(by simpa using O:Sim P R W be oe H { st with fr:=w4 (T5 f) st.fr } h' a w).base (T2.refl aW)
  have s2:Sim P H D be oe H { st with fr:=w4 (T5 f) st.fr } h' (a.put o.dst (ptr b 0)) D:=by
   have c:=s1.put (d:=d) (av := .dead) (v:=ptr b 0) (ac (z00 o) (List.mem_of_getElem? G) d (by rw[H8];exact E)) trivial
   rw[E]
   refine c.refr (fr:=w4 (T5 f) st.fr) λu=>?_
   have g:=c.fr u
   rw[Z3]at g
   split at g
   ·rename_i e
    subst e
    rw[y02 (List.mem_of_getElem? G) (by rw[H8];exact E)]
    trivial
   ·exact g
  refine⟨(d,b,.cells z.cells t (0,0))::s,H,D,?_,λp c=>?_,?_,⟨be,oe,H,h',aP,by simpa using s2,λp c=>?_,λi l u V m C y=>?_⟩,λi l a3 au z' m C y F N=>?_,λp c=>?_⟩
  ·exact am.trans T
  ·rcases List.mem_cons.1 c with rfl|c
   ·exact⟨ai,T.vis.lt (by rw[Hp.set_same];simp)⟩
   ·exact⟨ag p c,Nat.lt_of_lt_of_le (K p c).2 (Nat.le_trans O.mv.size T.size)⟩
  ·rw[List.map_cons,List.map_cons,List.nodup_cons]
   refine⟨λaD=>?_,U⟩
   obtain⟨q,B,e⟩:=List.mem_map.1 aD
   obtain⟨p,c,rfl⟩:=List.mem_map.1 B
   exact aj p c e
  ·rw[List.map_cons]at c
   rcases List.mem_cons.1 c with rfl|c
   ·exact a4
   ·obtain⟨q,B,rfl⟩:=List.mem_map.1 c
    rw[ap _ (a2 q B)]
    exact keep _ c
  ·have ak:j≠i:=λe=>by
    subst e
    have ao:q05 o=false:=by unfold skA at V;rw[J]at V;exact V
    rw[hisa]at ao;cases ao
   rw[getD_set_ne false ak]at y
   have aV:u≠d:=λe=>by
    subst e
    exact ak (ab j i (z00 o) l u G (by simpa using m) (by rw[H8];exact E) C)
   rw[ap u aV]
   exact aw i l u V m C y
  ·by_cases e:j=i
   ·grind[List.mem_cons_self]
   ·rw[getD_set_ne false e]at N
    obtain⟨ar,aC⟩:=ah i l a3 au z' m C y F N
    exact⟨ar,mC _ aC⟩
  ·rcases List.mem_cons.1 c with rfl|c
   ·exact⟨j,o,J,hisa,E,by simp[aJ]⟩
   ·obtain⟨i,l,m,C,y,F⟩:=aa p c
    exact⟨i,l,m,C,y,getD_set_true F⟩
theorem f0h{a m:Type}{f:a->m}:∀ {l:List a},(l.map f).Nodup->∀ {p q:a},p∈l->q∈l->f p=f q->p=q
 | [],_,p,q,h,_,_=>nomatch h
 |x::l,b,p,q,g,j,e=>by
  rw[List.map_cons,List.nodup_cons]at b
  rcases List.mem_cons.1 g with c|i<;>rcases List.mem_cons.1 j with d|k
  ·rw[c,d]
  ·grind
  ·grind
  ·exact f0h b.2 i k e
theorem Z0r{c:List Oper}{st:St}{A:Asg}{T:FL}{ab:List BE}{K:St->Hp->Prop}{listed:Array Bool}
  (V:∀(i j:Nat) (L aa:Oper) (d:Nat),(T5 c)[i]?=some L->(T5 c)[j]?=some aa->L.dst=some d->aa.dst=some d->i=j)
  (am:∀ o∈T5 c,∀ d,o.dst=some d->d<st.n)
  (ao:∀ i,skA c i=true->(A i).2.2 = .pu (.val undef)) (ai:∀ o∈c,q05 o=true->∃ t d z,o.op = .alloc t/\o.guard=none/\o.dst=some d/\O00 P t=some z/\∀ ar∈c,Operand.tmp d ∉ ar.op.operands)
  (ag:H0g (T5 c) A T ab (T5 c).length) (aj:∀ h',Sub h h'->D0g h' T st.fr λfr=>doA (v04 P) c { st with fr:=fr } h' K) (X:∀ j,j<c.length->listed.getD j false=true)
  (y:p0c P h0 w0 c st h A listed a w):∃ st' h' be oe H,K st' h'/\Sim P h0 w0 be oe H st' h' a w:=by
 obtain⟨M,aB,aH,Z,Y,R,ap,af,aC⟩:=y
 obtain⟨be,oe,H,h',fr,al,D,keep,g⟩:=x0n (K:=λst h=>doA (v04 P) c st h K) (ops:=(T5 c).toArray) ao (by simpa using V) (by simpa using ag) aj (λj s=>X j (by simpa [e0h] using s)) ap
 have aq:T2 h0 w0 (y04 H (M.map λp=>p.2)) w:=Z.trans (L0e Z.vis (λp I=>by
  grind) R D.mv)
 have O:∀ p∈M,H p.2.1=none:=λp I=>D.mv.none_of (Y p I).2 (Y p I).1
 have aw:=D.more (l:=M.map λp=>p.2) (λp I=>by
  grind) aq
 have E:∀ o∈c,q05 o=true->∃ t d z b,o.op = .alloc t/\o.dst=some d/\O00 P t=some z/\(d,b,Obj.cells z.cells t (0,0))∈M/\a.tmps.getD d undef=ptr b 0:=λo u q=>by
  obtain⟨t,d,z,B,m,C,k,v⟩:=ai o u q
  obtain⟨j,s⟩:=List.getElem?_of_mem u
  obtain⟨b,G⟩:=af j o t d z s B C k (X j (List.getElem?_eq_some_iff.1 s).1)
  exact⟨t,d,z,b,B,C,k,G,keep _ (List.mem_map.2 ⟨_,G,rfl⟩)⟩
 have an:∀ b,H b=none->h' b=none:=λb G=>by
  cases e:h' b with
  |none=>rfl
  |some o=>rw[D.sub b o e]at G;cases G
 refine(o0m (K:=K) (fd:=w4 (T5 c).toArray.toList st.fr) c { st with fr:=fr } be aw (λt aE=>?_) (λo u q=>?_) ?_ (λi cs ty y o u q d x=>?_) (λi ax e sz by_ nn xs aA y ak o u q d x=>?_) al).elim λst' J=>J.elim λbe' J=>⟨st',h',be',oe,_,J.1,J.2⟩
 ·refine D2.fr (st:=st) (fr:=fr) (g t λi L N S=>?_)
  have N:(T5 c)[i]?=some L:=by simpa using N
  rw[I8]at N
  grind[q05,skA,absurd,H8,List.mem_of_getElem?]
 ·obtain⟨t,d,z,b,B,m,C,k,v⟩:=E o u q
  have Q:=T06 v
  obtain⟨j,s⟩:=List.getElem?_of_mem u
  refine⟨d,t,z,B,m,am (z00 o) (List.mem_of_getElem? (i:=j) (by rw[I8,s];rfl)) d (by rw[H8];exact m),C,by rw[Q];exact v,by rw[Q];exact C05 R (List.mem_map.2 ⟨_,k,rfl⟩),by rw[Q];exact an b (O _ k)⟩
 ·rw[List.pairwise_iff_getElem]
  intro i j y s aD q ah d ac x W e
  obtain⟨t,U,z,b,B,m,C,k,v⟩:=E _ (List.getElem_mem y) q
  obtain⟨aG,az,z',ay,N,S,aF,au,av⟩:=E _ (List.getElem_mem s) ah
  rw[m]at x;cases x
  rw[S]at W;cases W
  rw[T06 v,T06 av]at e
  subst e
  have:=f0h (f:=λp:Nat×Nat×Obj=>p.2.1) (by have:=R;rw[List.map_map]at this;exact this) k au rfl
  have ae:d=ac:=congrArg Prod.fst this
  subst ae
  have:=V i j (z00 c[i]) (z00 c[j]) d (by rw[I8,List.getElem?_eq_getElem y];rfl) (by rw[I8,List.getElem?_eq_getElem s];rfl) (by rw[H8];exact m) (by rw[H8];exact S)
  omega
 ·obtain⟨t,U,z,b,B,m,C,k,v⟩:=E o u q
  rw[m]at x;cases x
  rw[T06 v]
  intro e
  obtain⟨_,vs,_,F⟩:=D.box i cs ty y
  rw[e,O _ k]at F;cases F
 ·obtain⟨t,U,z,b,B,m,C,k,v⟩:=E o u q
  rw[m]at x;cases x
  rw[T06 v]
  intro ad
  obtain⟨_,_,_,_,F⟩:=(D.own i ax e sz by_ nn xs y).block ak
  rw[ad,O _ k]at F;cases F
theorem m0u{ops:Array Oper}{Q:Exit->Act->World->Prop}{Inv:Array Bool->Act->World->Prop}(hB:∀(k:Nat) (o:Oper),ops.toList[k]?=some o->∀ e∈o.after,Region.binds .any e=true->e.on<k)
  (hstep:∀ listed a w j o,listed.size=ops.size->listed.getD j true=false->ops[j]?=some o->(∀ e∈o.after,Region.binds .any e=true->listed.getD e.on false=true)->Inv listed a w ->
   (Region.wanted o (yielded ops a.tmps)=true->o.wp P a w (Inv (listed.setIfInBounds j true)) Q)/\(Region.wanted o (yielded ops a.tmps)=false->Inv (listed.setIfInBounds j true) (a.put o.dst undef) w))
  (hQ:∀ listed a w,(∀ j,j<ops.size->listed.getD j false=true)->Inv listed a w->Q .normal a w) :
  ∀(fuel:Nat) (listed:Array Bool) (a:Act) (w:World),listed.size=ops.size->listed.toList.count true+fuel=ops.size->Inv listed a w->wpAny P .any ops Q fuel listed a w
 |0,listed,a,w,hsz,hc,hi=>by
  have hall':∀ j,j<ops.size->listed.getD j false=true:=λj hj=>by
   have h1:∀ b∈listed.toList,true=b:=List.count_eq_length.1 (by grind)
   have hlt:j<listed.size:=by omega
   have:=h1 listed[j] (by simp)
   simp[hlt,←this]
  refine⟨?_,hQ listed a w hall' hi⟩
  cases hr:Region.ready .any ops listed with
  |nil=>rfl
  |cons j r =>
   grind[Region.ready,List.mem_cons_self,mem_ready,Array.getElem?_eq_some_iff]
 |fuel+1,listed,a,w,hsz,hc,hi=>by
  refine⟨λhr=>hQ listed a w (m0c hB hsz hr) hi,λj hj=>?_⟩
  obtain⟨h1,o,h2,h3⟩:=mem_ready.1 hj
  unfold wpOp
  simp only[h2]
  obtain⟨ht,hf⟩:=hstep listed a w j o hsz h1 h2 h3 hi
  have next:∀ a' w',Inv (listed.setIfInBounds j true) a' w'->wpAny P .any ops Q fuel (listed.setIfInBounds j true) a' w':=λa' w' hi'=>m0u hB hstep hQ fuel _ a' w' (by simpa using hsz) (by rw[count_set h1];omega) hi'
  cases hw:Region.wanted o (yielded ops a.tmps)with
  |true =>
   rw[if_pos rfl]
   exact .inl (Oper.wp_mono next (ht hw))
  |false =>
   grind
theorem q0c{x:Nat}:∀ {l:List Nat},f0m x l=true↔x∈l
 | []=>by simp[f0m]
 |y::r=>by
  simp only[f0m,Bool.or_eq_true,List.mem_cons,q0c (l:=r)]
  simp_all
theorem g0h{ops:List Oper}{i:Nat}:∀ {l:List Nat},g0m ops i l=true->∃ j o,j∈l/\ops[j]?=some o/\j8 i o=true
 | [],h=>by cases h
 |j::r,h=>by
  simp only[g0m,Bool.or_eq_true]at h
  rcases h with h|h
  ·grind[s05,List.mem_cons_self]
  ·obtain⟨c,o,a,b⟩:=g0h h
   grind
theorem m0a{ops:List Oper}{G:Nat->Prop}(a:∀ i j o,G j->ops[j]?=some o->j8 i o=true->G i):∀(n:Nat) (acc:List Nat),(∀ j∈acc,G j)->∀ i∈T0g ops n acc,G i
 |0,acc,h=>h
 |n+1,acc,h=>by
  unfold T0g
  split
  ·rename_i b
   obtain⟨j,o,c,d,e⟩:=g0h b
   exact m0a a n _ λi f=>by
    grind
  ·exact m0a a n acc h
theorem n0a{d:Nat}:∀ {l:List Oper},M09 d l=false->∀ o∈l,o.dst≠some d
 | [],_,o,h=>nomatch h
 |y::r,a,o,h=>by
  simp only[M09,Bool.or_eq_false_iff]at a
  rcases List.mem_cons.1 h with rfl|h
  ·intro b
   simp_all
  ·exact n0a a.2 o h
theorem x06{b:List Nat}{t:Nat}:∀ {l:List Oper} {k:Nat},r05 b t l k=true->∀(i:Nat) (o:Oper),l[i]?=some o->o.dst=some t->k+i∈b
 | [],k,_,i,o,h,_=>by simp at h
 |y::r,k,a,i,o,h,c=>by
  simp only[r05,Bool.and_eq_true]at a
  cases i with
  |zero =>
   simp_all[q0c]
  |succ i =>
   have:=x06 a.2 i o (by simpa using h) c
   grind
theorem V09{i d:Nat}:∀ {l:List Oper},I06 i d l=true->∀ o∈l,Operand.tmp d∈o.op.operands->j8 i o=true
 | [],_,o,h,_=>nomatch h
 |y::r,b,o,h,c=>by
  simp only[I06,Bool.and_eq_true,Bool.or_eq_true]at b
  rcases List.mem_cons.1 h with rfl|h
  ·rcases b.1 with a|a
   ·have e:p08 d o.op.operands.toList=false:=by simpa using a
    exact absurd (show Operand.tmp d∈o.op.operands.toList by simpa using c) (f06 e)
   ·exact a
  ·exact V09 b.2 o h c
theorem M0e:∀ {l:List Oper},Q0j l=true->∀ o∈l,I0a o.op=false
 | [],_,o,h=>nomatch h
 |y::r,a,o,h=>by
  simp only[Q0j,Bool.and_eq_true]at a
  rcases List.mem_cons.1 h with rfl|h
  ·simpa using a.1
  ·exact M0e a.2 o h
def o03(o:Oper)(f:Operand->Value):Option Value:=match o.op with
 | .extract x k=>match f x with
  | .tuple vs=>vs[k]?
  |_=>none
 | .move x=>some (f x)
 | .assign x=>some (f x)
 | .pick c x y=>match f c with
  | .bool q=>some (if q=true then f x else f y)
  |_=>none
 |_=>none
theorem d05{x:Operand}{a b:Act}(h:∀ t∈d0c x,a.tmps.getD t undef=b.tmps.getD t undef):a.eval x=b.eval x:=by
 cases x with
 |tmp t=>exact h t (List.mem_singleton.2 rfl)
 |const v=>rfl
 |global g=>rfl
 |func f=>rfl
theorem z04{o:Oper}{a:List Nat}(h:L09 o=some a):o.guard=none/\((∃ x k,o.op = .extract x k/\a=d0c x)∨(∃ x,o.op = .move x/\a=d0c x)∨(∃ x,o.op = .assign x/\a=d0c x)∨∃ c x y,o.op = .pick c x y/\a=d0c c++(d0c x++d0c y)):=by
 unfold L09 at h
 split at h
 ·cases h
 ·rename_i b
  refine⟨b,?_⟩
  split at h
  ·rename_i x k e;cases h;exact .inl ⟨x,k,e,rfl⟩
  ·rename_i x e;cases h;exact .inr (.inl ⟨x,e,rfl⟩)
  ·rename_i x e;cases h;exact .inr (.inr (.inl ⟨x,e,rfl⟩))
  ·rename_i c x y e;cases h;exact .inr (.inr (.inr ⟨c,x,y,e,rfl⟩))
  ·cases h
theorem C08{o:Oper}{g:List Nat}{a b:Act}(h:L09 o=some g)(e:∀ t∈g,a.tmps.getD t undef=b.tmps.getD t undef):o03 o a.eval=o03 o b.eval:=by
 obtain⟨_,⟨x,k,d,rfl⟩|⟨x,d,rfl⟩|⟨x,d,rfl⟩|⟨c,x,y,d,rfl⟩⟩:=z04 h
 ·unfold o03;rw[d];simp only[d05 e]
 ·unfold o03;rw[d];simp only[d05 e]
 ·unfold o03;rw[d];simp only[d05 e]
 ·unfold o03;rw[d]
  simp only[d05 (x:=c) λt f=>e t (List.mem_append_left _ f),d05 (x:=x) λt f=>e t (List.mem_append_right _ (List.mem_append_left _ f)),d05 (x:=y) λt f=>e t (List.mem_append_right _ (List.mem_append_right _ f))]
theorem N0e{o:Oper}{f:List Nat}{a:Act}{v:Value}(h:L09 o=some f)(b:o03 o a.eval=some v)(w:World):(execOp a.eval o).run P w = .ok (.value v) w:=by
 obtain⟨_,⟨x,k,e,_⟩|⟨x,e,_⟩|⟨x,e,_⟩|⟨c,x,y,e,_⟩⟩:=z04 h
 ·unfold o03 at b;rw[e]at b
  simp only at b
  split at b
  ·rename_i vs d
   unfold execOp;rw[e]
   simp only[Instr.extract,d,b]
   rfl
  ·cases b
 ·unfold o03 at b;rw[e]at b;cases b
  unfold execOp;rw[e];rfl
 ·unfold o03 at b;rw[e]at b;cases b
  unfold execOp;rw[e];rfl
 ·unfold o03 at b;rw[e]at b
  simp only at b
  split at b
  ·rename_i q d
   cases b
   unfold execOp;rw[e]
   simp only[d,asBool]
   cases q<;>rfl
  ·cases b
theorem a0s{o:Oper}{g:List Nat}{a:Act}{w:World}{N:Act->World->Prop}(h:L09 o=some g)(b:o.wp P a w N λ_ _ _=>False):∃ v,o03 o a.eval=some v/\N (a.put o.dst v) w:=by
 obtain⟨_,⟨x,k,e,_⟩|⟨x,e,_⟩|⟨x,e,_⟩|⟨c,x,y,e,_⟩⟩:=z04 h
 ·cases hx:o03 o a.eval with
  |some v =>
   refine⟨v,rfl,?_⟩
   unfold Oper.wp at b
   rw[N0e h hx w]at b
   exact b
  |none =>
   exfalso
   unfold o03 at hx;rw[e]at hx
   simp only at hx
   unfold Oper.wp execOp at b;rw[e]at b
   simp only[Instr.extract]at b
   split at hx
   ·rename_i vs f
    rw[f]at b
    simp only[hx]at b
    exact b
   ·rename_i d
    generalize a.eval x=z at b d
    cases z<;>first|exact b|exact absurd rfl (d _)
 ·refine⟨_,by unfold o03;rw[e],?_⟩
  unfold Oper.wp execOp at b;rw[e]at b
  exact b
 ·refine⟨_,by unfold o03;rw[e],?_⟩
  unfold Oper.wp execOp at b;rw[e]at b
  exact b
 ·cases hx:o03 o a.eval with
  |some v =>
   refine⟨v,rfl,?_⟩
   unfold Oper.wp at b
   rw[N0e h hx w]at b
   exact b
  |none =>
   exfalso
   unfold o03 at hx;rw[e]at hx
   simp only at hx
   unfold Oper.wp execOp at b;rw[e]at b
   simp only at b
   split at hx
   ·cases hx
   ·rename_i d
    generalize a.eval c=z at b d
    cases z<;>first|exact b|exact absurd rfl (d _)
def O0e(as a:Act)(D:Nat->Prop):Prop:=as.tmps.size=a.tmps.size/\as.defers=a.defers/\∀ d,¬ D d->as.tmps.getD d undef=a.tmps.getD d undef
theorem A04(a:Act)(d u:Nat)(v:Value):(a.put (some d) v).tmps.getD u undef=if d=u/\d<a.tmps.size then v else a.tmps.getD u undef:=by
 by_cases e:d=u
 all_goals simp_all[Act.put,if_neg,Array.getElem?_setIfInBounds_ne]
theorem O0e.put{as a:Act}{b:Nat->Prop}(l:O0e as a b)(d:Option Nat)(v:Value):O0e (as.put d v) (a.put d v) b:=by
 cases d with
 |none=>exact l
 |some d =>
  refine⟨by simp[Act.put,l.1],l.2.1,λu c=>?_⟩
  rw[A04,A04,l.1,l.2.2 u c]
theorem b0s{o:Oper}{as a:Act}{w:World}{k:Nat->Prop}{N:Act->World->Prop}{Q:Exit->Act->World->Prop}(l:O0e as a k)(q:I0a o.op=false)(y:∀ d,Operand.tmp d∈o.op.operands -> ¬ k d)
  (i:o.wp P as w N λ_ _ _=>False):o.wp P a w (λm j=>∃ g,N g j/\O0e g m k/\(∃ v,g=as.put o.dst v∨∃ x,g = { as with defers:=x }.put o.dst v)/\∃ v,m=a.put o.dst v∨∃ x,m = { a with defers:=x }.put o.dst v) Q:=by
 have t:execOp as.eval o=execOp a.eval o:=execOp_congr o (λcs b e=>by rw[e]at q;cases q) λx z=>by
  cases x with
  |tmp d=>exact l.2.2 d (y d z)
  |_=>rfl
 unfold Oper.wp at *
 rw[t]at i
 generalize (execOp a.eval o).run P w=r at i
 have fin:∀(v:Value) (j:World),N (as.put o.dst v) j->∃ g,N g j/\O0e g (a.put o.dst v) k/\(∃ v,g=as.put o.dst v∨∃ x,g = { as with defers:=x }.put o.dst v)/\∃ s,a.put o.dst v=a.put o.dst s∨∃ x,a.put o.dst v = { a with defers:=x }.put o.dst s :=
  λv j h=>⟨_,h,l.put o.dst v,⟨v,.inl rfl⟩,v,.inl rfl⟩
 cases r with
 |ok n j =>
  cases n with
  |value v=>exact fin v j i
  |skip=>exact fin undef j i
  |defer d =>
   refine⟨_,i,O0e.put (as := { as with defers:=d::as.defers }) (a := { a with defers:=d::a.defers }) ⟨l.1,by simp[l.2.1],l.2.2⟩ o.dst undef,⟨_,.inr ⟨_,rfl⟩⟩,_,.inr ⟨_,rfl⟩⟩
  |enter f args =>
   refine Calls.mono i λe p h=>?_
   cases e with
   |returned v=>exact fin v p h
   |panicked c=>exact h.elim
   |outgrown=>obtain⟨_,_,h⟩:=h;exact h.elim
  |row row args=>exact Rows.mono i λv p h=>fin v p h
  |_=>exact i.elim
 |halt u j=>cases u<;>exact i.elim
theorem Sim.like{st:St}{as a:Act}{h0:Hp}{w0:World}{be:Nat->Nat}{oe:Nat->Value}{H h:Hp}{w:World}(b:Sim P h0 w0 be oe H st h as w){c:Nat->Prop}(l:O0e as a c)(e:∀ d,¬ c d):Sim P h0 w0 be oe H st h a w :=
 ⟨b.mv,b.sub,b.box,b.pub,b.own,b.frz,b.bb,b.oo,b.bo,by rw[←l.2.1];exact b.dfr,by rw[←l.1];exact b.siz,λt=>by rw[←l.2.2 t (e t)];exact b.fr t⟩
theorem h0h:∀ {l:List Oper} {k:Nat},d0q k l=true->(∀ o∈l,o.guard=none)/\∀(i:Nat) (o:Oper),l[i+1]?=some o->j8 (k+i) o=true
 | [],k,h=>⟨λo b=>(nomatch b),λi o a=>(nomatch a)⟩
 | [x],k,h=>by
  rw[d0q]at h
  grind
 |x::y::r,k,h=>by
  rw[d0q]at h
  simp only[Bool.and_eq_true]at h
  obtain⟨c,d⟩:=h0h (l:=y::r) h.2
  refine⟨λo b=>?_,λi o a=>?_⟩
  ·grind
  ·cases i with
   |zero=>grind
   |succ i =>
    grind
theorem s0k{o:Oper}{st:St}{K:St->Hp->Prop}{Q:Exit->Act->World->Prop}(p:Sim P h0 w0 be oe H st h a w)(k:v04 P o st h K):
  o.wp P a w (λf j=>∃ st' h' be' oe' e,K st' h'/\Sim P h0 w0 be' oe' e st' h' f j) Q:=by
 refine Oper.wp_mono (λf j n=>?_) (k00 p k)
 obtain⟨av,st',h',v,be',oe',e,l,rfl,q,g,s⟩:=n
 obtain⟨A,t,u,y,z⟩:=y05 (ops := #[o]) (i:=0) (rs:=⟨st',h',[],[]⟩) (ch:=[]) (c:=true) (v:=v) q ⟨(λx b=>nomatch b),(λx b=>nomatch b),(λd ch av m=>nomatch m)⟩ (by rfl) rfl (λ_=>g) (λh=>by cases h) l
 grind
theorem g0b{c d:List Oper}{a:List Nat}:∀ {l:List Oper} {k:Nat},d0e c d a l k=true->∀(i:Nat) (o:Oper),l[i]?=some o->f0m (k+i) a=true∨p0n c d a (k+i) o=true
 | [],k,_,i,o,h=>by simp at h
 |y::r,k,b,i,o,h=>by
  simp only[d0e,Bool.and_eq_true,Bool.or_eq_true]at b
  cases i with
  |zero=>grind
  |succ i =>
   have:=g0b b.2 i o (by simpa using h)
   grind
theorem P0e{c d:List Oper}{b:List Nat}:∀ {e:List Nat},o0n c d b e=true->∀ t∈e,M09 t d=false/\r05 b t c 0=true
 | [],_,t,h=>by cases h
 |x::r,a,t,h=>by
  simp only[o0n,Bool.and_eq_true,Bool.not_eq_true']at a
  rcases List.mem_cons.1 h with rfl|h
  ·exact a.1
  ·exact P0e a.2 t h
theorem p0m{c a:List Oper}{b:List Nat}{i:Nat}{o:Oper}(h:p0n c a b i o=true):∃ e d,L09 o=some e/\o.dst=some d/\M09 d a=false/\(∀ t∈e,M09 t a=false/\r05 b t c 0=true)/\I06 i d a=true:=by
 unfold p0n at h
 split at h
 ·rename_i t d f g
  simp only[Bool.and_eq_true,Bool.not_eq_true']at h
  exact⟨t,d,f,g,h.1.1,P0e h.1.2,h.2⟩
 ·cases h
theorem c0p{ops:Array Oper}{m:Nat}{st:St}{K:St->Hp->Prop}{Q:Exit->Act->World->Prop}(hb:okZ P st.n m ops.toList=true)(he:evT P (v04 P) m ops.toList st h K)
  (hQ:∀ a w st h be oe H,K st h->Sim P h0 w0 be oe H st h a w->Q .normal a w) (s:Sim P h0 w0 be oe H st h a w):wpAny P .any ops Q ops.size (Array.replicate ops.size false) a w:=by
 simp only[okZ,o04,W02,Bool.and_eq_true,Bool.or_eq_true]at hb
 obtain⟨⟨⟨⟨⟨⟨⟨b1,b2⟩,b3⟩,b4⟩,b5⟩,b6⟩,b7⟩,b8⟩:=hb
 generalize hpre:ops.toList.take m=pre at b1 b2 b3 b4 b5 b8
 obtain⟨hn,hD⟩:=A05 b1
 have hB:∀(k:Nat) (o:Oper),(T5 pre)[k]?=some o->∀ e∈o.after,Region.binds .any e=true->e.on<k:=λk o hk e he' hb=>by
  have:=e04 b2 k o hk e he' hb
  omega
 have hdep:=A07 b3
 have hgd:=C07 b4
 have hal:=n0k b5
 have hBB:∀(k:Nat) (o:Oper),ops.toList[k]?=some o->∀ e∈o.after,Region.binds .any e=true->e.on<k:=λk o hk e he' hb=>by
  have:=e04 b6 k o hk e he' hb
  omega
 obtain⟨sq1,sq2⟩:=h0h b7
 unfold evT at he
 rw[hpre]at he
 obtain⟨A,Lf,Bf,_,_,hP,hall,hfin⟩:=K0e (ops:=T5 pre) hD (T5 pre) 0 [] [] (λ_=>([],true,.pu .dead)) (λj=>by simp) (by simp)
  ⟨λt x h=>(by cases h),λi oi d hi=>by omega,λi hi=>by omega,λx hx=>(by cases hx)⟩ he
 have hpl:pre.length=min m ops.size:=by rw[←hpre];simp
 have hpg:∀ j,j<m->ops.toList[j]?=pre[j]?:=λj hj=>by rw[←hpre,List.getElem?_take,if_pos hj]
 have hdg:∀ j,(ops.toList.drop m)[j]?=ops.toList[m+j]?:=λj=>List.getElem?_drop
 have hsr:∀(i:Nat) (oi:Oper) (d:Nat),(T5 pre)[i]?=some oi->oi.dst=some d->skA pre i=true->∀ o'∈T5 pre,Operand.tmp d ∉ o'.op.operands:=λi oi d q1 q2 q3 o' ho' hc=>by
  rw[I8]at q1
  unfold skA at q3
  cases e:pre[i]? with
  |none=>rw[e]at q1;cases q1
  |some o0 =>
   rw[e]at q1 q3
   cases q1
   obtain⟨t,d1,z,k1,k2,k3,k4,k5⟩:=hal o0 (List.mem_of_getElem? e) q3
   rw[H8,k3]at q2;cases q2
   obtain⟨j,hj⟩:=List.getElem?_of_mem ho'
   rw[I8]at hj
   cases e2:pre[j]? with
   |none=>rw[e2]at hj;cases hj
   |some o1 =>
    rw[e2]at hj;cases hj
    exact k5 o1 (List.mem_of_getElem? e2) (r0k hc)
 have hsb:∀ i,skA pre i=true->(A i).2.2 = .pu (.val undef):=λi q3=>by
  unfold skA at q3
  cases e:pre[i]? with
  |none=>rw[e]at q3;cases q3
  |some o0 =>
   rw[e]at q3
   obtain⟨t,d1,z,k1,k2,k3,k4,k5⟩:=hal o0 (List.mem_of_getElem? e) q3
   obtain⟨Lj,bj,_,_,_,_,_,hu⟩:=hall i (z00 o0) (Nat.zero_le _) (by rw[I8,e];rfl)
   refine hu _ ?_
   unfold z00
   rw[k1]
   rfl
 let Rest:Nat->Act->World->Prop:=λk a w=>∃ st' h' be oe H,doT (v04 P) (ops.toList.drop k) st' h' K/\Sim P h0 w0 be oe H st' h' a w
 let ml:=T0g ops.toList m [m]
 let Dl:Array Bool->Nat->Prop:=λlisted u=>∃(i:Nat) (o:Oper),pre[i]?=some o/\listed.getD i false=false/\o.dst=some u
 let Lat:Array Bool->Act->Act->Prop:=λlisted as a=>∀(i:Nat) (o:Oper) (t:List Nat) (d:Nat),pre[i]?=some o->listed.getD i false=false->L09 o=some t->o.dst=some d->o03 o a.eval=some (as.tmps.getD d undef)
 let Inv:Array Bool->Act->World->Prop:=λlisted a w=>(∀(j:Nat) (o:Oper),ops[j]?=some o->listed.getD j false=true->∀ e∈o.after,Region.binds .any e=true->listed.getD e.on false=true) /\
  (((∀ k,m<=k->listed.getD k false=false)/\p0c P h0 w0 pre st h A listed a w)∨∃ k as,m<k/\k<=ops.size/\(∀ i,i<k->listed.getD i false=true∨(i<m/\i ∉ ml))/\(∀ i,k<=i->listed.getD i false=false)/\Rest k as w/\O0e as a (Dl listed)/\Lat listed as a)
 have lateOf:m<ops.size->∀(i:Nat) (o:Oper),pre[i]?=some o->i ∉ ml->∃ t d,L09 o=some t/\o.dst=some d/\M09 d (ops.toList.drop m)=false/\(∀ x∈t,M09 x (ops.toList.drop m)=false/\r05 ml x pre 0=true)/\I06 i d (ops.toList.drop m)=true:=λhm i o hi hml=>by
  rcases b8 with h|h
  ·exfalso
   have:ops.toList.drop m = []:=by
    cases e:ops.toList.drop m with
    |nil=>rfl
    |cons x r=>rw[e]at h;cases h
   have:=List.drop_eq_nil_iff.1 this
   simp at this;omega
  ·have:=g0b h.1 i o hi
   rw[Nat.zero_add]at this
   rcases this with h1|h1
   ·exact absurd (q0c.1 h1) hml
   ·exact p0m h1
 have noselT:m<ops.size->Q0j (ops.toList.drop m)=true:=λhm=>by
  rcases b8 with h|h
  ·exfalso
   have:ops.toList.drop m = []:=by
    cases e:ops.toList.drop m with
    |nil=>rfl
    |cons x r=>rw[e]at h;cases h
   have:=List.drop_eq_nil_iff.1 this
   simp at this;omega
  ·exact h.2
 have preD:∀(i j:Nat) (oi oj:Oper) (d:Nat),pre[i]?=some oi->pre[j]?=some oj->oi.dst=some d->oj.dst=some d->i=j:=λi j oi oj d h1 h2 h3 h4 =>
  hD i j (z00 oi) (z00 oj) d (by rw[I8,h1];rfl) (by rw[I8,h2];rfl) (by rw[H8];exact h3) (by rw[H8];exact h4)
 have preN:∀(i:Nat) (o:Oper) (d:Nat),pre[i]?=some o->o.dst=some d->d<st.n:=λi o d h1 h2 =>
  hn (z00 o) (List.mem_of_getElem? (i:=i) (by rw[I8,h1];rfl)) d (by rw[H8];exact h2)
 have unl:∀ {listed:Array Bool} {j:Nat},listed.getD j true=false->listed.getD j false=false/\j<listed.size:=λ{listed j} hj=>by
  rcases Nat.lt_or_ge j listed.size with h|h
  ·simp[h]at hj ⊢;exact hj
  ·simp[Array.getElem?_eq_none h]at hj
 have allpre:∀ {listed:Array Bool} {a:Act} {w:World},(∀ j,j<pre.length->listed.getD j false=true)->p0c P h0 w0 pre st h A listed a w->Rest m a w:=λ{listed a w} hl hi =>
  Z0r (K:=λst h=>doT (v04 P) (ops.toList.drop m) st h K) hD hn hsb hal hP hfin hl hi
 have tail:∀ {Q:Exit->Act->World->Prop} {k:Nat} {o:Oper} {a:Act} {w:World},ops[k]?=some o->Rest k a w->o.wp P a w (Rest (k+1)) Q:=λ{Q k o a w} ho hr=>by
  obtain⟨st',h',be,oe,H,hd,s'⟩:=hr
  have hk:k<ops.toList.length:=by simpa using (Array.getElem?_eq_some_iff.1 ho).1
  have e:ops.toList.drop k=o::ops.toList.drop (k+1):=by
   rw[List.drop_eq_getElem_cons hk]
   congr 1
   have:ops.toList[k]?=some o:=by simpa using ho
   rw[List.getElem?_eq_getElem hk]at this
   exact oJ this
  rw[e]at hd
  exact s0k s' hd
 have virt:m<ops.size->∀ {listed:Array Bool} {a:Act} {w:World},listed.size=ops.size->(∀ i,i<m->i∈ml->listed.getD i false=true)->p0c P h0 w0 pre st h A listed a w ->
   ∀ k,k<=pre.length->∃ l2 as,l2.size=ops.size/\(∀ i,i<k->l2.getD i false=true)/\(∀ i,k<=i->l2.getD i false=listed.getD i false)/\p0c P h0 w0 pre st h A l2 as w /\
    O0e as a (λu=>∃(i:Nat) (o:Oper),i<k/\pre[i]?=some o/\listed.getD i false=false/\o.dst=some u) /\
    ∀(i:Nat) (o:Oper) (t:List Nat) (d:Nat),i<k->pre[i]?=some o->listed.getD i false=false->L09 o=some t->o.dst=some d->o03 o a.eval=some (as.tmps.getD d undef):=by
  intro hmN listed a w hsz hml hA k
  induction k with
  |zero=>exact λ_=>⟨listed,a,hsz,λi hi=>by omega,λi _=>rfl,hA,⟨rfl,rfl,λ_ _=>rfl⟩,λi o t d hi=>by omega⟩
  |succ k ih =>
   intro hk
   obtain⟨l2,as,z1,z2,z3,z4,z5,z6⟩:=ih (by omega)
   cases hlk:listed.getD k false with
   |true =>
    refine⟨l2,as,z1,λi hi=>?_,λi hi=>z3 i (by omega),z4,⟨z5.1,z5.2.1,λu hu=>z5.2.2 u λ⟨i,o,q1,q2⟩=>hu ⟨i,o,by omega,q2⟩⟩,λi o t d hi q1 q2 q3 q4=>?_⟩
    ·by_cases e:i=k
     ·subst e;rw[z3 i (Nat.le_refl _)];exact hlk
     ·exact z2 i (by omega)
    ·have:i≠k:=λe=>by subst e;rw[hlk]at q2;cases q2
     exact z6 i o t d (by omega) q1 q2 q3 q4
   |false =>
    obtain⟨o,ho⟩:∃ o,pre[k]?=some o:=⟨pre[k],List.getElem?_eq_getElem (by omega)⟩
    have hkm:k<m:=by omega
    have hkml:k ∉ ml:=λh=>by rw[hml k hkm h]at hlk;cases hlk
    obtain⟨t,d,y1,y2,y3,y5,y6⟩:=lateOf hmN k o ho hkml
    have hg:=(z04 y1).1
    have hl2k:l2.getD k false=false:=by rw[z3 k (Nat.le_refl _)];exact hlk
    have hks:k<l2.size:=by rw[z1];omega
    have hun2:l2.getD k true=false:=by
     simp[hks]at hl2k ⊢;exact hl2k
    have hoL:ops.toList[k]?=some o:=by rw[hpg k hkm];exact ho
    have st1:=(K0s (Q:=λ_ _ _=>False) hD hn hB hdep hgd hP (λj o ho=>hall j o (Nat.zero_le _) ho) hsr hsb hal hun2 ho (λe he1 he2=>z2 e.on (hBB k o hoL e he1 he2)) z4).1 (by unfold Region.wanted;rw[hg])
    obtain⟨v,v1,v2⟩:=a0s y1 st1
    have hasz:as.tmps.size=st.n:=by
     obtain⟨_,_,_,_,_,_,iu,_,_⟩:=z4
     obtain⟨_,_,_,_,_,s,_⟩:=iu
     exact s.siz
    have htne:∀ x∈t,¬ ∃(i:Nat) (o:Oper),i<k/\pre[i]?=some o/\listed.getD i false=false/\o.dst=some x:=λx hx ⟨i,o',q1,q2,q3,q4⟩=>by
     have:=x06 (y5 x hx).2 i o' q2 q4
     rw[Nat.zero_add]at this
     rw[hml i (by omega) this]at q3;cases q3
    rw[C08 y1 λx hx=>z5.2.2 x (htne x hx)]at v1
    rw[y2]at v2
    refine⟨l2.setIfInBounds k true,as.put (some d) v,by simpa using z1,λi hi=>?_,λi hi=>?_,v2,⟨by simp[Act.put,z5.1],z5.2.1,λu hu=>?_⟩,λi o' t' d' hi q1 q2 q3 q4=>?_⟩
    ·by_cases e:k=i
     ·subst e;simp[hks]
     ·rw[getD_set_ne false e];exact z2 i (by omega)
    ·rw[getD_set_ne false (by omega)];exact z3 i (by omega)
    ·rw[A04,if_neg λe=>hu ⟨k,o,by omega,ho,hlk,by rw[y2,e.1]⟩]
     exact z5.2.2 u λ⟨i,o',q1,q2⟩=>hu ⟨i,o',by omega,q2⟩
    ·rw[A04]
     by_cases e:i=k
     ·subst e
      rw[ho]at q1;cases q1
      rw[y1]at q3;cases q3
      rw[y2]at q4;cases q4
      rw[if_pos ⟨rfl,by rw[hasz];exact preN i o d ho y2⟩]
      exact v1
     ·rw[if_neg λh=>e (preD i k o' o d' q1 ho q4 (by rw[y2,h.1]))]
      exact z6 i o' t' d' (by omega) q1 q2 q3 q4
 refine m0u (Inv:=Inv) hBB (λlisted a w j o hsz hun ho hrd hi=>?_) (λlisted a w hl hi=>?_) ops.size _ a w (by simp) (by simp[List.count_replicate]) ⟨λj o _ h=>?_,.inl ⟨λk _=>?_,p0c.start s⟩⟩
 rotate_left 2
 ·simp[Array.getElem?_replicate]at h
  split at h<;>cases h
 ·simp[Array.getElem?_replicate]
  split<;>simp
 rotate_left 1
 ·rcases hi.2 with⟨hm,hA⟩|⟨k,as,k1,k2,k3,k4,hr,lk,lt⟩
  ·have hms:ops.size<=m:=by
    rcases Nat.lt_or_ge m ops.size with h|h
    ·have:=hm m (Nat.le_refl _)
     rw[hl m h]at this;cases this
    ·exact h
   obtain⟨st',h',be,oe,H,hd,s'⟩:=allpre (λj hj=>hl j (by omega)) hA
   rw[List.drop_eq_nil_of_le (by simpa using hms)]at hd
   exact hQ a w st' h' be oe H hd s'
  ·have hk:k=ops.size:=by
    rcases Nat.lt_or_ge k ops.size with h|h
    ·have:=k4 k (Nat.le_refl _)
     rw[hl k h]at this;cases this
    ·omega
   subst hk
   obtain⟨st',h',be,oe,H,hd,s'⟩:=hr
   rw[List.drop_eq_nil_of_le (by simp)]at hd
   refine hQ a w st' h' be oe H hd (s'.like lk λu ⟨i,o,q1,q2,q3⟩=>?_)
   have:=(List.getElem?_eq_some_iff.1 q1).1
   rw[hl i (by omega)]at q2;cases q2
 ·obtain⟨hcl,hi⟩:=hi
  obtain⟨hjf,hjs⟩:=unl hun
  have hcl':∀(i:Nat) (oi:Oper),ops[i]?=some oi->(listed.setIfInBounds j true).getD i false=true->∀ e∈oi.after,Region.binds .any e=true->(listed.setIfInBounds j true).getD e.on false=true:=λi oi h1 h2 e he1 he2=>by
   by_cases hij:j=i
   ·subst hij
    rw[ho]at h1;cases h1
    exact getD_set_true (hrd e he1 he2)
   ·rw[getD_set_ne false hij]at h2
    exact getD_set_true (hcl i oi h1 h2 e he1 he2)
  have hoL:ops.toList[j]?=some o:=by simpa using ho
  have hjlt:j<ops.size:=(Array.getElem?_eq_some_iff.1 ho).1
  by_cases hjm:j<m
  ·rcases hi with⟨hm,hA⟩|⟨k,as,k1,k2,k3,k4,hr,lk,lt⟩
   ·have hop:pre[j]?=some o:=by rw[←hpg j hjm];exact hoL
    have st1:=K0s (Q:=Q) hD hn hB hdep hgd hP (λj o ho=>hall j o (Nat.zero_le _) ho) hsr hsb hal hun hop hrd hA
    have hyd:Region.wanted o (yielded ops a.tmps)=Region.wanted o (yielded (T5 pre).toArray a.tmps):=by
     unfold Region.wanted
     cases hg:o.guard with
     |none=>rfl
     |some p =>
      obtain⟨i,wv⟩:=p
      obtain⟨e,he1,he2,he3⟩:=Z6 (hgd (z00 o) (List.mem_of_getElem? (i:=j) (by rw[I8,hop];rfl)) i wv (by rw[q0k];exact hg))
      rw[p0k]at he1
      have hlt:=hBB j o hoL e he1 he2
      rw[he3]at hlt
      have hig:=hpg i (by omega)
      have:yielded ops a.tmps i=yielded (T5 pre).toArray a.tmps i:=by
       unfold yielded
       have e1:ops[i]?=pre[i]?:=by rw[←hig];simp
       have e2:(T5 pre).toArray[i]?=(pre[i]?).map z00:=by simp[I8]
       rw[e1,e2]
       cases pre[i]? with
       |none=>rfl
       |some o0=>simp[H8]
      simp only[this]
    rw[hyd]
    have up:∀ a' w',p0c P h0 w0 pre st h A (listed.setIfInBounds j true) a' w'->Inv (listed.setIfInBounds j true) a' w':=λa' w' hx=>⟨hcl',.inl ⟨λk hk=>by rw[getD_set_ne false (by omega)];exact hm k hk,hx⟩⟩
    exact⟨λhw=>Oper.wp_mono up (st1.1 hw),λhw=>up _ _ (st1.2 hw)⟩
   ·have hop:pre[j]?=some o:=by rw[←hpg j hjm];exact hoL
    have hjml:j ∉ ml:=by
     rcases k3 j (by omega)with h|h
     ·rw[hjf]at h;cases h
     ·exact h.2
    obtain⟨t,d,y1,y2,y3,y5,y6⟩:=lateOf (by omega) j o hop hjml
    have hg:=(z04 y1).1
    refine⟨λ_=>?_,λhw=>by unfold Region.wanted at hw;rw[hg]at hw;cases hw⟩
    unfold Oper.wp
    rw[N0e y1 (lt j o t d hop hjf y1 y2) w]
    refine⟨hcl',.inr ⟨k,as,k1,k2,λi hi=>?_,λi hi=>?_,hr,⟨by rw[y2];simp[Act.put,lk.1],by rw[y2];exact lk.2.1,λu hu=>?_⟩,λi o' t' d' q1 q2 q3 q4=>?_⟩⟩
    ·rcases k3 i hi with h|h
     ·exact .inl (getD_set_true h)
     ·exact .inr h
    ·rw[getD_set_ne false (by omega)];exact k4 i hi
    ·rw[y2,A04]
     by_cases e:d=u
     ·subst e
      by_cases hlt:d<a.tmps.size
      ·rw[if_pos ⟨rfl,hlt⟩]
      ·rw[if_neg λh=>hlt h.2]
       have e1:∀(x:Act),¬ d<x.tmps.size->x.tmps.getD d undef=undef:=λx hx=>by
        simp[Array.getElem?_eq_none (Nat.le_of_not_lt hx)]
       rw[e1 a hlt,e1 as (by rw[lk.1];exact hlt)]
     ·rw[if_neg λh=>e h.1]
      refine lk.2.2 u λ⟨i,o',q1,q2,q3⟩=>?_
      by_cases e2:j=i
      ·subst e2
       rw[hop]at q1;cases q1
       rw[y2]at q3;cases q3
       exact e rfl
      ·exact hu ⟨i,o',q1,by rw[getD_set_ne false e2];exact q2,q3⟩
    ·have e2:j≠i:=λe2=>by subst e2;simp[hjs]at q2
     rw[getD_set_ne false e2]at q2
     have hi':=(List.getElem?_eq_some_iff.1 q1).1
     have himl:i ∉ ml:=by
      rcases k3 i (by omega)with h|h
      ·rw[q2]at h;cases h
      ·exact h.2
     obtain⟨t2,d2,x1,x2,x3,x5,x6⟩:=lateOf (by omega) i o' q1 himl
     rw[q3]at x1;cases x1
     rw[←lt i o' t' d' q1 q2 q3 q4]
     refine C08 q3 λx hx=>?_
     rw[y2,A04,if_neg λh=>?_]
     have:=x06 (x5 x hx).2 j o hop (by rw[y2,h.1])
     rw[Nat.zero_add]at this
     exact hjml this
  ·have hg:o.guard=none:=sq1 o (List.mem_of_getElem? (i:=j-m) (by rw[hdg];rw[show m+(j-m)=j by omega];exact hoL))
   have prev:m<j->listed.getD (j-1) false=true:=λhlt=>by
    have:=sq2 (j-m-1) o (by rw[hdg];rw[show m+(j-m-1+1)=j by omega];exact hoL)
    obtain⟨e,he1,he2,he3⟩:=Z6 this
    have:=hrd e he1 he2
    rw[he3,show m+(j-m-1)=j-1 by omega]at this
    exact this
   refine⟨λ_=>?_,λhw=>by unfold Region.wanted at hw;rw[hg]at hw;cases hw⟩
   have hmt:o∈ops.toList.drop m:=List.mem_of_getElem? (i:=j-m) (by rw[hdg,show m+(j-m)=j by omega];exact hoL)
   have go:∀ as,(∀ i,i<j->listed.getD i false=true∨(i<m/\i ∉ ml))->(∀ i,j<=i->listed.getD i false=false)->Rest j as w->O0e as a (Dl listed)->Lat listed as a->o.wp P a w (Inv (listed.setIfInBounds j true)) Q:=λas q1 q2 hr lk lt=>by
    have hjD:∀ u,Dl (listed.setIfInBounds j true) u↔Dl listed u:=λu=>by
     constructor
     ·rintro⟨i,o',p1,p2,p3⟩
      have:=(List.getElem?_eq_some_iff.1 p1).1
      rw[getD_set_ne false (by omega)]at p2
      exact⟨i,o',p1,p2,p3⟩
     ·rintro⟨i,o',p1,p2,p3⟩
      have:=(List.getElem?_eq_some_iff.1 p1).1
      exact⟨i,o',p1,by rw[getD_set_ne false (by omega)];exact p2,p3⟩
    have lateU:∀(i:Nat) (o':Oper),pre[i]?=some o'->listed.getD i false=false->i ∉ ml:=λi o' p1 p2=>by
     have:=(List.getElem?_eq_some_iff.1 p1).1
     rcases q1 i (by omega)with h|h
     ·rw[p2]at h;cases h
     ·exact h.2
    refine Oper.wp_mono (λa' w' hx=>?_) (b0s (Q:=Q) lk (M0e (noselT (by omega)) o hmt) (λu hu ⟨i,o',p1,p2,p3⟩=>?_) (tail (Q:=λ_ _ _=>False) ho hr))
    ·obtain⟨as',hr',lk',⟨v1,hv1⟩,v2,hv2⟩:=hx
     have e1:∀ u,o.dst≠some u->as'.tmps.getD u undef=as.tmps.getD u undef:=λu hu=>by
      cases hd:o.dst with
      |none =>
       rw[hd]at hv1
       rcases hv1 with h|⟨x,h⟩<;>rw[h]<;>rfl
      |some d =>
       rw[hd]at hv1 hu
       rcases hv1 with h|⟨x,h⟩<;>rw[h,A04,if_neg λh=>hu (by rw[h.1])]
     have e2:∀ u,o.dst≠some u->a'.tmps.getD u undef=a.tmps.getD u undef:=λu hu=>by
      cases hd:o.dst with
      |none =>
       rw[hd]at hv2
       rcases hv2 with h|⟨x,h⟩<;>rw[h]<;>rfl
      |some d =>
       rw[hd]at hv2 hu
       rcases hv2 with h|⟨x,h⟩<;>rw[h,A04,if_neg λh=>hu (by rw[h.1])]
     refine⟨hcl',.inr ⟨j+1,as',by omega,by omega,λi hi=>?_,λi hi=>?_,hr',⟨lk'.1,lk'.2.1,λu hu=>lk'.2.2 u λh=>hu ((hjD u).2 h)⟩,λi o' t d p1 p2 p3 p4=>?_⟩⟩
     ·by_cases e:j=i
      ·subst e;left;simp[hjs]
      ·rw[getD_set_ne false e];exact q1 i (by omega)
     ·rw[getD_set_ne false (by omega)];exact q2 i (by omega)
     ·have hi':=(List.getElem?_eq_some_iff.1 p1).1
      rw[getD_set_ne false (by omega)]at p2
      obtain⟨t2,d2,x1,x2,x3,x5,x6⟩:=lateOf (by omega) i o' p1 (lateU i o' p1 p2)
      rw[p3]at x1;cases x1
      rw[p4]at x2;cases x2
      rw[e1 d (n0a x3 o hmt),C08 p3 λx hx=>e2 x (n0a (x5 x hx).1 o hmt)]
      exact lt i o' t d p1 p2 p3 p4
    ·obtain⟨t2,d2,x1,x2,x3,x5,x6⟩:=lateOf (by omega) i o' p1 (lateU i o' p1 p2)
     rw[p3]at x2;cases x2
     obtain⟨e,he1,he2,he3⟩:=Z6 (V09 x6 o hmt hu)
     have:=hrd e he1 he2
     rw[he3,p2]at this;cases this
   rcases hi with⟨hm,hA⟩|⟨k,as,k1,k2,k3,k4,hr,lk,lt⟩
   ·have hjm':j=m:=by
     rcases Nat.lt_or_ge m j with h|h
     ·have:=prev h
      rw[hm (j-1) (by omega)]at this;cases this
     ·omega
    subst hjm'
    have hml:∀ i,i<j->i∈ml->listed.getD i false=true:=λi hi hmi=>by
     have:=m0a (G:=λi=>i=j∨listed.getD i false=true) (ops:=ops.toList) (λi' j' o' hG ho' he'=>?_) j [j] (λx hx => .inl (by simpa using hx)) i hmi
     ·rcases this with h|h
      ·omega
      ·exact h
     ·obtain⟨e,he1,he2,he3⟩:=Z6 he'
      rw[←he3]
      right
      rcases hG with rfl|hG
      ·rw[hoL]at ho';cases ho'
       exact hrd e he1 he2
      ·exact hcl j' o' (by simpa using ho') hG e he1 he2
    obtain⟨l2,as,z1,z2,z3,z4,z5,z6⟩:=virt hjlt (by assumption) hml hA pre.length (Nat.le_refl _)
    refine go as (λi hi=>?_) hm (allpre (λi hi=>z2 i hi) z4) ⟨z5.1,z5.2.1,λu hu=>z5.2.2 u λ⟨i,o',p1,p2⟩=>hu ⟨i,o',p2⟩⟩ (λi o' t d p1 p2 p3 p4=>z6 i o' t d (List.getElem?_eq_some_iff.1 p1).1 p1 p2 p3 p4)
    by_cases h:i∈ml
    ·exact .inl (hml i hi h)
    ·exact .inr ⟨hi,h⟩
   ·have hjk:j=k:=by
     have h1:k<=j:=by
      rcases Nat.lt_or_ge j k with h|h
      ·rcases k3 j h with h2|h2
       ·rw[hjf]at h2;cases h2
       ·omega
      ·exact h
     rcases Nat.lt_or_ge k j with h|h
     ·have:=prev (by omega)
      rw[k4 (j-1) (by omega)]at this;cases this
     ·omega
    subst hjk
    exact go as k3 k4 hr lk lt
end
section
variable {P:Program} {h0:Hp} {w0:World} {Q:Exit->Act->World->Prop} {ops:Array Oper} {K:RS->Prop}
theorem t0k{be:Nat->Nat}{oe:Nat->Value}{H:Hp}{rs:RS}{a:Act}{w:World}{o:Oper}{i:Nat}{e:RS->Prop}(f:Sim P h0 w0 be oe H rs.st rs.h a w)(r:x08 ops be oe rs a i)(m:ops[i]?=some o)
  {ch:List (Nat×Bool)} {c:Bool} (j:s00 rs.bs o.guard=some ch) (d:cB rs.bs ch=some c) (k:evG P o ch c rs λav=>p0e o.dst i ch av rs e) :
  ∃ v b,e b/\x08 ops be oe b (a.put o.dst v) (i+1)/\Sim P h0 w0 be oe H b.st b.h (a.put o.dst v) w/\Region.wanted o (yielded ops a.tmps)=c /\
   (c=true->∀ g,CW H w g->o.quietAt P a (CW H w) g v)/\(c=false->v=undef):=by
 obtain⟨av,l,n⟩:=V0o f r d k
 have p:=U0o r j d
 cases c with
 |true =>
  grind[y05]
 |false =>
  obtain⟨b,q,_,s,t⟩:=y05 (v:=undef) f r m d (λh=>by cases h) (λ_=>rfl) l
  grind
theorem g06(f:∀ rs a w be oe H,K rs->Sim P h0 w0 be oe H rs.st rs.h a w->Q .normal a w):∀(l:List Oper) (i:Nat) (rs:RS) (a:Act) (w:World) (be:Nat->Nat) (oe:Nat->Value) (H:Hp),
  (∀ j,l[j]?=ops[i+j]?)->Sim P h0 w0 be oe H rs.st rs.h a w->x08 ops be oe rs a i->d0d P l i rs K->wpList P ops Q l a w
 | [],i,rs,a,w,be,oe,H,_,d,_,b=>f rs a w be oe H b d
 |o::l,i,rs,a,w,be,oe,H,y,d,r,b=>by
  have z:ops[i]?=some o:=by simpa using (y 0).symm
  have s:∀ j,l[j]?=ops[i+1+j]?:=λj=>by have:=y (j+1);grind
  have N:∀ ch c,s00 rs.bs o.guard=some ch->cB rs.bs ch=some c->(evG P o ch c rs λav=>p0e o.dst i ch av rs λrs=>d0d P l (i+1) rs K)->wpList P ops Q (o::l) a w:=by
   intro ch c F E b
   obtain⟨v,p,k,A,n,u,J,t⟩:=t0k d r z F E b
   unfold wpList
   rw[u]
   cases c with
   |false =>
    rw[if_neg (by simp),←t rfl]
    exact g06 f l (i+1) p _ w be oe H s n A k
   |true =>
    rw[if_pos rfl]
    refine .inl (Oper.wp_of_quiet (C:=CW H w) (K:=λq=>q=a.put o.dst v) (T2.refl d.mv.vis) (λq x m e=>?_) ⟨v,J rfl,rfl⟩)
    subst e
    exact g06 f l (i+1) p _ x be oe H s (n.still (hf:=H) (λ_ _ h=>h) m) A k
  simp only[d0d]at b
  split at b
  ·rename_i G O
   have u:Region.wanted o (yielded ops a.tmps)=true:=by unfold Region.wanted;rw[G]
   unfold wpList
   rw[if_pos u]
   refine .inl (Oper.wp_mono (λq x t=>?_) (k00 (Q:=Q) d b))
   obtain⟨av,st',h',v,be',oe',B,I,rfl,M,g,D⟩:=t
   obtain⟨p,k,_,n,L⟩:=y05 (rs := { rs with st:=st',h:=h' }) (ch:=[]) (c:=true) (v:=v) M (r.grow D) z rfl (λ_=>g) (λh=>by cases h) I
   exact g06 f l (i+1) p _ x be' oe' B s L n k
  grind
theorem i0h{be:Nat->Nat}{oe:Nat->Value}{H:Hp}{w:World}(f:∀ rs a w be oe H,K rs->Sim P h0 w0 be oe H rs.st rs.h a w->Q .normal a w):∀(l:List Oper) (i:Nat) (rs:RS) (a:Act),
  (∀ j,l[j]?=ops[i+j]?)->Sim P h0 w0 be oe H rs.st rs.h a w->x08 ops be oe rs a i->evQ P l i rs K->wpQuiet P ops (CW H w) (λk=>∀ d,CW H w d->Q .normal k d) l a
 | [],i,rs,a,_,e,_,b=>λd m=>f rs a d be oe H b (e.still (hf:=H) (λ_ _ h=>h) m)
 |o::l,i,rs,a,g,e,r,b=>by
  have s:ops[i]?=some o:=by simpa using (g 0).symm
  have q:∀ j,l[j]?=ops[i+1+j]?:=λj=>by have:=g (j+1);grind
  simp only[evQ]at b
  split at b
  ·rename_i ch p
   split at b
   ·rename_i c n
    obtain⟨v,B,y,z,A,u,t,C⟩:=t0k e r s p n b
    have x:=i0h f l (i+1) B _ q A z y
    unfold wpQuiet
    rw[u]
    cases c with
    |false=>grind
    |true=>rw[if_pos rfl];exact⟨v,t rfl,x⟩
   ·exact b.elim
  ·exact b.elim
theorem x08.init{be:Nat->Nat}{oe:Nat->Value}{st:St}{h:Hp}{a:Act}:x08 ops be oe ⟨st,h,[],[]⟩ a 0 :=
 ⟨(λx b=>nomatch b),(λx b=>nomatch b),(λd ch av c=>nomatch c)⟩
def Q0i(P:Program)(h0:Hp)(w0:World)(Q:Ex->St->Hp->Prop):Exit->Act->World->Prop
 | .normal,a,w=>∃ st h be oe H,Q .normal st h/\Sim P h0 w0 be oe H st h a w
 | .exit i,a,w=>∃ st h be oe H,Q (.exit i) st h/\Sim P h0 w0 be oe H st h a w
 | .ret,a,w=>∃ st h be oe H,Q .ret st h/\Sim P h0 w0 be oe H st h a w
 |_,_,_=>False
variable {be:Nat->Nat} {oe:Nat->Value} {H:Hp} {st:St} {h:Hp} {a:Act} {w:World}
theorem R0i{Q:Ex->St->Hp->Prop}{id:Nat}{d:Bool}(b:Sim P h0 w0 be oe H st h a w)(f:ev P (.region id ops d) Q st h):(Code.region id ops d).wp P (Q0i P h0 w0 Q) a w:=by
 cases d with
 |false =>
  simp only[ev]at f
  split at f
  ·exact wp_region_list ((m0k (h0:=h0) (w0:=w0) f.1 f.2 λa w st h be oe H l b=>⟨st,h,be,oe,H,l,b⟩).2 b)
  ·exact wp_region_list (g06 (K:=λrs=>Q .normal rs.st rs.h) (λrs a w be oe H l b=>⟨rs.st,rs.h,be,oe,H,l,b⟩) _ 0 ⟨st,h,[],[]⟩ a w be oe H (λj=>by simp) b x08.init f)
 |true =>
  rcases f with⟨⟨p,n⟩,f⟩|f|f|⟨⟨p,n⟩,f⟩|⟨m,⟨p,n⟩,f⟩
  ·refine wp_region_quiet (C:=CW H w) p n (T2.drawn b.mv.vis _ (by grind)) ?_
   exact i0h (K:=λrs=>Q .normal rs.st rs.h) (λrs a w be oe H l b=>⟨rs.st,rs.h,be,oe,H,l,b⟩) _ 0 ⟨st,h,[],[]⟩ a (λj=>by simp) b x08.init f
  ·exact f.elim
  ·split at f
   ·obtain⟨⟨p,n⟩,f⟩:=f
    exact wp_region_any p (Y0o (b.still (hf:=H) (λ_ _ h=>h) (T2.drawn b.mv.vis _ (by grind))) n f λa w st h be oe H l b=>⟨st,h,be,oe,H,l,b⟩)
   ·rename_i o I
    obtain⟨⟨p,n⟩,f⟩:=f
    simp only[Bool.and_eq_true]at n
    obtain⟨A,F,B⟩:=a0p I
    have s:=b.still (hf:=H) (λ_ _ h=>h) (T2.drawn b.mv.vis (w.drawn+1) (by grind))
    obtain⟨Inv,t,u,x,q⟩:=i0k (ops:=(n01 ops.toList).toArray) (Q:=Q0i P h0 w0 Q) (R:=λa w=>o.wp P a w (λa w=>Q0i P h0 w0 Q .normal a w) (Q0i P h0 w0 Q)) s (by simpa using n.1) (by simpa using f) λa w st h be oe H l b=>by
     refine Oper.wp_mono (λJ M G=>?_) (k00 (Q:=Q0i P h0 w0 Q) b l)
     obtain⟨av,st',h',v,be',oe',z,l,rfl,s,g,L⟩:=G
     obtain⟨y,t,u,x,q⟩:=y05 (ops := #[o]) (i:=0) (rs:=⟨st',h',[],[]⟩) (ch:=[]) (c:=true) (v:=v) s x08.init (by rfl) rfl (λ_=>g) (λh=>by cases h) l
     exact⟨y.st,y.h,be',oe',z,t,q⟩
    exact wp_region_any p (k0u (ops0:=(n01 ops.toList).toArray) (o:=o) (Inv:=Inv) (by simpa using A) (λk o l e E D=>by
     have:=e04 n.2 k o l e E D
     omega) F (λk l=>U09 B k (by simpa using l) (by simp at l;omega)) u x q)
  ·exact wp_region_any p ((m0k (h0:=h0) (w0:=w0) n f λa w st h be oe H l b=>⟨st,h,be,oe,H,l,b⟩).1 (b.still (hf:=H) (λ_ _ h=>h) (T2.drawn b.mv.vis _ (by grind))))
  ·exact wp_region_any p (c0p n f (λa w st h be oe H l b=>⟨st,h,be,oe,H,l,b⟩) (b.still (hf:=H) (λ_ _ h=>h) (T2.drawn b.mv.vis _ (by grind))))
end
theorem B04(x:Nat):∀ l:List Nat,E09 x l=true↔x∈l
 | []=>by simp[E09]
 |y::r=>by
  simp only[E09]
  cases h:Nat.beq x y with
  |true=>simp_all
  |false=>simp[B04 x r,Nat.ne_of_beq_eq_false h]
theorem D07{x:Nat}{l:List Nat}(h:E09 x l=false):x ∉ l:=λa=>by grind[B04]
theorem j0h:∀(l:List Nat) (K:List Nat->Prop),e0c l K=K l
 | [],K=>rfl
 |x::r,K=>by simp only[e0c,j0h r]
theorem h0b:∀(n:Nat) {K:List Value->Prop},Q0a n K->∀ vs:List Value,vs.length=n->K vs
 |0,K,h,vs,a=>by rw[List.length_eq_zero_iff.1 a];exact h
 |n+1,K,h,[],a=>by cases a
 |n+1,K,h,v::vs,a=>h0b n (h v) vs (by simpa using a)
theorem i0b:∀(n:Nat) {K:List (List (List Value))->Prop},R0a n K->∀ os:List (List (List Value)),os.length=n->K os
 |0,K,h,vs,a=>by rw[List.length_eq_zero_iff.1 a];exact h
 |n+1,K,h,[],a=>by cases a
 |n+1,K,h,v::vs,a=>i0b n (h v) vs (by simpa using a)
theorem o0a{c:Type}:∀(a b:List c) (K:List c->List c->Prop),r08 a.length (a++b) K=K a b
 | [],b,K=>rfl
 |x::a,b,K=>by simp only[List.length_cons,List.cons_append,r08,o0a a b]
theorem r0c(e:St):∀(l:List Nat) {K:List Value->Prop},O0r l e K->∃ vs,vs.length=l.length/\K vs /\
  ∀ acc t,(E3 (f0c l vs acc) t=E3 acc t/\t ∉ l)∨(∃ v,E3 (f0c l vs acc) t = .val v/\rdA e (E3 e.fr t) = .val v)
 | [],K,h=>⟨[],rfl,h,λacc t => .inl ⟨rfl,by simp⟩⟩
 |b::r,K,h=>by
  simp only[O0r]at h
  split at h
  ·rename_i v i
   obtain⟨vs,c,d,f⟩:=r0c e r h
   refine⟨v::vs,by simp[c],d,λacc t=>?_⟩
   rcases f ((b,.val v)::acc) t with⟨a,g⟩|a
   ·by_cases e':b=t
    ·simp_all[f0c,Z3,if_true]
    simp_all[f0c,Z3,if_neg,Ne.symm]
   ·exact .inr a
  ·exact h.elim
def D05(B:Nat->Nat->Prop):List F5->Prop
 | []=>True
 | .val _::r=>D05 B r
 | .own i k::r=>B i k/\D05 B r
def ShC(e:St):List F5->List F5->Prop
 | [],[]=>True
 | .val _::r,.val _::a=>ShC e r a
 | .own i _::r,.own j c::a=>i=j/\(∃ b,rdA e (.own j c) = .own j b)/\ShC e r a
 |_,_=>False
def EqC(e:St):List F5->List F5->Prop
 | [],[]=>True
 | .val v::r,.val d::a=>v=d/\EqC e r a
 | .own i _::r,.own j c::a=>i=j/\(∃ b,rdA e (.own j c) = .own j b)/\EqC e r a
 |_,_=>False
theorem EqC.sh{e:St}:∀ {cs cs':List F5},EqC e cs cs'->ShC e cs cs'
 | [],[],_=>trivial
 | .val _::r,.val _::a,h=>EqC.sh (cs:=r) (cs':=a) h.2
 | .own i _::r,.own j b::a,h=>⟨h.1,h.2.1,EqC.sh (cs:=r) (cs':=a) h.2.2⟩
 | [],_::_,h=>h.elim
 | .val _::_,[],h=>h.elim
 | .own _ _::_,[],h=>h.elim
 | .val _::_,.own _ _::_,h=>h.elim
 | .own _ _::_,.val _::_,h=>h.elim
theorem j0b{e:St}{i k a b:Nat}(h:rdA e (.own i k) = .own a b):a=i/\b=k:=by
 grind[rdA]
theorem E07{g e:St}:∀(cs cs':List F5),M06 g e cs cs'=true->ShC e cs cs'
 | [],[],_=>trivial
 | .val _::r,.val _::c,h=>E07 r c h
 | .own i _::r,.own j k::c,h=>by
  simp only[M06]at h
  split at h
  ·rename_i a b f d
   obtain⟨rfl,_⟩:=j0b d
   exact⟨Nat.eq_of_beq_eq_true f,⟨_,d⟩,E07 r c h⟩
  ·cases h
 | [],_::_,h=>by cases h
 | .val _::_,[],h=>by cases h
 | .own _ _::_,[],h=>by cases h
 | .val _::_,.own _ _::_,h=>by cases h
 | .own _ _::_,.val _::_,h=>by cases h
theorem s0c(e:St):∀(cs cs':List F5),ShC e cs cs'->∀ {K:List Value->Prop},T0j cs' e K->∃ vs,K vs/\∃ a,(∀(f:List Value) (c:List F5->List Value->Prop),p04 cs (vs++f) c=c a f)/\EqC e a cs' /\
  (∀ B,D05 B cs->D05 B a)
 | [],[],_,K,h=>⟨[],h,[],λ_ _=>rfl,trivial,λ_ h=>h⟩
 | .val _::r,.val v::n,b,K,h=>by
  obtain⟨vs,g,a,o,l,m⟩:=s0c e r n b (K:=λvs=>K (v::vs)) h
  exact⟨v::vs,g,.val v::a,λf c=>by grind[p04],⟨rfl,l⟩,λB d=>m B d⟩
 | .own i k::r,.own j p::n,b,K,h=>by
  obtain⟨vs,g,a,o,l,m⟩:=s0c e r n b.2.2 (K:=K) h
  exact⟨vs,g,.own i k::a,λf c=>by simp only[p04,o],⟨b.1,b.2.1,l⟩,λB d=>⟨d.1,m B d.2⟩⟩
 | [],_::_,h,_,_=>h.elim
 | .val _::_,[],h,_,_=>h.elim
 | .own _ _::_,[],h,_,_=>h.elim
 | .val _::_,.own _ _::_,h,_,_=>h.elim
 | .own _ _::_,.val _::_,h,_,_=>h.elim
theorem t0c(e:St):∀(cs:List F5) {K:List Value->Prop},T0j cs e K->∃ vs,K vs/\∀(b:List Value) (a:List F5->List Value->Prop),p04 cs (vs++b) a=a cs b
 | [],K,h=>⟨[],h,λ_ _=>rfl⟩
 | .val v::r,K,h=>by
  obtain⟨vs,c,d⟩:=t0c e r (K:=λvs=>K (v::vs)) h
  grind[p04]
 | .own i k::r,K,h=>by
  obtain⟨vs,c,d⟩:=t0c e r (K:=K) h
  grind[p04]
theorem k0h{a:Type}(l:List a)(i:Nat)(x:a)(h:nth l i=some x):F00 l i x=l:=by
 grind[s05,List.getElem?_eq_some_iff,T0a,List.set_getElem_self]
theorem y0n(e:St):∀(is:List Nat) {K:List Value->Prop},w0e is e K->∃ ws,K ws/\∀ a,J06 is ws e.bx a=a e.bx
 | [],K,h=>⟨[],h,λ_=>rfl⟩
 |i::r,K,h=>by
  simp only[w0e]at h
  split at h
  ·rename_i cs ty g
   obtain⟨vs,b,c⟩:=t0c e cs h
   obtain⟨ws,d,f⟩:=y0n e r b
   grind[J06,k0h]
  ·exact h.elim
theorem z0n(e:St):∀(is:List Nat) {K:List (List (List Value))->Prop},U0g is e K->∃ os,os.length=is.length/\K os/\∀ a,K06 is os e.ow a=a e.ow
 | [],K,h=>⟨[],rfl,h,λ_=>rfl⟩
 |i::r,K,h=>by
  simp only[U0g]at h
  split at h
  ·rename_i g ty sz by_ nn xs f
   obtain⟨ws,b,c,d⟩:=z0n e r h
   grind[K06,k0h]
  ·exact h.elim
theorem A0n(e:St):∀(is:List Nat) (bx:List BSt),(∀ i∈is,∃ cs ty cs',nth bx i=some (.live cs ty)/\nth e.bx i=some (.live cs' ty)/\ShC e cs cs')->∀ {K:List Value->Prop},w0e is e K ->
  ∃ ws,K ws/\∃ b,(∀ d,J06 is ws bx d=d b)/\b.length=bx.length/\(∀ i,i ∉ is->nth b i=nth bx i) /\
   (∀ i∈is,∃ c ty cs',nth b i=some (.live c ty)/\nth e.bx i=some (.live cs' ty)/\EqC e c cs') /\
   (∀ B,(∀ i cs ty,nth bx i=some (.live cs ty)->D05 B cs)->(∀ i cs ty,nth b i=some (.live cs ty)->D05 B cs))
 | [],bx,_,K,h=>⟨[],h,bx,λ_=>rfl,rfl,λ_ _=>rfl,by simp,λ_ h=>h⟩
 |i::r,bx,s,K,h=>by
  obtain⟨cs,ty,cs',p,f,q⟩:=s i mS
  simp only[w0e,f]at h
  obtain⟨vs,u,c,C,m,D⟩:=s0c e cs cs' q h
  have g:=a02 p
  have t:∀ j∈r,∃ k o l,nth (F00 bx i (.live c ty)) j=some (.live k o)/\nth e.bx j=some (.live l o)/\ShC e k l:=λj a=>by
   rw[D7 _ _ _ g]
   by_cases ej:j=i
   ·subst ej
    rw[if_pos rfl]
    exact⟨c,ty,cs',rfl,f,m.sh⟩
   grind
  obtain⟨ws,v,b,E,w,n,x,y⟩:=A0n e r _ t u
  refine⟨vs++ws,v,b,λd=>by grind[J06],by rw[w,X05],λj a=>?_,λj a=>?_,λB A=>y B λj z F a=>?_⟩
  ·simp only[List.mem_cons,not_or]at a
   rw[n j a.2,D7 _ _ _ g,if_neg a.1]
  ·by_cases hr:j∈r
   ·exact x j hr
   ·rcases List.mem_cons.1 a with rfl|a
    ·refine⟨c,ty,cs',?_,f,m⟩
     rw[n j hr,D7 _ _ _ g,if_pos rfl]
    ·exact absurd a hr
  grind[D7]
theorem B0n(g:St):∀(is:List Nat) (ow:List Own),(∀ i∈is,∃ f e sz by_ nn k c a xs,nth ow i=some ⟨f,.live e sz by_ nn k⟩/\nth g.ow i=some ⟨c,.live e sz by_ a xs⟩/\(nn=true->a=true)) ->
  ∀ {K:List (List (List Value))->Prop},U0g is g K->∃ os,os.length=is.length/\K os/\∃ d,(∀ l,K06 is os ow l=l d)/\(∀ i,i ∉ is->nth d i=nth ow i) /\
   (∀ i∈is,∃ f e sz by_ nn c a xs,nth d i=some ⟨f,.live e sz by_ nn xs⟩/\nth g.ow i=some ⟨c,.live e sz by_ a xs⟩/\(nn=true->a=true)) /\
   (∀ i,(nth d i).map (·.stamp)=(nth ow i).map (·.stamp))
 | [],ow,_,K,h=>⟨[],rfl,h,ow,λ_=>rfl,λ_ _=>rfl,by simp,λ_=>rfl⟩
 |i::r,ow,w,K,h=>by
  obtain⟨f,e,sz,by_,nn,k,c,a,xs,p,q,v⟩:=w i mS
  simp only[U0g,q]at h
  have m:=a02 p
  have x:∀ j∈r,∃ C o u n t k c a D,nth (F00 ow i ⟨f,.live e sz by_ nn xs⟩) j=some ⟨C,.live o u n t k⟩/\nth g.ow j=some ⟨c,.live o u n a D⟩/\(t=true->a=true):=λj b=>by
   rw[D7 _ _ _ m]
   grind
  obtain⟨os,y,z,d,A,s,B,E⟩:=B0n g r _ x h
  refine⟨xs::os,by simp[y],z,d,λl=>by simp only[K06,p,A],λj b=>?_,λj b=>?_,λj=>?_⟩
  ·simp only[List.mem_cons,not_or]at b
   rw[s j b.2,D7 _ _ _ m,if_neg b.1]
  ·by_cases hr:j∈r
   ·exact B j hr
   ·rcases List.mem_cons.1 b with rfl|b
    ·refine⟨f,e,sz,by_,nn,c,a,xs,?_,q,v⟩
     rw[s j hr,D7 _ _ _ m,if_pos rfl]
    ·exact absurd b hr
  grind[D7]
theorem D08{A:Ann}{m e:St}:∀(i:Nat) (bx c:List BSt),g0c A m e i bx c->∀ k b,nth bx k=some b ->
  (i+k∈A.boxes/\∃ cs ty cs',b = .live cs ty/\nth c k=some (.live cs' ty)/\ShC e cs cs')∨(i+k ∉ A.boxes/\nth c k=some b/\j0m A.owns b=true)
 |i,[],_,_,k,b,a=>by cases k<;>cases a
 |i,x::r,[],h,_,_,_=>by cases h
 |i,x::r,y::f,h,k,b,a=>by
  simp only[g0c]at h
  split at h
  ·rename_i d
   split at h
   ·rename_i cs ty cs' n
    split at h
    ·rename_i g j
     have:=Nat.eq_of_beq_eq_true g
     subst this
     cases k with
     |zero=>cases a;exact .inl ⟨(B04 _ _).1 d,cs,ty,cs',rfl,rfl,E07 _ _ j⟩
     |succ k=>have:=D08 (i+1) r f h k b a;rwa [show i+1+k=i+(k+1) from by omega]at this
    ·exact h.elim
   ·exact h.elim
  ·rename_i d
   split at h
   ·rename_i l
    obtain⟨rfl,h⟩:=h
    cases k with
    |zero=>cases a;exact .inr ⟨D07 d,rfl,l⟩
    |succ k=>have:=D08 (i+1) r f h k b a;rwa [show i+1+k=i+(k+1) from by omega]at this
   ·exact h.elim
theorem E08{A:Ann}:∀(i:Nat) (ow f:List Own),h0c A i ow f->∀ k b,nth ow k=some b ->
  (i+k∈A.owns/\∃ g e sz by_ nn n j d xs,b=⟨g,.live e sz by_ nn n⟩/\nth f k=some ⟨j,.live e sz by_ d xs⟩/\(nn=true->d=true)/\(i+k∈A.kept->g=j))∨(i+k ∉ A.owns/\nth f k=some b)
 |i,[],_,_,k,b,a=>by cases k<;>cases a
 |i,x::r,[],h,_,_,_=>by cases h
 |i,x::r,y::m,h,k,b,a=>by
  simp only[h0c]at h
  split at h
  ·rename_i c
   split at h
   ·rename_i g e sz by_ nn n j u v t d xs
    split at h
    ·rename_i o p q s l
     have:=Nat.eq_of_beq_eq_true o
     subst this
     have:=Nat.eq_of_beq_eq_true p
     subst this
     have:=Nat.eq_of_beq_eq_true q
     subst this
     cases k with
     |zero=>cases a;exact .inl ⟨(B04 _ _).1 c,_,_,_,_,_,_,_,_,_,rfl,rfl,(λh=>by subst h;exact s),λh=>by rw[show E09 i A.kept=true from(B04 _ _).2 h]at l;exact Nat.eq_of_beq_eq_true l⟩
     |succ k=>have:=E08 (i+1) r m h k b a;rwa [show i+1+k=i+(k+1) from by omega]at this
    ·exact h.elim
   ·exact h.elim
  ·rename_i c
   obtain⟨rfl,h⟩:=h
   cases k with
   |zero=>cases a;exact .inr ⟨D07 c,rfl⟩
   |succ k=>have:=E08 (i+1) r m h k b a;rwa [show i+1+k=i+(k+1) from by omega]at this
def k0b(A:Ann)(st:St):AV->Prop
 | .val _ | .hel _ _ _ _ | .dead=>True
 | .agg cs=>q0n cs=true
 | .box i _=>i<st.bx.length
 | .own i k=>(i ∉ A.owns∨i∈A.kept)/\stamp st i=some k
 | .oel _ _ _ _ _=>False
theorem C0n{st:St}{av:AV}{i off:Nat}(h:rdA st av = .box i off):i<st.bx.length:=by
 cases av with
 |box j o =>
  simp only[rdA]at h
  split at h
  all_goals simp_all[a02]
 |own j k =>
  grind[rdA]
 |oel j s idx sz k =>
  grind[rdA]
 |_=>cases h
theorem u0c{st:St}{av:AV}{i k:Nat}(h:rdA st av = .own i k):stamp st i=some k:=by
 grind[s07,stamp]
theorem p0a(A:Ann)(ds:List Nat)(st:St):∀(l:List (Nat×AV)) {K:List (Nat×AV)->Prop},L06 A ds st l K->∃ a,K a/\∀ t,t ∉ ds ->
  E3 a t = .dead∨(E3 a t=rdA st (E3 l t)/\k0b A st (E3 a t))
 | [],K,h=>⟨[],h,λt _ => .inl rfl⟩
 |(j,av)::r,K,h=>by
  have put:∀ f,(f = .dead∨(f=rdA st av/\k0b A st f))->(L06 A (j::ds) st r λl=>K ((j,f)::l))->∃ a,K a/\∀ t,t ∉ ds ->
    E3 a t = .dead∨(E3 a t=rdA st (E3 ((j,av)::r) t)/\k0b A st (E3 a t)):=by
   intro f q h
   obtain⟨a,c,d⟩:=p0a A (j::ds) st r h
   refine⟨_,c,λt m=>?_⟩
   rw[Z3,Z3]
   by_cases e:j=t
   ·rw[if_pos e,if_pos e];exact q
   ·rw[if_neg e,if_neg e];exact d t λg=>by
     rcases List.mem_cons.1 g with k|k
     ·exact e k.symm
     ·exact m k
  simp only[L06]at h
  split at h
  ·rename_i g
   obtain⟨a,c,d⟩:=p0a A ds st r h
   refine⟨a,c,λt m=>?_⟩
   rw[Z3,if_neg (λe=>m (by rw[←e];exact(B04 _ _).1 g))]
   exact d t m
  ·split at h
   ·rename_i i k b
    split at h
    ·exact put _ (.inl rfl) h
    ·rename_i g
     refine put _ (.inr ⟨b.symm,?_,u0c b⟩) h
     cases c:E09 i A.owns with
     |false=>exact .inl (D07 c)
     |true =>
      cases d:E09 i A.kept with
      |true=>exact .inr ((B04 _ _).1 d)
      |false=>exact absurd d (g c)
   ·exact put _ (.inl rfl) h
   ·rename_i cs b
    split at h
    ·rename_i s
     exact put _ (.inr ⟨b.symm,s⟩) h
    ·exact put _ (.inl rfl) h
   ·rename_i c d p
    refine put _ (.inr ⟨rfl,?_⟩) h
    cases b:rdA st av with
    |own i k=>exact absurd b (c i k)
    |oel i n idx sz k=>exact absurd b (d i n idx sz k)
    |agg cs=>exact absurd b (p cs)
    |box i o=>exact C0n b
    |val v=>trivial
    |hel n idx sz k=>trivial
    |dead=>trivial
def u0k(st:St)(t:Nat)(av:AV):Prop :=
 av = .dead∨(∃ i k,av = .own i k/\stamp st i=some k/\rdA st (E3 st.fr t) = .own i k)∨(∃ i o,av = .box i o/\i<st.bx.length/\rdA st (E3 st.fr t) = .box i o)
theorem q0a(A:Ann)(st:St):∀(l:List Nat) (acc:List (Nat×AV)) {K:List (Nat×AV)->Prop},N09 A st l acc K->(∀ p∈acc,u0k st p.1 p.2) ->
  ∃ a,K a/\(∀ p∈a,p.1∈l∨p∈acc)/\(∀ p∈a,u0k st p.1 p.2)/\(∀ t∈l,t ∉ A.vars->∃ av,(t,av)∈a)/\(∀ p∈acc,p∈a)
 | [],acc,K,h,f=>⟨acc,h,λp c => .inr c,f,by simp,λ_ h=>h⟩
 |d::r,acc,K,h,f=>by
  have put:∀ e,u0k st d e->N09 A st r ((d,e)::acc) K->∃ a,K a/\(∀ p∈a,p.1∈d::r∨p∈acc)/\(∀ p∈a,u0k st p.1 p.2)/\(∀ t∈d::r,t ∉ A.vars->∃ av,(t,av)∈a)/\(∀ p∈acc,p∈a):=by
   intro e s h
   obtain⟨a,g,j,m,q,n⟩:=q0a A st r _ h (λp c=>by
    grind)
   grind
  simp only[N09]at h
  split at h
  ·rename_i u
   obtain⟨a,g,j,m,q,n⟩:=q0a A st r _ h f
   refine⟨a,g,λp c=>(j p c).imp (mC _) id,m,λt v w=>?_,n⟩
   grind[absurd,B04]
  ·split at h
   ·rename_i i k b
    exact put _ (.inr (.inl ⟨i,k,rfl,u0c b,b⟩)) h
   ·rename_i i o b
    exact put _ (.inr (.inr ⟨i,o,rfl,C0n b,b⟩)) h
   ·exact put _ (.inl rfl) h
theorem Q0e:∀(b a:List (Nat×AV)) (t:Nat),(∃ av,(t,av)∈b/\E3 (b++a) t=av)∨((∀ av,(t,av) ∉ b)/\E3 (b++a) t=E3 a t)
 | [],a,t => .inr ⟨by simp,rfl⟩
 |(f,av)::r,a,t=>by
  simp only[List.cons_append]
  rw[Z3]
  by_cases e:f=t
  ·grind
  ·rw[if_neg e]
   rcases Q0e r a t with⟨g,c,d⟩|⟨c,d⟩
   all_goals grind
theorem R0e{c e:St}:∀(b:List (Nat×AV)),g0d c e b=true->∀ t av,(t,av)∈b->(∀ i k,av = .own i k->∃ a,rdA e (E3 e.fr t) = .own i a)/\(∀ i o,av = .box i o->rdA e (E3 e.fr t) = .box i o)
 | [],_,t,av,h=>by cases h
 |(f,x)::r,g,t,av,h=>by
  have d:g0d c e r=true/\(∀ i k,x = .own i k->∃ a,rdA e (E3 e.fr f) = .own i a)/\(∀ i o,x = .box i o->rdA e (E3 e.fr f) = .box i o):=by
   simp only[g0d]at g
   grind[Nat.eq_of_beq_eq_true,absurd]
  rcases List.mem_cons.1 h with h|h
  ·cases h;exact d.2
  ·exact R0e r d.1 t av h
theorem r0a{fr:List (Nat×AV)}:∀(a:List (Nat×AV)),V0g fr a=O0o a->∀ t,E3 a t = .dead∨E3 fr t=E3 a t
 | [],_,t => .inl rfl
 |(b,av)::r,h,t=>by
  rw[Z3]
  simp only[V0g,O0o]at h
  cases hd:i0m av with
  |true =>
   rw[hd]at h
   by_cases e:b=t
   ·rw[if_pos e]
    left
    cases av<;>first|rfl|cases hd
   ·rw[if_neg e]
    exact r0a r h t
  |false =>
   rw[hd]at h
   simp only[List.cons.injEq]at h
   by_cases e:b=t
   ·grind
   ·rw[if_neg e]
    exact r0a r h.2 t
theorem v0c{e l:St}{be:Nat->Nat}{oe:Nat->Value}:∀ {d cs':List F5} {vs:List Value},EqC e d cs'->D05 (λj k=>∃ c,stamp l j=some c/\k<=c) d->Z1 e oe cs' vs->Z1 l oe d vs
 | [],[],[],_,_,_=>trivial
 | .val v::r,.val q::o,x::vs,h,a,g=>⟨by rw[show x=q from g.1,h.1];rfl,v0c (be:=be) h.2 a g.2⟩
 | .own i k::r,.own j s::o,x::vs,h,a,g=>by
  obtain⟨n,⟨b,f⟩,h⟩:=h
  subst n
  obtain⟨⟨c,s1,s2⟩,a⟩:=a
  refine⟨⟨c,s1,s2,λ_=>?_⟩,v0c (be:=be) h a g.2⟩
  obtain⟨_,m⟩:=j0b f
  subst m
  obtain⟨t,p,u,w⟩:=g.1
  rw[u0c f]at p
  grind
 | [],_::_,_,h,_,_=>h.elim
 | .val _::_,[],_,h,_,_=>h.elim
 | .own _ _::_,[],_,h,_,_=>h.elim
 | .val _::_,.own _ _::_,_,h,_,_=>h.elim
 | .own _ _::_,.val _::_,_,h,_,_=>h.elim
 |_,_::_,[],_,_,g=>g.elim
 |_,[],_::_,_,_,g=>g.elim
theorem F07{os:List Nat}{e c:St}{oe:Nat->Value}(d:∀ j,j ∉ os->∀ a,stamp c j=some a->stamp e j=some a):∀ {cs:List F5} {vs:List Value},P0a os cs=true ->
  D05 (λj k=>∃ a,stamp c j=some a/\k<=a) cs->Z1 e oe cs vs->Z1 c oe cs vs
 | [],[],_,_,_=>trivial
 | .val v::r,x::vs,h,b,g=>⟨g.1,F07 d h b g.2⟩
 | .own i k::r,x::vs,h,b,g=>by
  simp only[P0a]at h
  split at h
  ·cases h
  ·rename_i l
   obtain⟨⟨a,s1,s2⟩,b⟩:=b
   refine⟨⟨a,s1,s2,λf=>?_⟩,F07 d h b g.2⟩
   obtain⟨m,n,o,p⟩:=g.1
   grind[D07]
 | [],_::_,_,_,g=>g.elim
 |_::_,[],_,_,g=>g.elim
section
variable {P:Program} {h0:Hp} {w0:World} {be:Nat->Nat} {oe:Nat->Value} {H:Hp} {h:Hp} {a:Act} {w:World}
theorem w0q{A:Ann}{e l:St}(c:Sim P h0 w0 be oe H e h a w)(N:e.n=l.n)
  (I:∀ i b,nth l.bx i=some b->(∃ C ty cs',b = .live C ty/\nth e.bx i=some (.live cs' ty)/\EqC e C cs')∨(nth e.bx i=some b/\j0m A.owns b=true))
  (O:∀ i o,nth l.ow i=some o->(∃ c t sz by_ nn B q xs,o=⟨c,.live t sz by_ nn xs⟩/\nth e.ow i=some ⟨B,.live t sz by_ q xs⟩/\(nn=true->q=true))/\i∈A.owns∨(nth e.ow i=some o/\i ∉ A.owns))
  (G:∀ i cs ty,nth l.bx i=some (.live cs ty)->D05 (λj k=>∃ c,stamp l j=some c/\k<=c) cs)
  (hf:∀ t,D2 l be oe (E3 l.fr t) (a.tmps.getD t undef)):Sim P h0 w0 be oe H l h a w:=by
 have Q:∀ j,j ∉ A.owns->∀ c,stamp l j=some c->stamp e j=some c:=λj s m Z=>by
  grind[stamp,nth,absurd]
 have E:∀ i cs ty,nth l.bx i=some (.live cs ty)->∃ cs',nth e.bx i=some (.live cs' ty):=λi cs ty f=>by
  grind
 have D:∀ i m t sz by_ nn xs,nth l.ow i=some ⟨m,.live t sz by_ nn xs⟩->∃ B q,nth e.ow i=some ⟨B,.live t sz by_ q xs⟩/\(nn=true->q=true):=λi m t sz by_ nn xs f=>by
  grind
 refine⟨c.mv,c.sub,λi cs ty f=>?_,λi b f=>?_,λi m t sz by_ nn xs f=>?_,λi m v f=>?_,λi j cs ty cs' U f s=>?_,λi j m t sz by_ nn xs s1 T S L R W g f s=>?_,λi cs ty j m t sz by_ nn xs f s=>?_,c.dfr,by rw[c.siz,N],hf⟩
 ·rcases I i _ f with⟨C,V,cs',x,d,p⟩|⟨d,p⟩
  ·cases x
   obtain⟨y,vs,z,F⟩:=c.box i cs' ty d
   exact⟨y,vs,v0c (be:=be) p (G i _ _ f) z,F⟩
  ·obtain⟨y,vs,z,F⟩:=c.box i cs ty d
   exact⟨y,vs,F07 Q p (G i _ _ f) z,F⟩
 ·rcases I i _ f with⟨C,V,cs',x,d,p⟩|⟨d,p⟩
  ·cases x
  ·exact c.pub i b d
 ·obtain⟨B,q,d,p⟩:=D i _ _ _ _ _ _ f
  obtain⟨y,z⟩:=c.own i _ _ _ _ _ _ d
  refine⟨y,z.imp (λ⟨J,K,X⟩=>⟨J,K,?_⟩) id⟩
  grind
 ·rcases O i _ f with⟨⟨s1,T,S,L,R,B,q,W,x,d,p⟩,_⟩|⟨d,_⟩
  ·cases x
  ·exact c.frz i m v d
 ·obtain⟨M,u⟩:=E i cs ty f
  obtain⟨Y,d⟩:=E j cs' U s
  exact c.bb i j _ _ _ _ u d
 ·obtain⟨_,_,u,_⟩:=D i _ _ _ _ _ _ f
  obtain⟨_,_,d,_⟩:=D j _ _ _ _ _ _ s
  exact c.oo i j _ _ _ _ _ _ _ _ _ _ _ _ g u d
 ·obtain⟨M,u⟩:=E i cs ty f
  obtain⟨_,_,d,_⟩:=D j _ _ _ _ _ _ s
  exact c.bo i _ _ j _ _ _ _ _ _ u d
end
section
variable {P:Program} {h0:Hp} {w0:World} {be:Nat->Nat} {oe:Nat->Value} {H:Hp} {st:St} {h:Hp} {a:Act} {w:World}
theorem x0q(b:Sim P h0 w0 be oe H st h a w):∀ i cs ty,nth st.bx i=some (.live cs ty)->D05 (λj k=>∃ b,stamp st j=some b/\k<=b) cs:=by
 intro i cs ty l
 obtain⟨_,vs,g,_⟩:=b.box i cs ty l
 have:∀(cs:List F5) (vs:List Value),Z1 st oe cs vs->D05 (λj k=>∃ b,stamp st j=some b/\k<=b) cs:=by
  intro cs
  induction cs with
  |nil=>intro vs _;trivial
  |cons c r d =>
   intro vs g
   cases vs with
   |nil=>exact g.elim
   |cons v vs =>
    cases c with
    |val x=>exact d vs g.2
    |own j k =>
     obtain⟨m,e,f,_⟩:=g.1
     exact⟨⟨m,e,f⟩,d vs g.2⟩
 exact this cs vs g
theorem v0k(p:Nat->Prop)(h:∃ n,p n):∃ n,p n/\∀ m,p m->n<=m:=by
 obtain⟨n,a⟩:=h
 induction n using Nat.strongRecOn with
 |_ n b =>
  grind
theorem D0n:∀(a b:List Value),P0r a b=true->a.length=b.length
 | [],[],_=>rfl
 |_::r,_::c,h=>by simp[D0n r c h]
 | [],_::_,h=>by cases h
 |_::_,[],h=>by cases h
theorem v0t{A:Ann}{ds:List Nat}{st e m:St}{f l:List (Nat×AV)}{y:List Value}{av1:∀ t,(E3 (f0c A.vars y (f++l)) t=E3 (f++l) t/\t ∉ A.vars)∨(∃ v,E3 (f0c A.vars y (f++l)) t = .val v/\rdA e (E3 e.fr t) = .val v)}
  (J:Sim P h0 w0 be oe H e h a w) (O:m.fr=f0c A.vars y (f++l)) (C:m.bx.length=st.bx.length) (D:∀ i,stamp m i=stamp st i)
  (ad:∀ i k,(i ∉ A.owns∨i∈A.kept)->stamp st i=some k->stamp e i=stamp m i)
  (aa:∀ p∈f,p.1∈ds) (K:∀ p∈f,u0k st p.1 p.2) (ab:∀ t∈ds,t ∉ A.vars->∃ av,(t,av)∈f)
  (s1:∀ t,t ∉ ds->k0b A st (E3 l t)) (S:∀ t av,(t,av)∈f->(∀ i k,av = .own i k->∃ F,rdA e (E3 e.fr t) = .own i F)/\(∀ i o,av = .box i o->rdA e (E3 e.fr t) = .box i o))
  (T:∀ t,E3 l t = .dead∨E3 e.fr t=E3 l t):∀ t,D2 m be oe (E3 m.fr t) (a.tmps.getD t undef):=by
 intro t
 rw[O]
 have b:=J.fr t
 have n:=J.rdA b
 rcases av1 t with⟨q,af⟩|⟨v,q,L⟩
 ·rw[q]
  rcases Q0e f l t with⟨av,s,u⟩|⟨s,u⟩
  ·rw[u]
   obtain⟨W,X⟩:=S t av s
   rcases K _ s with rfl|⟨i,k,rfl,d,_⟩|⟨i,o,rfl,M,_⟩
   ·trivial
   ·obtain⟨F,B⟩:=W i k rfl
    rw[B]at n
    refine⟨k,by rw[D,d],Nat.le_refl _,λ_=>?_⟩
    obtain⟨z,aj,Z,ah,ak,Q⟩:=s07 B
    exact n.own_cur Q
   ·rw[X i o rfl]at n
    exact⟨by rw[C];exact M,n.2⟩
  ·rw[u]
   have U:t ∉ ds:=λac=>by
    grind
   rcases T t with N|z
   ·rw[N];trivial
   have d:=s1 t U
   rw[z]at b
   cases hl:E3 l t with
   |val v=>rw[hl]at b;exact b
   |hel Y idx sz k=>rw[hl]at b;exact b
   |dead=>trivial
   |agg cs =>
    rw[hl]at b d
    obtain⟨vs,G,I⟩:=b
    refine⟨vs,G,?_⟩
    have:∀(cs:List F5) (vs:List Value),q0n cs=true->Z1 e oe cs vs->Z1 m oe cs vs:=by
     intro cs
     induction cs with
     |nil=>intro vs _ g;cases vs<;>exact g
     |cons c r V =>
      intro vs E g
      cases vs with
      |nil=>exact g.elim
      |cons v vs =>
       cases c with
       |val x=>exact⟨g.1,V vs E g.2⟩
       |own j k=>cases E
    exact this cs vs d I
   |box i o =>
    rw[hl]at b d
    exact⟨by rw[C];exact d,b.2⟩
   |own i k =>
    rw[hl]at b d
    obtain⟨ae,R⟩:=d
    obtain⟨ai,G,I,ag⟩:=b
    refine⟨k,by rw[D,R],Nat.le_refl _,λ_=>?_⟩
    grind
   |oel i Y idx sz k=>rw[hl]at d;exact d.elim
 ·rw[q]
  rw[L]at n
  exact n
theorem o0d:∀(l:List (Nat×Nat×Nat×Nat)) (st:St) (oe:Nat->Value) {K:St->Prop},Sim P h0 w0 be oe H st h a w->R0j l st K->∃ st' oe',K st'/\Sim P h0 w0 be oe' H st' h a w
 | [],st,oe,K,d,c=>⟨st,oe,c,d⟩
 |(t,e,sz,by_)::r,⟨n,fr,bx,ow⟩,oe,K,d,c=>by
  simp only[R0j]at c
  split at c
  ·rename_i j p
   rw[K0a]at c
   have f:=d.rdA (d.fr t)
   have k:a.tmps.getD t undef = .slice none 0 0:=by
    have:rdA ⟨n,fr,bx,ow⟩ (E3 fr t) = .val (.slice none 0 0):=j
    rw[show rdA ⟨n,fr,bx,ow⟩ (E3 (St.mk n fr bx ow).fr t) = .val (.slice none 0 0) from this]at f
    exact f
   have g:N06 h H (.slice none 0 0) e sz false []:=⟨by simp,.inl ⟨rfl,rfl,rfl⟩⟩
   obtain⟨s1,m⟩:=d.newOwn (by_:=by_) (λb o i=>i) (T2.refl d.mv.vis) g (by simp[Value.ownBlock])
   refine o0d r _ _ (s1.refr (fr:=(t,.own ow.length 0)::fr) λu=>?_) c
   rw[Z3]
   by_cases eu:t=u
   ·subst eu
    rw[if_pos rfl,k]
    exact⟨0,by simp[stamp,M02],Nat.le_refl _,λ_=>by simp⟩
   ·rw[if_neg eu]
    exact s1.fr u
  ·exact c.elim
theorem l0b:∀(l:List (Nat×Nat×Nat×Nat×Nat)) (st:St) (oe:Nat->Value) {K:St->Prop},Sim P h0 w0 be oe H st h a w->v0e l st K->∃ st' oe',K st'/\Sim P h0 w0 be oe' H st' h a w
 | [],st,oe,K,g,f=>⟨st,oe,f,g⟩
 |(i,k,e,sz,by_)::r,⟨n,fr,bx,ow⟩,oe,K,g,f=>by
  simp only[v0e]at f
  split at f
  rotate_left
  ·exact f.elim
  rename_i cs ty B
  split at f
  rotate_left
  ·exact f.elim
  rename_i N
  rw[K0a]at f
  have J:N06 h H (.slice none 0 0) e sz false []:=⟨by simp,.inl ⟨rfl,rfl,rfl⟩⟩
  obtain⟨s1,W⟩:=g.newOwn (by_:=by_) (λb o L=>L) (T2.refl g.mv.vis) J (by simp[Value.ownBlock])
  have A:=a02 B
  refine l0b r _ (λj=>if j=ow.length then .slice none 0 0 else oe j) ?_ f
  have q:S6 ⟨n,fr,bx,ow ++ [⟨0,.live e sz by_ false []⟩]⟩ be (λj=>if j=ow.length then .slice none 0 0 else oe j) ⟨n,fr,F00 bx i (.live (F00 cs k (.own ow.length 0)) ty),ow ++ [⟨0,.live e sz by_ false []⟩]⟩ be (λj=>if j=ow.length then .slice none 0 0 else oe j) :=
   ⟨by simp[X05],λ_ _=>rfl,λi g h=>⟨g,h,Nat.le_refl _,λ_=>rfl⟩⟩
  have u:∀ j cs' m,nth (F00 bx i (.live (F00 cs k (.own ow.length 0)) ty)) j=some (.live cs' m)->∃ D,nth bx j=some (.live D m):=λj cs' m d=>by
   grind[D7]
  refine⟨s1.mv,s1.sub,λj cs' m d=>?_,λj b d=>?_,s1.own,s1.frz,λj x S Z T aa F G=>?_,s1.oo,λj cs' m x X V Y R nn xs d M=>?_,s1.dfr,s1.siz,λt=>(s1.fr t).grow q⟩
  ·rw[D7 _ _ _ A]at d
   split at d
   ·rename_i E
    subst E
    cases d
    obtain⟨y,vs,p,z⟩:=s1.box j cs ty B
    refine⟨y,vs,?_,z⟩
    obtain⟨v,ab,Q⟩:=p.nth N
    have O:v = .slice none 0 0:=Q
    have:=(p.grow q).upd (k:=k) (c := .own ow.length 0) (v:=v) (by rw[O];exact⟨0,by simp[stamp,M02],Nat.le_refl _,λ_=>by simp⟩)
    rwa [show vs.set k v=vs from by
     grind[List.getElem?_eq_some_iff,List.set_getElem_self]]at this
   ·obtain⟨y,vs,p,z⟩:=s1.box j cs' m d
    exact⟨y,vs,p.grow q,z⟩
  ·rw[D7 _ _ _ A]at d
   split at d
   ·cases d
   ·exact s1.pub j b d
  ·obtain⟨C,s⟩:=u _ _ _ F
   obtain⟨U,I⟩:=u _ _ _ G
   exact s1.bb j x _ _ _ _ s I
  ·obtain⟨C,s⟩:=u _ _ _ d
   exact s1.bo j _ _ x _ _ _ _ _ _ s M
theorem s0a:∀(l:List Nat) {st:St} {h:Hp} {K:St->Hp->Prop},Sim P h0 w0 be oe H st h a w->S0j l st h K->∃ st' h',K st' h'/\Sim P h0 w0 be oe H st' h' a w
 | [],st,h,K,b,c=>⟨st,h,c,b⟩
 |t::r,st,h,K,b,c=>by
  simp only[S0j]at c
  obtain⟨⟨n,fr,bx,ow⟩,h',d,s1,_⟩:=m03 b (b.rdA (b.fr t)) c
  dsimp only at d
  split at d
  ·refine s0a r (s1.refr (fr:=(t,.val (a.tmps.getD t undef))::fr) λu=>?_) d
   rw[Z3]
   by_cases eu:t=u
   ·subst eu
    rw[if_pos rfl]
    rfl
   ·rw[if_neg eu]
    exact s1.fr u
  ·exact d.elim
set_option maxHeartbeats 1000000 in
theorem q0m{Y:Code}{O:List Nat}{Q:Ex->St->Hp->Prop}
  (C:∀(Q:Ex->St->Hp->Prop) (st:St) (h:Hp) (a:Act) (w:World) (be:Nat->Nat) (oe:Nat->Value) (H:Hp),Sim P h0 w0 be oe H st h a w->ev P Y Q st h->Y.wp P (Q0i P h0 w0 Q) a w)
  (f:Sim P h0 w0 be oe H st h a w) (g:r0n (λQ=>ev P Y Q) O Q st h):(Code.loop Y).wp P (Q0i P h0 w0 Q) a w:=by
 obtain⟨A,aN,μ,g⟩:=g
 obtain⟨st,oe,g,f⟩:=o0d _ _ _ f g
 obtain⟨st,oe,g,f⟩:=l0b _ _ _ f g
 obtain⟨st,h,g,f⟩:=s0a _ f g
 unfold h0m at g
 obtain⟨D,bn,g,bo⟩:=r0c st _ g
 obtain⟨ac,g,aD⟩:=y0n st _ g
 obtain⟨ab,a9,⟨Z,g⟩,aE⟩:=z0n st _ g
 rw[j0h]at g
 obtain⟨E,g,aR,aB,aC,_⟩:=q0a A st _ _ g (by simp)
 obtain⟨V,a3,s1⟩:=p0a A O st _ g
 have aS:∀ p∈E,p.1∈O:=λp R=>(aR p R).resolve_right (by simp)
 have bA:∀ t,t ∉ O->k0b A st (E3 V t):=λt bj=>by
  rcases s1 t bj with h|⟨_,h⟩
  ·rw[h];trivial
  ·exact h
 have bb:=λ(vs:List Value) (ae:vs.length=(D++ac).length) (os:List (List (List Value))) (ao:os.length=ab.length)=>i0b _ (h0b _ a3 vs ae) os ao
 let z:List Value->List BSt->List Own->St:=λD bx ow=>⟨st.n,f0c A.vars D (E++V),bx,ow⟩
 let Inv:Nat->Act->World->Prop:=λm a w=>∃(vs:List Value) (os:List (List (List Value))) (ag az:List Value) (bx:List BSt) (ow:List Own) (h':Hp) (be:Nat->Nat) (oe:Nat->Value) (H:Hp),
  vs.length=(D++ac).length/\os.length=ab.length/\vs=ag++az/\ag.length=A.vars.length/\(∀ W,J06 A.boxes az st.bx W=W bx)/\(∀ W,K06 A.owns os st.ow W=W ow) /\
   atI A aN μ m vs os h'/\Sim P h0 w0 be oe H (z ag bx ow) h' a w
 have aO:=x0q f
 have a1:∀ m a w,Inv m a w->Y.wp P (Exit.then (λa w=>∃ T,Inv T a w/\T<m) (Q0i P h0 w0 Q)) a w:=by
  rintro m a w ⟨vs,os,ag,az,bx,ow,h',be,oe,H,ae,ao,rfl,bl,bc,bf,Z,aZ⟩
  have S:=f0q (bb _ ae os ao) Z
  rw[←bl,o0a,bc,bf]at S
  refine Code.wp_mono (λe ai aA R=>?_) (C _ _ _ _ _ _ _ _ aZ S)
  cases e with
  |normal =>
   obtain⟨e,l,aP,bv,aM,I,s2⟩:=R
   dsimp only at I
   obtain⟨e,l,I,s2⟩:=s0a _ s2 I
   unfold g0q at I
   split at I
   ·rename_i a2 bd
    obtain⟨ba,bi,bh,s⟩:=I
    have J:=Nat.eq_of_beq_eq_true a2
    have B:=D08 0 _ _ bi
    have af:=E08 0 _ _ bh
    simp only[Nat.zero_add]at B af
    unfold h0m at s
    obtain⟨ad,aG,s,bp⟩:=r0c e _ s
    have a6:∀(is:List Nat) {K:List Value->Prop},w0e is e K->(∀ i∈is,i∈A.boxes)->(∀ i∈is,(nth st.bx i).isSome=true) ->
      ∀ i∈is,∃ cs ty cs',nth st.bx i=some (.live cs ty)/\nth e.bx i=some (.live cs' ty)/\ShC e cs cs':=by
     intro is K _ bF ap i d
     cases hb:nth st.bx i with
     |none=>have:=ap i d;rw[hb]at this;cases this
     |some b =>
      grind
    have ap:∀ i∈A.boxes,(nth st.bx i).isSome=true:=by
     have aj:∀(is:List Nat) (vs:List Value) (bx:List BSt),(J06 is vs bx λ_=>True)->∀ i∈is,(nth bx i).isSome=true:=by
      intro is
      induction is with
      |nil=>intro vs bx _ i d;cases d
      |cons j r C =>
       intro vs bx u i d
       simp only[J06]at u
       split at u
       ·rename_i cs ty J
        rcases List.mem_cons.1 d with rfl|d
        ·rw[J];rfl
        ·have a4:∀(cs:List F5) (vs:List Value) (K:List F5->List Value->Prop),p04 cs vs K->∃ a b,K a b:=by
          intro cs
          induction cs with
          |nil=>intro vs K h;exact⟨_,_,h⟩
          |cons c r C =>
           intro vs K h
           cases c with
           |val v =>
            cases vs with
            |nil=>exact h.elim
            |cons bG vs=>obtain⟨a,b,h⟩:=C _ _ h;exact⟨_,_,h⟩
           |own i k=>obtain⟨a,b,h⟩:=C _ _ h;exact⟨_,_,h⟩
         obtain⟨a,b,u⟩:=a4 _ _ _ u
         have:=C _ _ u i d
         rw[D7 _ _ _ (a02 J)]at this
         grind
       ·exact u.elim
     exact aj A.boxes ac st.bx (by rw[aD];trivial)
    have bg:∀ i∈A.owns,(nth st.ow i).isSome=true:=by
     have aj:∀(is:List Nat) (vs:List (List (List Value))) (ow:List Own),(K06 is vs ow λ_=>True)->∀ i∈is,(nth ow i).isSome=true:=by
      intro is
      induction is with
      |nil=>intro vs bx _ i d;cases d
      |cons j r C =>
       intro vs ow u i d
       cases vs with
       |nil=>exact u.elim
       |cons x vs =>
        simp only[K06]at u
        split at u
        ·rename_i J
         rcases List.mem_cons.1 d with rfl|d
         ·rw[J];rfl
         ·have:=C _ _ u i d
          rw[D7 _ _ _ (a02 J)]at this
          grind
        ·exact u.elim
     exact aj A.owns ab st.ow (by rw[aE];trivial)
    obtain⟨aL,s,N,aK,bB,bC,bD,bE⟩:=A0n e A.boxes st.bx (a6 _ s (λ_ h=>h) ap) s
    have a7:∀ i∈A.owns,∃ f F sz by_ nn ah U L xs,nth st.ow i=some ⟨f,.live F sz by_ nn ah⟩/\nth e.ow i=some ⟨U,.live F sz by_ L xs⟩/\(nn=true->L=true):=λi d=>by
     cases hb:nth st.ow i with
     |none=>have:=bg i d;rw[hb]at this;cases this
     |some b =>
      rcases af i b hb with⟨_,f,F,sz,by_,nn,ah,U,L,xs,rfl,l,ak,_⟩|⟨q,_⟩
      ·exact⟨f,F,sz,by_,nn,ah,U,L,xs,rfl,l,ak⟩
      ·exact absurd d q
    obtain⟨bz,br,s,M,aH,bs,bt,bu⟩:=B0n e A.owns st.ow a7 s
    split at s
    rotate_left
    ·exact s.elim
    rename_i a8
    rw[←aG,o0a,aK,aH]at s
    obtain⟨aa,aX,am⟩:=R0r s
    have aq:∀ i,stamp (z ad N M) i=stamp st i:=λi=>by
     have:=bu i
     unfold stamp
     simp only[z]
     cases q:nth M i<;>cases l:nth st.ow i<;>rw[q,l]at this<;>simp at this<;>simp[this]
    refine⟨aa,⟨ad++aL,bz,ad,aL,N,M,l,aP,bv,aM,?_,?_,rfl,aG,aK,aH,aX,?_⟩,am⟩
    ·rw[←ae];exact D0n _ _ a8
    ·rw[br]
     have:ab.length=A.owns.length:=a9
     rw[this]
    ·refine w0q (A:=A) s2 J ?_ ?_ ?_ ?_
     ·intro i b d
      by_cases y:i∈A.boxes
      ·obtain⟨aQ,ty,cs',au,aw,ax⟩:=bD i y
       have:nth N i=some b:=d
       rw[au]at this
       cases this
       exact .inl ⟨aQ,ty,cs',rfl,aw,ax⟩
      ·have:nth N i=some b:=d
       rw[bC i y]at this
       rcases B i b this with⟨q,_⟩|⟨_,l,ak⟩
       ·exact absurd q y
       ·exact .inr ⟨l,ak⟩
     ·intro i o d
      by_cases y:i∈A.owns
      ·obtain⟨aJ,F,sz,by_,nn,U,L,xs,au,aw,ax⟩:=bt i y
       have:nth M i=some o:=d
       rw[au]at this
       cases this
       exact .inl ⟨⟨aJ,F,sz,by_,nn,U,L,xs,rfl,aw,ax⟩,y⟩
      ·have:nth M i=some o:=d
       rw[bs i y]at this
       rcases af i o this with⟨q,_⟩|⟨_,l⟩
       ·exact absurd q y
       ·exact .inr ⟨l,y⟩
     ·intro i cs ty d
      have:=bE _ aO i cs ty d
      have a5:(λj k=>∃ f,stamp (z ad N M) j=some f/\k<=f)=(λj k=>∃ f,stamp st j=some f/\k<=f):=by
       funext j k;rw[aq]
      rw[a5]
      exact this
     ·refine v0t (A:=A) (ds:=O) (st:=st) (av1:=λt=>bp (E++V) t) s2 rfl bB aq ?_ aS aB aC bA (R0e E bd) (r0a _ ba)
      intro i k d al
      show stamp e i=stamp (z ad N M) i
      rw[aq i]
      cases hb:nth st.ow i with
      |none=>unfold stamp at al;rw[hb]at al;cases al
      |some b =>
       rcases af i b hb with⟨q,aJ,F,sz,by_,nn,ah,U,L,xs,rfl,l,_,aV⟩|⟨_,l⟩
       ·have:=aV (d.resolve_left (λh=>h q))
        simp[stamp,hb,l,this]
       ·unfold stamp
        rw[hb,l]
   ·exact I.elim
  |exit i=>exact R
  |ret=>exact R
  |_=>exact R
 have a0:Sim P h0 w0 be oe H (z D st.bx st.ow) h a w:=by
  refine f.refr (fr:=f0c A.vars D (E++V)) λt=>?_
  have aU:=f.fr t
  have G:=f.rdA aU
  rcases bo (E++V) t with⟨q,bm⟩|⟨v,q,l⟩
  ·rw[q]
   rcases Q0e E V t with⟨av,ay,aa⟩|⟨ay,aa⟩
   ·rw[aa]
    rcases aB _ ay with rfl|⟨i,k,rfl,_,S⟩|⟨i,o,rfl,_,S⟩
    ·trivial
    ·rw[S]at G;exact G
    ·rw[S]at G;exact G
   ·rw[aa]
    have bk:t ∉ O:=λz=>by
     obtain⟨av,y⟩:=aC t z bm
     exact ay av y
    rcases s1 t bk with h|⟨h,_⟩
    ·rw[h];trivial
    ·rw[h];exact G
  ·rw[q]
   rw[l]at G
   exact G
 obtain⟨bq,Z⟩:=e0q (μ:=μ) Z
 have aW:Inv bq a w:=⟨D++ac,ab,D,ac,st.bx,st.ow,h,be,oe,H,rfl,rfl,rfl,bn,aD,aE,Z,a0⟩
 classical
 let X:Act->World->Nat:=λa w=>if B:∃ m,Inv m a w then Classical.choose (v0k _ B)else 0
 refine wp_loop (λa w=>∃ m,Inv m a w) X ⟨_,aW⟩ λa w B=>?_
 have aY:X a w=Classical.choose (v0k _ B):=by simp only[X,dif_pos B]
 refine Code.wp_mono (λe ai aA aF=>?_) (a1 _ a w (Classical.choose_spec (v0k _ B)).1)
 cases e with
 |normal =>
  obtain⟨T,an,am⟩:=aF
  refine⟨⟨T,an⟩,?_⟩
  have ar:∃ m,Inv m ai aA:=⟨T,an⟩
  have:X ai aA=Classical.choose (v0k _ ar):=by simp only[X,dif_pos ar]
  rw[aY,this]
  exact Nat.lt_of_le_of_lt ((Classical.choose_spec (v0k _ ar)).2 T an) am
 |_=>exact aF
end
section
variable {P:Program} {h0:Hp} {w0:World} {be:Nat->Nat} {oe:Nat->Value} {H:Hp} {st:St} {h:Hp} {a:Act} {w:World}
theorem y0q(c:Code):∀(Q:Ex->St->Hp->Prop) (st:St) (h:Hp) (a:Act) (w:World) (be:Nat->Nat) (oe:Nat->Value) (H:Hp),Sim P h0 w0 be oe H st h a w->ev P c Q st h->c.wp P (Q0i P h0 w0 Q) a w:=by
 induction c with
 |skip=>exact λQ st h a w be oe H f j=>wp_skip ⟨st,h,be,oe,H,j,f⟩
 |region id ops d=>grind[R0i]
 |seq x y o p =>
  intro Q st h a w be oe H f j
  refine wp_seq (Code.wp_mono (λe a w l=>?_) (o _ _ _ _ _ _ _ _ f j))
  cases e with
  |normal=>obtain⟨st,h,be,oe,H,k,f⟩:=l;exact p _ _ _ _ _ _ _ _ f k
  |exit i=>exact l
  |ret=>exact l
  |_=>exact l
 |cond c x y o p =>
  intro Q st h a w be oe H f j
  simp only[ev]at j
  split at j
  ·rename_i b m
   have g:=f.rdO c
   rw[m]at g
   exact wp_cond_split g (λe=>o _ _ _ _ _ _ _ _ f (j.1 e)) (λe=>p _ _ _ _ _ _ _ _ f (j.2 e))
  ·exact j.elim
 |block id c n =>
  intro Q st h a w be oe H f j
  refine wp_block (Code.wp_mono (λe a w l=>?_) (n _ _ _ _ _ _ _ _ f j))
  cases e with
  |normal=>exact l
  |exit i =>
   obtain⟨st,h,be,oe,H,k,f⟩:=l
   simp only[Exit.inBlock]
   dsimp only at k
   cases m:Nat.beq i id with
   |true =>
    rw[m]at k
    rw[if_pos (Nat.eq_of_beq_eq_true m)]
    exact⟨st,h,be,oe,H,k,f⟩
   |false =>
    rw[m]at k
    rw[if_neg (Nat.ne_of_beq_eq_false m)]
    exact⟨st,h,be,oe,H,k,f⟩
  |ret=>exact l
  |_=>exact l
 |loop c n=>exact λQ st h a w be oe H f j=>q0m n f j
 |exit i=>exact λQ st h a w be oe H f j=>wp_exit ⟨st,h,be,oe,H,j,f⟩
 |ret=>exact λQ st h a w be oe H f j=>wp_ret ⟨st,h,be,oe,H,j,f⟩
 |_=>exact λQ st h a w be oe H f j=>j.elim
def c0s(tmps:Array Value):ResultVar->Sem Value
 | .tmp t=>pure (tmps.getD t undef)
 | .cell a t=>do loadVar t (←asAddr (tmps.getD a undef))
theorem t0a:∀(l:List ResultVar) (st:St) (h:Hp) {K:List Value->St->Hp->Prop},Sim P h0 w0 be oe H st h a w->k0m P l st h K ->
  ∃ vs st' h',K vs st' h'/\Sim P h0 w0 be oe H st' h' a w/\(l.mapM (c0s a.tmps)).run P w = .ok vs w
 | [],st,h,K,c,d=>⟨[],st,h,d,c,rfl⟩
 | .tmp t::r,st,h,K,c,d=>by
  obtain⟨n,f,m,s1,_⟩:=m03 c (c.rdA (c.fr t)) d
  obtain⟨vs,u,q,p,s2,s⟩:=t0a r n f s1 m
  grind[Sem.run_bind,c0s,Sem.run_pure,Result.andThen_ok]
 | .cell t ty::r,st,h,K,c,d=>by
  simp only[k0m]at d
  split at d
  ·rename_i i off s
   split at d
   ·rename_i cs I C
    have g:=c.rdA (c.fr t)
    rw[s]at g
    obtain⟨f,vs,q,z⟩:=c.box i cs I C
    obtain⟨av,v,E,F,G⟩:=R.load_row (H:=H) (b:=be i) (o:=0) (be:=be) d q (λj v A=>by simp[Hp.cell,z,A])
    obtain⟨n,f,m,s1,_⟩:=m03 c F E
    obtain⟨J,u,y,p,s2,D⟩:=t0a r n f s1 m
    refine⟨_,u,y,p,s2,?_⟩
    have B:(loadVar ty ⟨be i,off,none⟩).run P w = .ok v w:=by
     obtain⟨x,k,e⟩:=R.wpR_sound _ _ w c.mv.vis (G (λx _=>x=v) rfl)
     rw[Nat.zero_add]at k
     rw[k,e]
    have k:a.tmps.getD t undef=ptr (be i) off:=g.2
    simp only[List.mapM_cons,Sem.run_bind,c0s,k,ptr,asAddr,Sem.run_pure,Result.andThen_ok,B,D]
   ·exact d.elim
  ·exact d.elim
theorem l0h:∀(args:List Value) (i s:Nat),E3 (S0a i args) s = .dead∨E3 (S0a i args) s = .val (if i<=s then args.getD (s-i) undef else undef)
 | [],i,s => .inl rfl
 |v::r,i,s=>by
  simp only[S0a]
  rw[Z3]
  by_cases e:i=s
  ·subst e;right;simp
  ·rw[if_neg e]
   rcases l0h r (i+1) s with h'|h'
   all_goals grind
theorem T2.less{h h' H:Hp}{w d:World}(m:T2 h w H d)(c:∀ b o,h' b=some o->H b=some o):T2 h w h' d:=by
 refine⟨m.os,m.tape,m.output,m.size,m.keep,λb o a=>m.vis b o (c b o a),λb a=>?_,m.fz,m.dn⟩
 cases hc:h' b with
 |none=>exact absurd hc a
 |some o=>exact m.fresh b (by rw[c b o hc];simp)
theorem r0m{f:FuncId}{fn:Func}{args:List Value}{n:Value->Hp->Prop}(hf:P.funcs[f]?=some fn)(l:n0t P fn args h n):Tr P f args.toArray h n:=by
 refine⟨λw B=>?_⟩
 unfold n0t at l
 split at l
 ·rename_i c y
  split at l
  ·rename_i q
   have q:=Nat.le_of_ble_eq_true q
   have C:Sim P h w (λ_=>0) (λ_=>undef) h ⟨fn.ntmps,S0a 0 args,[],[]⟩ h { tmps:=args.toArray++Array.replicate (fn.ntmps-args.toArray.size) undef,defers:=[] } w:=by
    refine⟨T2.refl B,λ_ _ h=>h,(λi cs ty d=>nomatch d),(λi b d=>nomatch d),(λi a e sz by_ nn xs d=>nomatch d),(λi a v d=>nomatch d),(λi j cs ty cs' K d=>nomatch d),
     (λi j a e sz by_ nn xs G E J D F L g d=>nomatch d),(λi cs ty j a e sz by_ nn xs d=>nomatch d),rfl,by simp;omega,λa=>?_⟩
    rcases l0h args 0 a with h'|h'
    ·grind[D2,E3,S0a]
    show D2 _ _ _ (E3 (S0a 0 args) a) _
    rw[h']
    simp only[Nat.zero_le,if_true,Nat.sub_zero]
    show _=_
    simp only[Array.getD_eq_getD_getElem?]
    grind
   refine calls_of_wp hf y (Code.wp_mono (λe m p o=>?_) (y0q c _ _ _ _ _ _ _ _ C l))
   have fin:∀ {st h' be oe H},k0m P fn.results.toList st h' (λvs _ h=>n (W0j vs) h)->Sim P h w be oe H st h' m p->m.defers = []/\∃ v,(results fn m.tmps).run P p = .ok v p/\∃ s h',Ending.returned v = .returned s/\n s h'/\T2 h w h' p:=by
    intro st h' be oe H k a
    obtain⟨vs,I,u,t,s2,z⟩:=t0a _ _ _ a k
    refine⟨a.dfr,W0j vs,?_,W0j vs,u,rfl,t,s2.mv.less s2.sub⟩
    have A:results fn m.tmps=(fn.results.mapM (c0s m.tmps) >>= λvs=>pure (if h:vs.size=1 then vs[0]else .tuple vs)):=by
     unfold results
     congr 1
    rw[A,Array.mapM_eq_mapM_toList]
    simp only[Sem.run_bind,Sem.run_map,z,Result.andThen_ok,Sem.run_pure]
    cases vs with
    |nil=>rfl
    |cons x r=>cases r<;>rfl
   cases e with
   |normal=>obtain⟨st,h',be,oe,H,k,a⟩:=o;exact fin k a
   |ret=>obtain⟨st,h',be,oe,H,k,a⟩:=o;exact fin k a
   |exit i=>obtain⟨st,h',be,oe,H,k,a⟩:=o;exact k.elim
   |_=>exact o.elim
  ·exact l.elim
 ·exact l.elim
end
open Go.RowKit Go.ChangeShapes Go.WideShapes Go.ChangeAt
theorem Tr.val{P:Program}{f:FuncId}{args:Array Value}{h:Hp}{x:Value}{a:Value->Hp->Prop}(t:Tr P f args h λv h'=>v=x/\h'=h)(d:a x h):Tr P f args h a :=
 t.mono λ_ _ ⟨b,c⟩=>by rw[b,c];exact d
theorem Tr.calls{P:Program}{f:FuncId}{args:Array Value}{c:World}{x:Value}(t:Tr P f args (λb=>c.heap[b]?) λv h'=>v=x/\∀ b o,c.heap[b]?=some o->h' b=some o):
  Calls P f args c λe d=>e = .returned x/\Below c.heap.size c d/\∀ a:Addr,a.block<c.heap.size->d.frozen? a=c.frozen? a:=by
 refine(t.run c (λb o h=>h)).mono ?_
 rintro e d ⟨v,h',rfl,⟨rfl,g⟩,m⟩
 refine⟨rfl,⟨m.os,m.tape,m.output,m.size,λk i=>?_⟩,m.fz⟩
 have:c.heap[k]?=some c.heap[k]:=by simp[i]
 rw[this]
 exact m.vis _ _ (g k _ this)
theorem w64{x:Int}(a : -9223372036854775808<=x)(b:x<=9223372036854775807):IntKind.i64.wrap x=x:=by
 simp[IntKind.wrap,IntKind.signed,IntKind.bits]
 omega
theorem z0q{n:Nat}(h:n<=maxLen):n<=9223372036854775807:=by
 grind[maxLen]
def J0(x:Int):Prop := -9223372036854775808<=x/\x<=9223372036854775807
theorem F0u{x:Int}(h:(Lit.int .i64 x).wf=true):J0 x:=by
 simpa [Lit.wf,IntKind.min,IntKind.max,IntKind.signed,IntKind.bits,J0] using h
section
variable {H:Type} {enc:TypeId×Value->H} {P:Program}
theorem W09(i:laidOutB P=true){c f:World}(g:Below c.heap.size c f){m:Nat->Bool}:∀ {e:List TypeId} {vs:List Value} {ds:List (DataW H)} {b:List MemPlace},
  (∀ t∈e,P.readableRec t=true/\t<P.types.size)->DataW.TrodAll enc P c 0 (λ_=>true) true e vs ds b->(∀ p∈b,p.block<c.heap.size)->(∀ p∈b,m p.block=true) ->
  DataW.TrodAll enc P f 0 m true e vs ds b
 | [],vs,ds,b,_,h,_,_=>by
  obtain⟨rfl,rfl,rfl⟩:=trodAll_nil h
  exact rfl
 |t::e,vs,ds,b,l,h,j,k=>by
  obtain⟨v,z,d,y,p,q,rfl,rfl,rfl,n,o⟩:=trodAll_cons h
  obtain⟨u,w⟩:=l t mS
  refine⟨p,q,WideElems.Trod_stays i u w n (λx a=>g.same (j x (List.mem_append_left _ a))) (λx a=>k x (List.mem_append_left _ a)),?_,rfl⟩
  exact W09 i g (λt s=>l t (mC _ s)) o (λx a=>j x (List.mem_append_right _ a)) (λx a=>k x (List.mem_append_right _ a))
theorem H0d{f:Func}{h:ChangeSpec}{n fresh y x:Bool}{i d:World}{args:Array Value}{v:Value}{ds k:List (DataW H)}{e pa pv:List MemPlace}
  (l:DataW.Whole enc P f.params.toList h.vars n i args.toList ds k e)
  (u:∀(b:Nat) (g:Nat->Bool) (z:Bool),DataW.TrodAll enc P d b g z f.resultTypes.toList (v.resultList f.resultTypes.size) (h.fn H (ds++k)).results [])
  (o:∀ g:Nat->Bool,(∀ p∈e,g p.block=true)->DataW.TrodAll enc P d 0 g true f.params.toList args.toList (h.fn H (ds++k)).args pa)
  (w:∀ g:Nat->Bool,(∀ p∈e,g p.block=true)->DataW.TrodVars enc P d g h.vars (h.fn H (ds++k)).vars pv)
  (q:e=pa++pv) (B:i.keptBut d (·∈e)) (A:∀ a:Addr,a.block<i.heap.size->d.frozen? a=i.frozen? a)
  (C:∀(j:Nat) (t:TypeId) (r:Value),f.resultTypes[j]?=some t->(v.resultList f.resultTypes.size)[j]?=some r->Value.okWide P d .any 0 t r) :
  h.post enc P f n fresh y x i args v d:=by
 have m:=λp c=>l.lt (p:=p) c
 refine⟨ds,k,e,[],pa,pv,l,u _ _ _,o _ (λp c=>by simpa using m p c),w _ (λp c=>by simpa using m p c),World.keptBut_mono (λp c=>⟨c,.inr (by rwa [q,List.mem_append]at c)⟩) B,λ_=>?_⟩
 obtain⟨_,_,_,_,_,D,E⟩:=l
 have s:([]++pa)++pv=e:=by simp[q]
 refine⟨C,_,_,([]++pa)++pv,⟨[]++pa,pv,trodAll_append (o _ (λ_ _=>rfl)) (u _ _ _),w _ (λ_ _=>rfl),rfl,?_,?_⟩,λp c _=>by rwa [s]at c⟩
 ·intro b off c
  rw[s]at c
  rw[A _ (m _ c)]
  exact D b off c
 grind
theorem A0q{f:Func}{c:ChangeSpec}{g fresh w o:Bool}{b d:World}{args:Array Value}{ds h:List (DataW H)}{s:List MemPlace}{n:TypeId}
  (C:laidOutB P=true) (E:∀ t∈f.params.toList,P.readableRec t=true/\t<P.types.size) (m:c.vars = []) (j:c.fn H (ds++h) = { results:=[.lit (.bool true)],args:=ds })
  (k:f.resultTypes = #[n]) (l:P.underlying n=some .bool) (e:DataW.Whole enc P f.params.toList c.vars g b args.toList ds h s)
  (u:Below b.heap.size b d) (x:∀ a:Addr,a.block<b.heap.size->d.frozen? a=b.frozen? a):c.post enc P f g fresh w o b args (.bool true) d:=by
 have D:=λp y=>e.lt (p:=p) y
 have v:=e
 obtain⟨p,q,B,i,rfl,_,_⟩:=e
 rw[m]at i
 obtain⟨rfl,rfl⟩:=trodVars_none i
 refine H0d (pa:=p) (pv:=[]) v (λ_ _ _=>?_) (λA z=>?_) (λA z=>?_) rfl (u.frame _) x (ok_one k rfl (okWide_bool_mk l _))
 ·rw[j,k]
  exact trodAll_mk1 (shut_bool l _)
 ·grind[W09,List.mem_append_left]
 ·rw[j,m]
  exact rfl
end
end Go.H
