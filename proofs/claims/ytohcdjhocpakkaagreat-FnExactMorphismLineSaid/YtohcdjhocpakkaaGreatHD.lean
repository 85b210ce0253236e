/- The library of the walks, part HD: plain laws over the model. -/
import Derived.Test.YtohcdjhocpakkaaGreatHC
import Derived.ProofKit
namespace Go.H
set_option linter.unusedVariables false
set_option linter.unusedSimpArgs false
theorem P6{i:Nat}{o:Oper}(h:O7 i o=true):∃ e∈o.after,Region.binds .any e=true/\e.on=i:=by
 unfold O7 at h
 rw[List.any_eq_true]at h
 simp_all
theorem K07{o:Oper}{t:Nat}:∀ {l:List Oper} {i:Nat},e02 o t l i=true->∀ k x,l[k]?=some x->x.dst=some t->O7 (i+k) o=true
 | [],i,h,k,x,a,b=>by simp at a
 |d::r,i,h,0,x,a,b=>by
  simp_all[e02,Nat.beq_refl,Bool.and_eq_true]
 |d::r,i,h,k+1,x,a,b=>by
  simp only[List.getElem?_cons_succ]at a
  have c:e02 o t r (i+1)=true:=by
   simp only[e02]at h
   grind
  have:=K07 c k x a b
  rwa [show i+1+k=i+(k+1) from by omega]at this
theorem W02{o:Oper}{ops:List Oper}:∀ {l:List Operand},X09 o ops l=true->∀ t,Operand.tmp t∈l->e02 o t ops 0=true
 | [],h,t,a=>by cases a
 | .tmp u::r,h,t,a=>by
  simp only[X09,Bool.and_eq_true]at h
  rcases List.mem_cons.1 a with e|a
  ·cases e;exact h.1
  ·exact W02 h.2 t a
 | .const v::r,h,t,a=>by
  rcases List.mem_cons.1 a with e|a
  ·cases e
  ·exact W02 (l:=r) h t a
 | .global v::r,h,t,a=>by
  rcases List.mem_cons.1 a with e|a
  ·cases e
  ·exact W02 (l:=r) h t a
 | .func v::r,h,t,a=>by
  rcases List.mem_cons.1 a with e|a
  ·cases e
  ·exact W02 (l:=r) h t a
theorem G06{ops:List Oper}:∀ {l:List Oper},O0l ops l=true->∀ o∈l,∀ t,Operand.tmp t∈o.op.operands->∀ k x,ops[k]?=some x->x.dst=some t->∃ e∈o.after,Region.binds .any e=true/\e.on=k
 | [],h,o,a=>by cases a
 |f::r,h,o,a=>by
  simp only[O0l,Bool.and_eq_true]at h
  rcases List.mem_cons.1 a with rfl|a
  ·intro t d k x c b
   have:=K07 (W02 h.1 t (by simpa using d)) k x c b
   simp_all[Nat.zero_add,P6]
  ·exact G06 h.2 o a
theorem G05{d:Nat}:∀ {l:List Oper},x07 d l=true->∀ o∈l,o.dst≠some d
 | [],h,o,a=>by cases a
 |f::r,h,o,a=>by
  simp only[x07]at h
  split at h
  ·rename_i c b
   simp only[Bool.and_eq_true,Bool.not_eq_true']at h
   rcases List.mem_cons.1 a with rfl|a
   ·grind[Nat.ne_of_beq_eq_false]
   ·exact G05 h.2 o a
  ·rename_i b
   rcases List.mem_cons.1 a with rfl|a
   ·grind
   ·exact G05 h o a
theorem O04{n:Nat}:∀ {l:List Oper},B0i n l=true->(∀ o∈l,∀ d,o.dst=some d->d<n) /\
  ∀(i j:Nat) (a b:Oper) (d:Nat),l[i]?=some a->l[j]?=some b->a.dst=some d->b.dst=some d->i=j
 | [],h=>⟨by simp,λi j a b d g=>by simp at g⟩
 |z::r,h=>by
  simp only[B0i]at h
  split at h
  ·rename_i d q
   simp only[Bool.and_eq_true]at h
   obtain⟨⟨w,m⟩,p⟩:=h
   obtain⟨k,t⟩:=O04 p
   have y:=G05 m
   refine⟨λo c f s=>?_,λi j a b f g x u v=>?_⟩
   ·rcases List.mem_cons.1 c with rfl|c
    ·simp_all
    ·exact k o c f s
   grind
  ·rename_i q
   obtain⟨k,t⟩:=O04 h
   grind
theorem s03:∀ {l:List Oper} {j:Nat},p0c l j=true->∀ k o,l[k]?=some o->∀ e∈o.after,Region.binds .any e=true->e.on<j+k
 | [],j,h,k,o,a=>by simp at a
 |d::r,j,h,k,o,a=>by
  simp only[p0c,Bool.and_eq_true,List.all_eq_true]at h
  cases k with
  |zero =>
   simp at a
   subst a
   intro e b c
   have:=h.1 e (by simpa using b)
   simp_all
  |succ k =>
   simp at a
   intro e b c
   have:=s03 h.2 k o a e b c
   omega
def w4:List Oper->List (Nat×AV)->List (Nat×AV)
 | [],fr=>fr
 |o::r,fr=>match o.dst with
  |some d=>(d,.dead)::w4 r fr
  |none=>w4 r fr
theorem Z00{t:Nat}:∀ {l:List Oper} {fr:List (Nat×AV)},(∀ o∈l,o.dst≠some t)->j3 (w4 l fr) t=j3 fr t
 | [],fr,h=>rfl
 |o::r,fr,h=>by
  have c:=Z00 (fr:=fr) λb a=>h b (mC _ a)
  simp only[w4]
  split
  all_goals simp_all[U3,if_neg,List.mem_cons_self]
theorem g02{t:Nat}:∀ {l:List Oper} {fr:List (Nat×AV)} {o:Oper},o∈l->o.dst=some t->j3 (w4 l fr) t = .dead
 | [],fr,o,h,_=>by cases h
 |f::r,fr,o,h,a=>by
  simp only[w4]
  split
  ·rename_i d b
   rw[U3]
   split
   ·rfl
   ·rename_i c
    rcases List.mem_cons.1 h with rfl|h
    ·grind
    ·exact g02 h a
  ·rename_i b
   rcases List.mem_cons.1 h with rfl|h
   ·rw[a]at b;cases b
   ·exact g02 h a
theorem y00(d:Nat)(f:V5)(r:List (Nat×V5))(s:Nat):L3 ((d,f)::r) s=if d=s then some f else L3 r s:=by
 simp only[L3]
 cases h:Nat.beq d s with
 |true=>rw[if_pos (Nat.eq_of_beq_eq_true h)]
 |false=>rw[if_neg (Nat.ne_of_beq_eq_false h)]
section
variable {P:Program} {h0:Hp} {w0:World} {be:Nat->Nat} {oe:Nat->Value} {H:Hp} {h:Hp} {a:Act} {w:World}
theorem Sim.refr{st:St}(s:Sim P h0 w0 be oe H st h a w){fr:List (Nat×AV)}(hf:∀ t,A2 st be oe (j3 fr t) (a.tmps.getD t undef)):Sim P h0 w0 be oe H { st with fr:=fr } h a w:=by
 have b:J6 st be oe { st with fr:=fr } be oe:=⟨Nat.le_refl _,λ_ _=>rfl,λi s h=>⟨s,h,Nat.le_refl _,λ_=>rfl⟩⟩
 refine⟨s.mv,s.sub,λi cs ty g=>?_,s.pub,s.own,s.frz,s.bb,s.oo,s.bo,s.dfr,s.siz,λt=>(hf t).grow b⟩
 obtain⟨c,vs,d,f⟩:=s.box i cs ty g
 exact⟨c,vs,d.grow b,f⟩
def H05(st:St)(be:Nat->Nat)(oe:Nat->Value)(h:Hp):V5->Value->Prop
 | .pu av,v=>A2 st be oe av v
 | .ef F,v=>F v h
theorem D02{L:List (Nat×V5)}{st:St}{h:Hp}{val:Nat->Value}{K:List (Nat×AV)->Prop}:∀ {l:List Operand} {acc:List (Nat×AV)},
  (∀ t,A2 st be oe (j3 acc t) (val t))->(∀ t,Operand.tmp t∈l->(∀ f,L3 L t=some f->H05 st be oe h f (val t))/\(L3 L t=none->A2 st be oe (j3 st.fr t) (val t))) ->
  B0d L st h l acc K->∃ fr,K fr/\∀ t,A2 st be oe (j3 fr t) (val t)
 | [],acc,c,b,a=>⟨acc,a,c⟩
 | .tmp t::r,acc,c,b,a=>by
  have i:∀ u,Operand.tmp u∈r->_:=λu d=>b u (mC _ d)
  have j:=b t mS
  have put:∀ av,A2 st be oe av (val t)->∀ u,A2 st be oe (j3 ((t,av)::acc) u) (val u):=λav g u=>by
   grind[U3]
  simp only[B0d]at a
  split at a
  ·rename_i av e
   exact D02 (put av (j.1 _ e)) i a
  ·rename_i F e
   exact D02 (put (.val (val t)) rfl) i (a _ (j.1 _ e))
  ·rename_i e
   exact D02 (put _ (j.2 e)) i a
 | .const v::r,acc,c,b,a=>D02 (l:=r) c (λu d=>b u (mC _ d)) a
 | .global v::r,acc,c,b,a=>D02 (l:=r) c (λu d=>b u (mC _ d)) a
 | .func v::r,acc,c,b,a=>D02 (l:=r) c (λu d=>b u (mC _ d)) a
def y0t(P:Program)(st:St)(h:Hp)(L:List (Nat×V5))(o:Oper):Prop :=
 o.guard=none/\∃ f,(∀ d,o.dst=some d->L3 L d=some f)/\match f with
  | .pu av=>K0k P L o st=some av
  | .ef F=>(∀ v b c,Sub b c->F v b->F v c)/\∀ a,Sub h a->B0d L st a o.op.operands.toList [] λfr=>R7 P o { st with fr:=fr } a (a0t { st with fr:=fr } a F)
theorem w0b:∀ {L:List (Nat×V5)} {t:Nat} {f:V5},L3 L t=some f->(t,f)∈L
 | [],t,f,h=>by cases h
 |(d,a)::r,t,f,h=>by
  rw[y00]at h
  split at h
  ·grind
  ·exact mC _ (w0b h)
theorem Q0q{st:St}{L:List (Nat×V5)}{o:Oper}{av:AV}{val:Nat->Value}(a:K0k P L o st=some av)
  (hv:∀ t,Operand.tmp t∈o.op.operands->(∀ f,L3 L t=some f->H05 st be oe h f (val t))/\(L3 L t=none->A2 st be oe (j3 st.fr t) (val t))) :
  ∃ fr,(∀ t,A2 st be oe (j3 fr t) (val t))/\R7 P o { st with fr:=fr } h λi st' j=>i=av/\st' = { st with fr:=fr }/\j=h:=by
 have one:∀ x:Operand,(∀ t,x = .tmp t->Operand.tmp t∈o.op.operands)->rdS L st x ≠ .dead->∃ fr,(∀ t,A2 st be oe (j3 fr t) (val t))/\rdO { st with fr:=fr } x=rdS L st x:=by
  intro x b c
  cases x with
  |tmp t =>
   obtain⟨k,l⟩:=hv t (b t rfl)
   have mk:∀ A,A2 st be oe A (val t)->∀ u,A2 st be oe (j3 [(t,A)] u) (val u):=λA g u=>by
    rw[U3]
    split
    ·grind
    ·trivial
   have rd:∀ A,rdO { st with fr:=[(t,A)] } (.tmp t)=rdA st A:=λA=>by
    show Go.H.rdA _ (j3 [(t,A)] t)=_
    rw[U3,if_pos rfl]
    obtain⟨n,fr,bx,ow⟩:=st
    cases A<;>rfl
   cases hL:L3 L t with
   |none=>grind[rdS]
   |some f =>
    cases f with
    |pu A=>exact⟨_,mk _ (k _ hL),by grind[rdS]⟩
    |ef F=>grind[absurd,rdS]
  |const v=>exact⟨[],λt=>trivial,rfl⟩
  |global v=>exact⟨[],λt=>trivial,rfl⟩
  |func v=>exact⟨[],λt=>trivial,rfl⟩
 unfold K0k at a
 split at a
 ·rename_i x b
  have c:rdS L st x ≠ .dead:=λe=>by rw[e]at a;cases a
  obtain⟨fr,g,e⟩:=one x (λt d=>by grind[Op.operands]) c
  refine⟨fr,g,?_⟩
  simp only[R7,b,e]
  revert a
  cases rdS L st x<;>intro a<;>first|(cases a;done)|(cases a;simp;done)
 ·rename_i x b
  have c:rdS L st x ≠ .dead:=λe=>by rw[e]at a;cases a
  obtain⟨fr,g,e⟩:=one x (λt d=>by grind[Op.operands]) c
  refine⟨fr,g,?_⟩
  simp only[R7,b,e]
  revert a
  cases rdS L st x<;>intro a<;>first|(cases a;done)|(cases a;simp;done)
 ·rename_i t x b
  have c:rdS L st x ≠ .dead:=λe=>by rw[e]at a;cases a
  obtain⟨fr,g,e⟩:=one x (λt d=>by grind[Op.operands]) c
  refine⟨fr,g,?_⟩
  simp only[R7,b,e]
  split at a
  all_goals grind[A0d,z04,i0h,I5]
 ·cases a
def m0s(P:Program)(h0:Hp)(w0:World)(ops:Array Oper)(st:St)(h:Hp)(L:List (Nat×V5))(listed:Array Bool)(a:Act)(w:World):Prop :=
 ∃ be oe H b,Sub h b/\Sim P h0 w0 be oe H { st with fr:=w4 ops.toList st.fr } b a w /\
  ∀ j o d f,ops[j]?=some o->o.dst=some d->listed.getD j false=true->L3 L d=some f->H05 st be oe b f (a.tmps.getD d undef)
theorem A2.fr{st:St}{fr:List (Nat×AV)}{av:AV}{v:Value}(g:A2 st be oe av v):A2 { st with fr:=fr } be oe av v:=by
 obtain⟨n,a,bx,ow⟩:=st
 show A2 ⟨n,fr,bx,ow⟩ be oe av v
 exact A2.grow (st:=⟨n,a,bx,ow⟩) (st':=⟨n,fr,bx,ow⟩) (be:=be) (oe:=oe) (be':=be) (oe':=oe) (av:=av) (x:=v) ⟨Nat.le_refl _,λ_ _=>rfl,λi s h=>⟨s,h,Nat.le_refl _,λ_=>rfl⟩⟩ g
theorem Q6{ops:Array Oper}{st:St}{L:List (Nat×V5)}{listed:Array Bool}{j:Nat}{o:Oper}{Q:Exit->Act->World->Prop}
  (aD:∀(i j:Nat) (c af:Oper) (d:Nat),ops.toList[i]?=some c->ops.toList[j]?=some af->c.dst=some d->af.dst=some d->i=j)
  (Y:∀ o∈ops.toList,∀ d,o.dst=some d->d<st.n)
  (U:∀ t f,(t,f)∈L->∃(i:Nat) (c:Oper),ops.toList[i]?=some c/\c.dst=some t)
  (ak:∀(i:Nat) (c:Oper) (d:Nat),ops.toList[i]?=some c->c.dst=some d->∃ f,L3 L d=some f)
  (Z:ops[j]?=some o) (V:∀(j:Nat) (o:Oper),ops.toList[j]?=some o->y0t P st h L o) (am:∀ t,Operand.tmp t∈o.op.operands->∀(i:Nat) (c:Oper),ops.toList[i]?=some c->c.dst=some t->listed.getD i false=true)
  (M:m0s P h0 w0 ops st h L listed a w):o.wp P a w (m0s P h0 w0 ops st h L (listed.setIfInBounds j true)) Q:=by
 obtain⟨be,oe,H,z,ad,s,S⟩:=M
 have aa:ops.toList[j]?=some o:=by simpa using Z
 have X:o∈ops.toList:=List.mem_of_getElem? aa
 obtain⟨aF,f,hf,ab⟩:=V j o aa
 have ay:∀ d F,L3 L d=some (.ef F)->∀ v l k,Sub l k->F v l->F v k:=λd F J=>by
  obtain⟨i,c,l,k⟩:=U d _ (w0b J)
  obtain⟨_,aC,an,ax⟩:=V i c l
  rw[an d k]at J
  cases J
  exact ax.1
 have ah:∀ t,Operand.tmp t∈o.op.operands->(∀ f,L3 L t=some f->H05 st be oe z f (a.tmps.getD t undef))/\(L3 L t=none->A2 st be oe (j3 st.fr t) (a.tmps.getD t undef)):=λt N=>by
  refine⟨λf hf=>?_,λau=>?_⟩
  ·obtain⟨i,c,l,k⟩:=U t f (w0b hf)
   exact S i c t f (by simpa using l) k (am t N i c l k) hf
  ·have g:=s.fr t
   have aq:j3 (w4 ops.toList st.fr) t=j3 st.fr t:=Z00 λaB aw E=>by
    obtain⟨i,M,e⟩:=List.getElem_of_mem aw
    obtain⟨f,hf⟩:=ak i aB t (by rw[List.getElem?_eq_getElem M,e]) E
    rw[au]at hf;cases hf
   rw[←aq]
   exact A2.fr (st := { st with fr:=w4 ops.toList st.fr }) (fr:=st.fr) g
 have fin:∀ {fr:List (Nat×AV)} {A:Act} {y:World} {p:Hp} {be':Nat->Nat} {oe':Nat->Value} {q:Hp} {v:Value},Sub z p->A=a.put o.dst v->Sim P h0 w0 be' oe' q { st with fr:=fr } p a y ->
   J6 { st with fr:=fr } be oe { st with fr:=fr } be' oe'->H05 st be' oe' p f v->m0s P h0 w0 ops st h L (listed.setIfInBounds j true) A y:=by
  intro fr A y p be' oe' q v ae D G m hv
  subst D
  have ai:J6 { st with fr:=w4 ops.toList st.fr } be oe { st with fr:=w4 ops.toList st.fr } be' oe':=⟨m.bl,m.be,m.sm⟩
  have aj:J6 st be oe st be' oe':=⟨m.bl,m.be,m.sm⟩
  have s1:Sim P h0 w0 be' oe' q { st with fr:=w4 ops.toList st.fr } p a y :=
   G.refr (fr:=w4 ops.toList st.fr) λt=>A2.fr (st := { st with fr:=w4 ops.toList st.fr }) ((s.fr t).grow ai)
  have s2:Sim P h0 w0 be' oe' q { st with fr:=w4 ops.toList st.fr } p (a.put o.dst v) y:=by
   cases E:o.dst with
   |none=>exact s1
   |some d =>
    have ac:=s1.put (d:=d) (av := .dead) (v:=v) (Y o X d E) trivial
    refine ac.refr (fr:=w4 ops.toList st.fr) λt=>?_
    have g:=ac.fr t
    grind[U3,g02]
  refine⟨be',oe',q,p,λb x al=>ae b x (ad b x al),s2,λi c d g l k T I=>?_⟩
  by_cases hij:j=i
  ·subst hij
   rw[Z]at l;cases l
   rw[hf d k]at I;cases I
   have ap:d<a.tmps.size:=by rw[s.siz];exact Y o X d k
   have:(a.put o.dst v).tmps.getD d undef=v:=by
    rw[k]
    simp[Act.put,ap]
   rw[this]
   exact hv
  ·have ao:listed.getD i false=true:=by rw[getD_set_ne false hij]at T;exact T
   have ar:∀ C,o.dst=some C->C≠d:=λC aE e=>by
    grind
   have:(a.put o.dst v).tmps.getD d undef=a.tmps.getD d undef:=by
    cases E:o.dst with
    |none=>rfl
    |some C=>simp[Act.put,Array.getElem?_setIfInBounds_ne (ar C E)]
   rw[this]
   have ag:=S i c d g l k ao I
   cases g with
   |pu av=>exact A2.grow aj ag
   |ef F=>exact ay d F I _ _ _ ae ag
 cases f with
 |pu av =>
  obtain⟨fr,g,K⟩:=Q0q (h:=z) ab ah
  have G:Sim P h0 w0 be oe H { st with fr:=fr } z a w:=s.refr (fr:=fr) λt=>A2.fr (g t)
  refine Oper.wp_mono (λA y O=>?_) (J9 G K)
  obtain⟨R,st',p,v,be',oe',q,⟨rfl,rfl,rfl⟩,D,s2,g2,m⟩:=O
  exact fin (λ_ _ h=>h) D s2 m (A2.fr (st := { st with fr:=fr }) (fr:=st.fr) g2)
 |ef F =>
  obtain⟨fr,K,g⟩:=D02 (acc:=[]) (be:=be) (oe:=oe) (val:=λt=>a.tmps.getD t undef) (λt=>trivial) (λt N=>ah t (by simpa using N)) (ab.2 z ad)
  have G:Sim P h0 w0 be oe H { st with fr:=fr } z a w:=s.refr (fr:=fr) λt=>A2.fr (g t)
  refine Oper.wp_mono (λA y O=>?_) (J9 G K)
  obtain⟨R,st',p,v,be',oe',q,W,D,s2,g2,m⟩:=O
  cases R with
  |val u =>
   obtain⟨rfl,az,aA⟩:=W
   have hv:v=u:=g2
   subst hv
   exact fin az D s2 m aA
  |_=>exact W.elim
theorem x0b{ops:Array Oper}(b:∀(k:Nat) (o:Oper),ops.toList[k]?=some o->∀ e∈o.after,Region.binds .any e=true->e.on<k){listed:Array Bool}(h:listed.size=ops.size)(g:Region.ready .any ops listed = []):
  ∀ j,j<ops.size->listed.getD j false=true:=by
 intro j
 induction j using Nat.strongRecOn with
 |_ j i =>
  intro a
  cases hl:listed.getD j false with
  |true=>rfl
  |false =>
   have f:j<listed.size:=by omega
   have:j∈Region.ready .any ops listed:=by
    refine mem_ready.2 ⟨?_,ops[j],by simp[a],λe d c=>?_⟩
    all_goals grind
   grind
theorem count_set{listed:Array Bool}{j:Nat}(a:listed.getD j true=false):(listed.setIfInBounds j true).toList.count true=listed.toList.count true+1:=by
 have b:j<listed.size:=by
  grind
 simp_all[Array.toList_setIfInBounds,List.count_set]
end
theorem R0q{P:Program}{t:TypeId}{cs:List A5}{off:Nat}{av:AV}(h:A0d P t cs off=some av):z04 P t cs off λa=>a=av:=by
 grind[A0d,z04,i0h,I5]
section
variable {P:Program} {h0:Hp} {w0:World} {be:Nat->Nat} {oe:Nat->Value} {H:Hp} {h:Hp} {a:Act} {w:World}
theorem Z05{L:List (Nat×V5)}{st stX:St}{x:Operand}
  (hv:∀ t,x = .tmp t->(∀ av,L3 L t=some (.pu av)->A2 stX be oe av (a.tmps.getD t undef))/\(L3 L t=none->A2 stX be oe (j3 st.fr t) (a.tmps.getD t undef))):A2 stX be oe (F05 L st x) (a.eval x):=by
 cases x with
 |tmp t =>
  obtain⟨b,c⟩:=hv t rfl
  show A2 stX be oe (F05 L st (.tmp t)) (a.tmps.getD t undef)
  simp only[F05]
  split
  ·grind
  ·trivial
  grind
 |const v=>exact rfl
 |global g=>trivial
 |func f=>trivial
theorem H06{L:List (Nat×V5)}{st stX:St}:∀(l:List Operand) {vs:List (Nat×Value)},(∀ t,Operand.tmp t∈l->A2 stX be oe (F05 L st (.tmp t)) (a.tmps.getD t undef))->q0c L st l=some vs ->
  (∀ p∈vs,p.2=a.eval (.tmp p.1))/\(∀ x∈l,(∃ t v,x = .tmp t/\(t,v)∈vs)∨(∀ m,rho m x=a.eval x))
 | [],vs,G,h=>by cases h;simp
 | .tmp t::r,vs,G,h=>by
  simp only[q0c]at h
  split at h
  ·rename_i v hv
   split at h
   ·rename_i n k
    cases h
    obtain⟨c,i⟩:=H06 r (λu d=>G u (mC _ d)) k
    have g:=G t mS
    rw[hv]at g
    have g:a.tmps.getD t undef=v:=g
    refine⟨λp j=>?_,λx b=>?_⟩
    ·rcases List.mem_cons.1 j with rfl|j
     ·exact g.symm
     ·exact c p j
    grind
   ·cases h
  ·cases h
 | .global _::r,vs,G,h=>by cases h
 | .const v::r,vs,G,h=>by
  obtain⟨c,i⟩:=H06 r (vs:=vs) (λu d=>G u (mC _ d)) h
  exact⟨c,λx b=>by
   rcases List.mem_cons.1 b with rfl|b
   ·exact .inr λ_=>rfl
   ·exact i x b⟩
 | .func f::r,vs,G,h=>by
  obtain⟨c,i⟩:=H06 r (vs:=vs) (λu d=>G u (mC _ d)) h
  exact⟨c,λx b=>by
   rcases List.mem_cons.1 b with rfl|b
   ·exact .inr λ_=>rfl
   ·exact i x b⟩
theorem T0i{L:List (Nat×V5)}{st stX:St}{o:Oper}{av:AV}(b:L0k P L o st=some av)
  (hv:∀ t,Operand.tmp t∈o.op.operands->(∀ av,L3 L t=some (.pu av)->A2 stX be oe av (a.tmps.getD t undef))/\(L3 L t=none->A2 stX be oe (j3 st.fr t) (a.tmps.getD t undef))) :
  ∃ v,(execOp a.eval o).run P w = .ok (.value v) w/\A2 stX be oe av v:=by
 unfold L0k at b
 split at b
 ·rename_i vs g h
  obtain⟨d,f⟩:=H06 (a:=a) (stX:=stX) (be:=be) (oe:=oe) _ (λt i=>Z05 (x := .tmp t) λu j=>by grind) h
  split at b
  ·cases b
  ·split at b
   ·rename_i v c
    cases b
    rw[f0a,q08 g d f]at c
    exact⟨v,V0l _ c w,rfl⟩
   ·cases b
 ·cases b
theorem m05{L b:List (Nat×V5)}{st:St}:∀ {l:List Operand},(∀ t,Operand.tmp t∈l->L3 L t=L3 b t)->q0c L st l=q0c b st l
 | [],h=>rfl
 | .tmp t::r,h=>by simp only[q0c,F05,h t mS,m05 λu a=>h u (mC _ a)]
 | .global _::r,h=>rfl
 | .const _::r,h=>m05 (l:=r) λu a=>h u (mC _ a)
 | .func _::r,h=>m05 (l:=r) λu a=>h u (mC _ a)
theorem R0d{L:List (Nat×V5)}{st:St}{o:Oper}{t:TypeId}{x:Operand}{i off:Nat}(b:o.op = .load t x)(a:F05 L st x = .box i off):∀ {l:List Oper},o∈l->i∈o9 L st l
 | [],h=>nomatch h
 |c::r,h=>by
  rcases List.mem_cons.1 h with rfl|h
  ·grind[o9,List.mem_cons_self]
  ·have:=R0d b a h
   grind[o9,mC]
theorem W0f{bx a:List BSt}{i:Nat}:∀ {l:List Nat},P08 bx l=P08 a l->i∈l->nth bx i=nth a i
 | [],_,h=>nomatch h
 |b::r,e,h=>by
  simp only[P08,List.cons.injEq]at e
  rcases List.mem_cons.1 h with rfl|h
  ·exact e.1
  ·exact W0f e.2 h
theorem t0n{L:List (Nat×V5)}{st stX:St}{o:Oper}{av:AV}(s:Sim P h0 w0 be oe H stX h a w)(F:∀ t x i off,o.op = .load t x->F05 L st x = .box i off->nth stX.bx i=nth st.bx i)(c:O08 P L o st=some av)
  (hv:∀ t,Operand.tmp t∈o.op.operands->(∀ av,L3 L t=some (.pu av)->A2 stX be oe av (a.tmps.getD t undef))/\(L3 L t=none->A2 stX be oe (j3 st.fr t) (a.tmps.getD t undef))) :
  ∃ v,(execOp a.eval o).run P w = .ok (.value v) w/\A2 stX be oe av v:=by
 unfold O08 at c
 split at c
 ·rename_i x d
  split at c
  ·cases c
   simp_all[Z05,Op.operands,execOp]
  ·cases c
 ·rename_i x d
  split at c
  ·cases c
   simp_all[Z05,Op.operands,execOp]
  ·cases c
 ·rename_i t x d
  have g:=Z05 (L:=L) (st:=st) (stX:=stX) (be:=be) (oe:=oe) (a:=a) (x:=x) λt f=>hv t (by rw[d];simp[Op.operands,f])
  split at c
  ·rename_i i off l
   rw[l]at g
   split at c
   ·rename_i cs ty G
    split at c
    ·rename_i C q
     split at c
     ·cases c
      obtain⟨E,vs,n,p⟩:=s.box i cs ty (by grind)
      obtain⟨D,v,y,z,A⟩:=R.load_row (H:=H) (b:=be i) (o:=0) (be:=be) (R0q q) n (λj v u=>by simp[Hp.cell,p,u])
      subst y
      exact⟨v,R.run_of (R.exec_load d g.2 (by simpa using A)) w (K0o s),z⟩
     ·cases c
    ·cases c
   ·cases c
  ·cases c
 ·rename_i t x k d
  have g:=Z05 (L:=L) (st:=st) (stX:=stX) (be:=be) (oe:=oe) (a:=a) (x:=x) λt f=>hv t (by rw[d];simp[Op.operands,f])
  split at c
  ·rename_i i off m l f
   rw[l]at g
   cases c
   exact⟨ptr (be i) (off+m),R.run_of (R.exec_fieldAddr d f g.2) w (K0o s),g.1,rfl⟩
  ·cases c
 ·split at c
  ·exact T0i c hv
  ·cases c
 ·split at c
  ·split at c
   ·exact T0i c hv
   ·cases c
  ·cases c
 ·cases c
theorem K01{L:List (Nat×V5)}{st stX:St}{val:Nat->Value}{K:List (Nat×AV)->Prop}:∀ {l:List Operand} {acc:List (Nat×AV)},
  (∀ t,A2 stX be oe (j3 acc t) (val t))->(∀ t,Operand.tmp t∈l->(∀ av,L3 L t=some (.pu av)->A2 stX be oe av (val t))/\(L3 L t=none->A2 stX be oe (j3 st.fr t) (val t))) ->
  b04 L st.fr l acc K->∃ fr,K fr/\∀ t,A2 stX be oe (j3 fr t) (val t)
 | [],acc,c,b,a=>⟨acc,a,c⟩
 | .tmp t::r,acc,c,b,a=>by
  have f:∀ u,Operand.tmp u∈r->_:=λu d=>b u (mC _ d)
  have h:=b t mS
  have put:∀ av,A2 stX be oe av (val t)->∀ u,A2 stX be oe (j3 ((t,av)::acc) u) (val u):=λav g u=>by
   grind[U3]
  simp only[b04]at a
  split at a
  ·rename_i av e
   exact K01 (put av (h.1 _ e)) f a
  ·rename_i F e
   exact K01 (put .dead trivial) f a
  ·rename_i e
   exact K01 (put _ (h.2 e)) f a
 | .const v::r,acc,c,b,a=>K01 (l:=r) c (λu d=>b u (mC _ d)) a
 | .global v::r,acc,c,b,a=>K01 (l:=r) c (λu d=>b u (mC _ d)) a
 | .func v::r,acc,c,b,a=>K01 (l:=r) c (λu d=>b u (mC _ d)) a
theorem y0b:∀(L:List (Nat×V5)) (fr:List (Nat×AV)) (t:Nat),j3 (C0i L fr) t=match L3 L t with
  |some (.pu av)=>av
  |some (.ef _) => .dead
  |none=>j3 fr t
 | [],fr,t=>rfl
 |(d,.pu av)::r,fr,t=>by
  simp only[C0i]
  rw[U3,y00]
  split
  ·rfl
  ·exact y0b r fr t
 |(d,.ef F)::r,fr,t=>by
  simp only[C0i]
  rw[U3,y00]
  split
  ·rfl
  ·exact y0b r fr t
theorem U0i{L a:List (Nat×V5)}{o:Oper}{st:St}(h:∀ t,Operand.tmp t∈o.op.operands->L3 L t=L3 a t):O08 P L o st=O08 P a o st:=by
 have d:∀ x:Operand,(∀ t,x = .tmp t->Operand.tmp t∈o.op.operands)->F05 L st x=F05 a st x:=λx c=>by
  cases x with
  |tmp t=>grind[F05]
  |_=>rfl
 have f:L0k P L o st=L0k P a o st:=by
  unfold L0k
  rw[m05 (l:=o.op.operands.toList) λt b=>h t (by simpa using b)]
 unfold O08
 split
 ·rename_i x c;rw[d x λt b=>by grind[Op.operands]]
 ·rename_i x c;rw[d x λt b=>by grind[Op.operands]]
 ·rename_i t x c;rw[d x λt b=>by grind[Op.operands]]
 all_goals grind[Op.operands,List.mem_cons_self,Call.operands]
theorem L01{L c:List (Nat×V5)}{f:List (Nat×AV)}{K:List (Nat×AV)->Prop}:∀ {l:List Operand} {acc:List (Nat×AV)},(∀ t,Operand.tmp t∈l->L3 L t=L3 c t)->b04 L f l acc K->b04 c f l acc K
 | [],acc,a,h=>h
 | .tmp t::r,acc,a,h=>by
  have e:=a t mS
  have d:∀ u,Operand.tmp u∈r->L3 L u=L3 c u:=λu b=>a u (mC _ b)
  simp only[b04]at h ⊢
  rw[←e]
  split at h
  ·exact L01 d h
  ·exact L01 d h
  ·exact L01 d h
 | .const _::r,acc,a,h=>L01 (l:=r) (λu b=>a u (mC _ b)) h
 | .func _::r,acc,a,h=>L01 (l:=r) (λu b=>a u (mC _ b)) h
 | .global _::r,acc,a,h=>L01 (l:=r) (λu b=>a u (mC _ b)) h
structure n05 (P:Program) (st:St) (h:Hp) (ops:List Oper) (k:Nat) (L:List (Nat×V5)) (X E:List (Nat×Oper)):Prop where
 key:∀ t f,L3 L t=some f->∃(i:Nat) (oi:Oper),i<k/\ops[i]?=some oi/\oi.dst=some t
 cov:∀(i:Nat) (oi:Oper) (d:Nat),i<k->ops[i]?=some oi->oi.dst=some d->∃ f,L3 L d=some f
 each:∀(j:Nat) (o:Oper),j<k->ops[j]?=some o->o.guard=none/\((j,o)∈E∨((∀ p∈E,p.1≠j)/\∃ av,(O08 P L o st=some av∨((j,o)∈X/\D0i P st h L o av))/\∀ d,o.dst=some d->L3 L d=some (.pu av)))
 eff:∀ p∈E,p.1<k/\ops[p.1]?=some p.2/\∀ d,p.2.dst=some d->∃ F,L3 L d=some (.ef F)
 nd:(E.map λp=>p.1).Nodup
 xx:∀ p∈X,p.1<k/\ops[p.1]?=some p.2
theorem n05.add{st:St}{h:Hp}{ops:List Oper}{k:Nat}{L:List (Nat×V5)}{X w E z:List (Nat×Oper)}{o:Oper}{f:V5}
  (Y:∀(i j:Nat) (m b:Oper) (d:Nat),ops[i]?=some m->ops[j]?=some b->m.dst=some d->b.dst=some d->i=j)
  (Z:∀(j:Nat) (o:Oper) (t i:Nat) (m:Oper),ops[j]?=some o->Operand.tmp t∈o.op.operands->ops[i]?=some m->m.dst=some t->i<j)
  (s:n05 P st h ops k L X E) (K:ops[k]?=some o) (A:o.guard=none) (O:w=X∨w=X ++ [(k,o)])
  (I:(z=E/\∃ av,f = .pu av/\(O08 P L o st=some av∨((k,o)∈w/\D0i P st h L o av)))∨(z=E ++ [(k,o)]/\∃ F,f = .ef F)):n05 P st h ops (k+1) (x06 o.dst f L) w z:=by
 have no:∀ d,o.dst=some d->L3 L d=none:=λd c=>by
  cases h:L3 L d with
  |none=>rfl
  |some g =>
   obtain⟨i,m,u,q,H⟩:=s.key d g h
   grind
 have up:∀ t g,L3 L t=some g->L3 (x06 o.dst f L) t=some g:=λt g l=>by
  cases c:o.dst with
  |none=>exact l
  |some d =>
   show L3 ((d,f)::L) t=some g
   grind[y00]
 have V:∀ d,o.dst=some d->L3 (x06 o.dst f L) d=some f:=λd c=>by
  rw[c];show L3 ((d,f)::L) d=some f;rw[y00,if_pos rfl]
 have dn:∀ t g,L3 (x06 o.dst f L) t=some g->L3 L t=some g∨(o.dst=some t/\g=f):=λt g l=>by
  cases c:o.dst with
  |none=>rw[c]at l;exact .inl l
  |some d =>
   rw[c]at l
   change L3 ((d,f)::L) t=some g at l
   grind[y00]
 have W:∀(j:Nat) (b:Oper),j<=k->ops[j]?=some b->O08 P L b st=O08 P (x06 o.dst f L) b st:=λj b J v=>U0i λt l=>by
  cases c:o.dst with
  |none=>rfl
  |some d =>
   show L3 L t=L3 ((d,f)::L) t
   rw[y00]
   grind
 have G:∀(j:Nat) (b:Oper) (av:AV),j<=k->ops[j]?=some b->D0i P st h L b av->D0i P st h (x06 o.dst f L) b av:=λj b av J v C=>by
  obtain⟨n,fr,bx,ow⟩:=st
  intro M Q
  refine L01 (λt l=>?_) (C M Q)
  cases c:o.dst with
  |none=>rfl
  |some d =>
   show L3 L t=L3 ((d,f)::L) t
   rw[y00]
   split
   all_goals grind
 have S:∀ p,p∈X->p∈w:=λp a=>by
  grind
 refine⟨λt g l=>?_,λi m d aa u q=>?_,λj b J v=>?_,λp a=>?_,?_,λp a=>?_⟩
 rotate_left 5
 ·rcases O with rfl|rfl
  ·obtain⟨u,q⟩:=s.xx p a
   grind
  ·rcases List.mem_append.1 a with a|a
   ·obtain⟨u,q⟩:=s.xx p a
    grind
   grind
 rotate_left 4
 ·rcases I with⟨rfl,_⟩|⟨rfl,_⟩
  ·exact s.nd
  ·rw[List.map_append,List.nodup_append]
   refine⟨s.nd,by simp,λx C ac R e=>?_⟩
   obtain⟨p,a,rfl⟩:=List.mem_map.1 C
   have:=(s.eff p a).1
   simp at R
   omega
 ·rcases dn t g l with h|⟨h,_⟩
  ·obtain⟨i,m,u,q⟩:=s.key t g h
   exact⟨i,m,by omega,q⟩
  grind
 ·rcases Nat.lt_or_ge i k with h|h
  ·obtain⟨g,A⟩:=s.cov i m d h u q
   exact⟨g,up d g A⟩
  grind
 ·rcases Nat.lt_or_ge j k with h|h
  ·obtain⟨T,D⟩:=s.each j b h v
   refine⟨T,?_⟩
   rcases D with D|⟨D,av,y,U⟩
   ·grind
   ·right
    refine⟨λp a=>?_,av,y.imp (λy=>by grind) (λy=>⟨S _ y.1,G j b av (by omega) v y.2⟩),λd c=>up d _ (U d c)⟩
    grind
  ·have:j=k:=by omega
   subst this
   rw[K]at v;cases v
   refine⟨A,?_⟩
   rcases I with⟨rfl,av,rfl,a⟩|⟨rfl,F,rfl⟩
   ·right
    exact⟨λp a=>by have:=(s.eff p a).1;omega,av,a.imp (λa=>by grind) (λa=>⟨a.1,G _ o av (Nat.le_refl _) K a.2⟩),V⟩
   grind
 ·have ab:p∈E->p.1<k+1/\ops[p.1]?=some p.2/\∀ d,p.2.dst=some d->∃ F,L3 (x06 o.dst f L) d=some (.ef F):=λa=>by
   obtain⟨u,q,H⟩:=s.eff p a
   exact⟨by omega,q,λd c=>by obtain⟨F,N⟩:=H d c;exact⟨F,up d _ N⟩⟩
  grind
theorem o05{ops:List Oper}{st:St}{h:Hp}{K:List (Nat×V5)->List (Nat×Oper)->List (Nat×Oper)->Prop}
  (c:∀(i j:Nat) (b A:Oper) (d:Nat),ops[i]?=some b->ops[j]?=some A->b.dst=some d->A.dst=some d->i=j)
  (g:∀(j:Nat) (o:Oper) (t i:Nat) (b:Oper),ops[j]?=some o->Operand.tmp t∈o.op.operands->ops[i]?=some b->b.dst=some t->i<j) :
  ∀(l:List Oper) (k:Nat) (L:List (Nat×V5)) (X E:List (Nat×Oper)),(∀ j,l[j]?=ops[k+j]?)->n05 P st h ops k L X E->q03 P st h l k L X E K->∃ x y w,K x y w/\n05 P st h ops ops.length x y w
 | [],k,L,X,E,m,s,a=>by
  refine⟨L,X,E,a,?_⟩
  have I:ops.length<=k:=by
   have:=m 0
   simpa using this
  have lt:∀(i:Nat) (b:Oper),ops[i]?=some b->i<ops.length:=λi b h=>(List.getElem?_eq_some_iff.1 h).1
  exact⟨λt f h=>by obtain⟨i,b,_,z,C⟩:=s.key t f h;grind,λi b d G=>s.cov i b d (by omega),λj o H=>s.each j o (by omega),
   λp v=>by obtain⟨_,z,C⟩:=s.eff p v;grind,s.nd,λp v=>by obtain⟨_,z⟩:=s.xx p v;grind⟩
 |o::l,k,L,X,E,m,s,a=>by
  have u:ops[k]?=some o:=by simpa using (m 0).symm
  have q:∀ j,l[j]?=ops[k+1+j]?:=λj=>by have:=m (j+1);grind
  simp only[q03]at a
  split at a
  ·exact a.elim
  ·rename_i n
   split at a
   ·rename_i av D
    rw[I02]at a
    exact o05 c g l (k+1) _ _ _ q (s.add c g u n (.inl rfl) (.inl ⟨rfl,av,rfl,.inl D⟩)) a
   ·rcases a with⟨av,F,a⟩|a
    ·rw[I02]at a
     exact o05 c g l (k+1) _ _ _ q (s.add c g u n (.inr rfl) (.inl ⟨rfl,av,rfl,.inr ⟨by simp,F⟩⟩)) a
    ·exact o05 c g l (k+1) _ _ _ q (s.add c g u n (.inl rfl) (.inr ⟨rfl,_,rfl⟩)) a
theorem S0d:∀(r:List (Nat×Oper)) (q:Nat×Oper),D04 r=true->q∈r.tail->∃ p∈r,O7 p.1 q.2=true
 | [],q,_,h=>by cases h
 | [x],q,_,h=>by cases h
 |(i,o)::(j,b)::r,q,a,h=>by
  simp only[D04,Bool.and_eq_true]at a
  rcases List.mem_cons.1 h with rfl|h
  ·simp_all
  ·obtain⟨p,d,c⟩:=S0d ((j,b)::r) q a.2 h
   grind
theorem X02:∀(d r:List (Nat×Oper)),D04 (d++r)=true->D04 r=true
 | [],r,h=>h
 | [x],[],h=>rfl
 | [(i,o)],(j,a)::r,h=>by simp_all[List.singleton_append,D04,Bool.and_eq_true]
 |(i,o)::(j,a)::d,r,h=>by
  simp only[List.cons_append,D04,Bool.and_eq_true]at h
  exact X02 ((j,a)::d) r h.2
theorem V0i{k:Nat}:∀ {r:List Nat},inK k r=true->k∈r
 |x::r,h=>by
  simp only[inK,Bool.or_eq_true]at h
  rw[List.mem_cons]
  exact h.imp (λe=>Nat.eq_of_beq_eq_true e) V0i
theorem P04{k:Nat}:∀ {l:List (Nat×Oper)},k∈E08 l->∃ p∈l,p.1=k
 |x::r,h=>by
  rcases List.mem_cons.1 h with h|h
  ·exact⟨x,mS,h.symm⟩
  ·obtain⟨p,a,b⟩:=P04 h
   exact⟨p,mC _ a,b⟩
theorem Y08{es:List Nat}{i:Nat}{o:Oper}:∀ {a:Nat},A07 es a i o=true->∀ k,k<a->k≠i->(∃ e∈o.after,Region.binds .any e=true/\e.on=k)∨k∈es
 |0,_,k,c,_=>by omega
 |a+1,h,k,c,b=>by
  simp only[A07,Bool.and_eq_true,Bool.or_eq_true]at h
  by_cases e:k=a
  ·subst e
   rcases h.1 with(g|g)|g
   ·exact absurd (Nat.eq_of_beq_eq_true g) b
   ·exact .inl (P6 g)
   ·exact .inr (V0i g)
  ·exact Y08 h.2 k (by omega) b
theorem Z08{i:Nat}{o:Oper}:∀ {a:Nat},y07 a i o=true->∀ k,k<a->k≠i->∃ e∈o.after,Region.binds .any e=true/\e.on=k
 |0,_,k,b,_=>by omega
 |a+1,h,k,b,c=>by
  simp only[y07,Bool.and_eq_true,Bool.or_eq_true]at h
  by_cases e:k=a
  ·grind[absurd,Nat.eq_of_beq_eq_true,P6]
  ·exact Z08 h.2 k (by omega) c
def V0k(P:Program)(h0:Hp)(w0:World)(ops:Array Oper)(i:List Nat)(n:Nat)(fr:List (Nat×AV))(f:List BSt)(g:List Own)(l:Hp)(c:Nat)(F:List (Nat×Oper))(b:List (Nat×V5))(EV:List (Nat×Oper)->List (Nat×Oper)->List (Nat×V5)->St->Hp->Prop)(listed:Array Bool)(a:Act)(w:World):Prop :=
 ∃(dn r:List (Nat×Oper)) (L:List (Nat×V5)) (bx:List BSt) (ow:List Own) (h:Hp) (be:Nat->Nat) (oe:Nat->Value) (H:Hp),F=dn++r/\(dn.length<=c->ow=g/\Sub l h/\(bx=f∨∀ k,k<ops.size->listed.getD k false=true∨k∈i))/\(∀(j:Nat) (o:Oper),ops[j]?=some o->listed.getD j false=true->∀ e∈o.after,Region.binds .any e=true->listed.getD e.on false=true)/\(∀ p∈r,listed.getD p.1 true=false)/\(∀ p∈dn,listed.getD p.1 false=true) /\
  (P08 bx (o9 b ⟨n,fr,f,g⟩ ops.toList)=P08 f (o9 b ⟨n,fr,f,g⟩ ops.toList)∨∀ k,k<ops.size->listed.getD k false=true∨k∈i)/\Sim P h0 w0 be oe H ⟨n,w4 ops.toList fr,bx,ow⟩ h a w/\EV dn r L ⟨n,fr,bx,ow⟩ h /\
  (∀ t,(L3 b t=none->L3 L t=none)/\∀ av,L3 b t=some (.pu av)->L3 L t=some (.pu av)) /\
  ∀(j:Nat) (o:Oper) (d:Nat),ops[j]?=some o->o.dst=some d->listed.getD j false=true->∃ av,L3 L d=some (.pu av)/\A2 ⟨n,fr,bx,ow⟩ be oe av (a.tmps.getD d undef)
abbrev u0n(P:Program)(h0:Hp)(w0:World)(ops:Array Oper)(b:List Nat)(n:Nat)(fr:List (Nat×AV))(f:List BSt)(g:List Own)(i:Hp)(c:Nat)(E:List (Nat×Oper))(d:List (Nat×V5))(K:St->Hp->Prop)(listed:Array Bool)(a:Act)(w:World):Prop :=
 V0k P h0 w0 ops b n fr f g i c E d (λdn r L st h=>evC (o9 d ⟨n,fr,f,g⟩ ops.toList) (ops.size,b) P (c-dn.length) r L st h K) listed a w
theorem n0s{ops:Array Oper}{Q:Exit->Act->World->Prop}{Inv:Array Bool->Act->World->Prop}(i:∀(k:Nat) (o:Oper),ops.toList[k]?=some o->∀ e∈o.after,Region.binds .any e=true->e.on<k)
  (n:∀ listed a w j o,listed.size=ops.size->listed.getD j true=false->ops[j]?=some o->(∀ e∈o.after,Region.binds .any e=true->listed.getD e.on false=true)->Inv listed a w->o.guard=none/\o.wp P a w (Inv (listed.setIfInBounds j true)) Q)
  (g:∀ listed a w,(∀ j,j<ops.size->listed.getD j false=true)->Inv listed a w->Q .normal a w) :
  ∀(fuel:Nat) (listed:Array Bool) (a:Act) (w:World),listed.size=ops.size->listed.toList.count true+fuel=ops.size->Inv listed a w->wpAny P .any ops Q fuel listed a w
 |0,listed,a,w,f,t,d=>by
  have s:∀ j,j<ops.size->listed.getD j false=true:=λj l=>by
   have c:∀ b∈listed.toList,true=b:=List.count_eq_length.1 (by grind)
   have x:j<listed.size:=by omega
   have:=c listed[j] (by simp)
   simp[x,←this]
  refine⟨?_,g listed a w s d⟩
  cases m:Region.ready .any ops listed with
  |nil=>rfl
  |cons j r =>
   grind[Region.ready,List.mem_cons_self,mem_ready,Array.getElem?_eq_some_iff]
 |fuel+1,listed,a,w,f,t,d=>by
  refine⟨λm=>g listed a w (x0b i f m) d,λj l=>?_⟩
  obtain⟨c,o,h,q⟩:=mem_ready.1 l
  unfold wpOp
  simp only[h]
  obtain⟨u,z⟩:=n listed a w j o f c h q d
  have y:Region.wanted o (yielded ops a.tmps)=true:=by unfold Region.wanted;rw[u]
  rw[if_pos y]
  exact .inl (Oper.wp_mono (λp A v=>n0s i n g fuel _ p A (by simpa using f) (by rw[count_set c];omega) v) z)
theorem n0a{ops:Array Oper}{listed:Array Bool}{X:List (Nat×Oper)}
  (g:∀(k:Nat) (o:Oper),ops[k]?=some o->listed.getD k false=true->∀ e∈o.after,Region.binds .any e=true->listed.getD e.on false=true)
  (s:∀ b∈X,ops[b.1]?=some b.2):∀(n i a:Nat) (q:Oper),ops[a]?=some q->listed.getD a false=true->o0h X n i q=true->listed.getD i false=true
 |0,i,a,q,j,h,l=>by
  obtain⟨e,c,d,f⟩:=P6 l
  have:=g a q j h e c d
  rwa [f]at this
 |n+1,i,a,q,j,h,l=>by
  simp only[o0h,Bool.or_eq_true,List.any_eq_true,Bool.and_eq_true]at l
  rcases l with m|⟨b,u,m,t⟩
  ·obtain⟨e,c,d,f⟩:=P6 m
   have:=g a q j h e c d
   rwa [f]at this
  ·obtain⟨e,c,d,f⟩:=P6 m
   have p:=g a q j h e c d
   rw[f]at p
   exact n0a g s n i b.1 b.2 (s b u) p t
theorem z0b{E:List (Nat×Oper)}{listed:Array Bool}{j:Nat}{o:Oper}(h:∀ e∈o.after,Region.binds .any e=true->listed.getD e.on false=true)
  (d:∀ dn r,E=dn++r->D04 r=true) {dn r:List (Nat×Oper)} (c:E=dn++r) (k:∀ p∈r,listed.getD p.1 true=false) (b:(j,o)∈r):∃ a,r=(j,o)::a:=by
 obtain⟨q,a,rfl⟩:∃ q a,r=q::a:=by
  cases r with
  |nil=>cases b
  |cons q a=>exact⟨q,a,rfl⟩
 rcases List.mem_cons.1 b with e|f
 ·grind
 ·exfalso
  obtain⟨p,i,g⟩:=S0d (q::a) (j,o) (d dn _ c) f
  grind[P6,Nat.lt_or_ge,Array.getElem?_eq_none]
theorem X0f{ops:Array Oper}{n:Nat}{fr:List (Nat×AV)}{Z:List BSt}{al:List Own}{aY:Hp}{c:Nat}{M:List Nat}{X E F:List (Nat×Oper)}{ae:List (Nat×V5)}{EV:List (Nat×Oper)->List (Nat×Oper)->List (Nat×V5)->St->Hp->Prop}{Q:Exit->Act->World->Prop}{listed:Array Bool}{j:Nat}{o:Oper}
  (bc:∀(i j:Nat) (m bt:Oper) (d:Nat),ops.toList[i]?=some m->ops.toList[j]?=some bt->m.dst=some d->bt.dst=some d->i=j)
  (bm:∀ o∈ops.toList,∀ d,o.dst=some d->d<n) (aq:n05 P ⟨n,fr,Z,al⟩ aY ops.toList ops.toList.length ae X E) (bD:∀ k∈M,∃ p∈E,p.1=k) (aR:∀ x∈F,x∈E) (bC:(j,o)∈E->(j,o)∈F) (bE:(F.map λp=>p.1).Nodup)
  (bY:∀ dn r,F=dn++r->(∀ p∈dn,listed.getD p.1 false=true)->(∀ p∈r,listed.getD p.1 true=false)->(j,o)∈r->∃ ad,r=(j,o)::ad)
  (aW:∀ dn ad L bx ow h,F=dn++(j,o)::ad->(∀ p∈dn,listed.getD p.1 false=true)->EV dn ((j,o)::ad) L ⟨n,fr,bx,ow⟩ h->b04 L fr o.op.operands.toList [] λV=>R7 P o ⟨n,V,bx,ow⟩ h λav st' aa=>match st' with
   |⟨_,_,C,I⟩=>m0b (c-dn.length) ow I h aa/\O0f (c-dn.length) (Y09 (ops.size,M) j o) (o9 ae ⟨n,fr,Z,al⟩ ops.toList) bx C/\X00 av λav=>S7 C λC=>S7 I λI=>EV (dn ++ [(j,o)]) ad (x06 o.dst (.pu av) L) ⟨n,fr,C,I⟩ aa)
  (aV:C0d X (X++E) (F.drop c)=true)
  (ab:listed.getD j true=false) (aD:ops[j]?=some o) (b4:listed.size=ops.size)
  (bj:∀ t,Operand.tmp t∈o.op.operands->∀(i:Nat) (m:Oper),ops.toList[i]?=some m->m.dst=some t->listed.getD i false=true)
  (bk:∀ e∈o.after,Region.binds .any e=true->listed.getD e.on false=true)
  (aX:V0k P h0 w0 ops M n fr Z al aY c F ae EV listed a w):o.guard=none/\o.wp P a w (V0k P h0 w0 ops M n fr Z al aY c F ae EV (listed.setIfInBounds j true)) Q:=by
 obtain⟨dn,r,L,bx,ow,aa,be,oe,H,O,ax,bi,ap,af,an,s,ag,R,ar⟩:=aX
 have aE:ops.toList[j]?=some o:=by simpa using aD
 have aM:o∈ops.toList:=List.mem_of_getElem? aE
 have aB:j<ops.toList.length:=(List.getElem?_eq_some_iff.1 aE).1
 have az:j<listed.size:=by simpa [b4] using aB
 have a1:(∀ p∈E,p.1≠j) -> ¬ ∀ k,k<ops.size->listed.getD k false=true∨k∈M:=λbO e=>by
  rcases e j (by simpa using aB)with l|l
  ·simp[az]at l ab
   rw[l]at ab;cases ab
  ·obtain⟨p,y,G⟩:=bD j l
   exact bO p y G
 have up:(∀ k,k<ops.size->listed.getD k false=true∨k∈M)->∀ k,k<ops.size->(listed.setIfInBounds j true).getD k false=true∨k∈M:=λe k ao=>(e k ao).imp (λh=>getD_set_true h) id
 obtain⟨bL,bS⟩:=aq.each j o aB aE
 refine⟨bL,?_⟩
 have bz:∀ t,L3 L t≠none->∃(i:Nat) (m:Oper),ops.toList[i]?=some m/\m.dst=some t:=λt z=>by
  cases h0':L3 ae t with
  |none=>exact absurd ((R t).1 h0') z
  |some f=>obtain⟨i,m,_,u,S⟩:=aq.key t f h0';exact⟨i,m,u,S⟩
 have frame:∀ t,(∀ aG∈ops.toList,aG.dst≠some t)->A2 ⟨n,fr,bx,ow⟩ be oe (j3 fr t) (a.tmps.getD t undef):=λt z=>by
  have g:=s.fr t
  change A2 _ be oe (j3 (w4 ops.toList fr) t) _ at g
  rw[Z00 z]at g
  exact A2.fr (st:=⟨n,w4 ops.toList fr,bx,ow⟩) (fr:=fr) g
 have aH:∀ t,Operand.tmp t∈o.op.operands->(∀ av,L3 L t=some (.pu av)->A2 ⟨n,fr,bx,ow⟩ be oe av (a.tmps.getD t undef))/\(L3 L t=none->A2 ⟨n,fr,bx,ow⟩ be oe (j3 fr t) (a.tmps.getD t undef)):=λt z=>by
  refine⟨λav bg=>?_,λbX=>frame t λaG bZ J=>?_⟩
  ·obtain⟨i,m,l,u⟩:=bz t (by rw[bg];simp)
   obtain⟨N,D,G⟩:=ar i m t (by simpa using l) u (bj t z i m l u)
   rw[bg]at D;cases D
   exact G
  ·obtain⟨i,aX,e⟩:=List.getElem_of_mem bZ
   have l:ops.toList[i]?=some aG:=by rw[List.getElem?_eq_getElem aX,e]
   obtain⟨N,D,_⟩:=ar i aG t (by simpa using l) J (bj t z i aG l J)
   rw[bX]at D;cases D
 have ac:∀ i,i≠j->∀ d,(listed.setIfInBounds j true).getD i d=listed.getD i d:=λi A d=>getD_set_ne d (Ne.symm A)
 have a2:∀ {C:List BSt} {I:List Own} {W:Hp} {be':Nat->Nat} {oe':Nat->Value} {U:Hp} {v:Value} {am:World},Sim P h0 w0 be' oe' U ⟨n,w4 ops.toList fr,C,I⟩ W a am->Sim P h0 w0 be' oe' U ⟨n,w4 ops.toList fr,C,I⟩ W (a.put o.dst v) am:=by
  intro C I W be' oe' U v am s1
  cases J:o.dst with
  |none=>exact s1
  |some d =>
   have y:=s1.put (d:=d) (av := .dead) (v:=v) (bm o aM d J) trivial
   refine y.refr (fr:=w4 ops.toList fr) λt=>?_
   have g:=y.fr t
   change A2 _ _ _ (j3 ((d,.dead)::w4 ops.toList fr) t) _ at g
   rw[U3]at g
   split at g
   ·rename_i e
    subst e
    rw[g02 aM J]
    trivial
   ·exact g
 have a3:∀(v:Value) (i:Nat) (m:Oper) (d:Nat),ops[i]?=some m->m.dst=some d->i≠j->(a.put o.dst v).tmps.getD d undef=a.tmps.getD d undef:=λv i m d l u A=>by
  cases J:o.dst with
  |none=>rfl
  |some ba =>
   have ai:ba≠d:=λe=>by subst e;exact A (bc i j m o ba (by simpa using l) aE u J)
   simp[Act.put,Array.getElem?_setIfInBounds_ne ai]
 have a4:∀(v:Value) (d:Nat),o.dst=some d->(a.put o.dst v).tmps.getD d undef=v:=λv d J=>by
  have aB:d<a.tmps.size:=by rw[s.siz];exact bm o aM d J
  rw[J]
  simp[Act.put,aB]
 have aS:∀(i:Nat) (m:Oper),ops[i]?=some m->(listed.setIfInBounds j true).getD i false=true->∀ e∈m.after,Region.binds .any e=true->(listed.setIfInBounds j true).getD e.on false=true:=λi m l u e aK aL=>by
  by_cases A:i=j
  ·subst A
   rw[aD]at l;cases l
   exact getD_set_true (bk e aK aL)
  ·rw[ac i A]at u
   exact getD_set_true (bi i m l u e aK aL)
 rcases bS with ay|⟨aC,av,b0|⟨bN,bT⟩,bf⟩
 ·
  have bQ:(j,o)∈r:=by
   have ay:=bC ay
   rw[O]at ay
   rcases List.mem_append.1 ay with aj|aj
   ·have l:=af _ aj
    simp[az]at l ab
    rw[l]at ab;cases ab
   ·exact aj
  obtain⟨ad,rfl⟩:=bY dn r O af ap bQ
  have ag:=aW dn ad L bx ow aa O af ag
  obtain⟨V,ag,g1⟩:=K01 (acc:=[]) (st:=⟨n,fr,bx,ow⟩) (stX:=⟨n,fr,bx,ow⟩) (be:=be) (oe:=oe) (val:=λt=>a.tmps.getD t undef) (λt=>trivial) (λt z=>aH t (by simpa using z)) ag
  have aZ:Sim P h0 w0 be oe H ⟨n,V,bx,ow⟩ aa a w:=s.refr (fr:=V) λt=>A2.fr (st:=⟨n,fr,bx,ow⟩) (fr:=w4 ops.toList fr) (g1 t)
  refine Oper.wp_mono (λbA am aj=>?_) (J9 aZ ag)
  obtain⟨N,⟨Y,bb,C,I⟩,W,v,be',oe',U,ao,rfl,s2,g2,K⟩:=aj
  obtain⟨aU,T,ao⟩:=ao
  rw[I02,d02,d02]at ao
  have bW:Y=n:=by
   have D:a.tmps.size=Y:=s2.siz
   have G:a.tmps.size=n:=s.siz
   omega
  subst bW
  have aO:J6 ⟨Y,fr,bx,ow⟩ be oe ⟨Y,fr,C,I⟩ be' oe':=⟨K.bl,K.be,K.sm⟩
  have aP:J6 ⟨Y,w4 ops.toList fr,bx,ow⟩ be oe ⟨Y,w4 ops.toList fr,C,I⟩ be' oe':=⟨K.bl,K.be,K.sm⟩
  have a0:Sim P h0 w0 be' oe' U ⟨Y,w4 ops.toList fr,C,I⟩ W a am :=
   s2.refr (fr:=w4 ops.toList fr) λt=>A2.fr (st:=⟨Y,w4 ops.toList fr,C,I⟩) (fr:=bb) ((s.fr t).grow aP)
  have b5:∀ d,o.dst=some d->L3 (x06 o.dst (.pu N) L) d=some (.pu N):=λd J=>by
   rw[J];show L3 ((d,.pu N)::L) d=_;rw[y00,if_pos rfl]
  have bo:∀ t,o.dst≠some t->L3 (x06 o.dst (.pu N) L) t=L3 L t:=λt z=>by
   cases J:o.dst with
   |none=>rfl
   |some d =>
    show L3 ((d,.pu N)::L) t=_
    rw[y00,if_neg λe=>z (by rw[J,e])]
  have bs:Y09 (ops.size,M) j o=true->∀ k,k<ops.size->(listed.setIfInBounds j true).getD k false=true∨k∈M:=λah k bR=>by
   by_cases hkj:k=j
   ·subst hkj;left;simp[az]
   ·rw[ac k hkj]
    rcases Y08 (show A07 M ops.size j o=true from ah) k bR hkj with⟨e,aK,aL,rfl⟩|ap
    ·exact .inl (bk e aK aL)
    ·exact .inr ap
  refine⟨dn ++ [(j,o)],ad,x06 o.dst (.pu N) L,C,I,W,be',oe',U,by rw[O];simp,λaA=>(by
   have b7:dn.length<c:=by simp only[List.length_append,List.length_singleton]at aA;omega
   obtain⟨D,G,aw⟩:=ax (by omega)
   obtain⟨aN,bH⟩:∃ aN,c-dn.length=aN+1:=⟨c-dn.length-1,by omega⟩
   rw[bH]at aU T
   refine⟨aU.1.trans D,λb o bF=>aU.2 b o (G b o bF),?_⟩
   cases ah:Y09 (ops.size,M) j o with
   |true=>exact .inr (bs ah)
   |false =>
    rw[ah]at T
    rcases aw with aw|aw
    ·exact .inl (T.trans aw)
    ·exact .inr (up aw)),aS,λp y=>?_,λp y=>?_,?_,a2 a0,ao,λt=>?_,λi m d l u S=>?_⟩
  ·have ai:p.1≠j:=λe=>by
    have bn:=bE
    rw[O,List.map_append,List.nodup_append]at bn
    have u:=bn.2.1
    rw[List.map_cons,List.nodup_cons]at u
    exact u.1 (List.mem_map.2 ⟨p,y,e⟩)
   rw[ac _ ai]
   exact ap p (mC _ y)
  ·rcases List.mem_append.1 y with y|y
   ·exact getD_set_true (af p y)
   ·simp at y
    subst y
    simp[az]
  ·cases ah:Y09 (ops.size,M) j o with
   |false =>
    rw[ah]at T
    rcases an with an|an
    ·left
     rw[←an]
     cases hc:c-dn.length with
     |zero=>rw[hc]at T;exact T
     |succ aN =>
      rw[hc]at T
      have T:C=bx:=T
      rw[T]
    ·exact .inr (up an)
   |true=>exact .inr (bs ah)
  ·by_cases z:o.dst=some t
   ·obtain⟨_,_,aJ⟩:=aq.eff (j,o) ay
    obtain⟨F,aJ⟩:=aJ t z
    exact⟨λe=>(by rw[aJ]at e;cases e),λav e=>(by rw[aJ]at e;cases e)⟩
   ·rw[bo t z]
    exact R t
  ·by_cases A:i=j
   ·subst A
    rw[aD]at l;cases l
    exact⟨N,b5 d u,by rw[a4 v d u];exact A2.fr (st:=⟨Y,bb,C,I⟩) (fr:=fr) g2⟩
   ·rw[ac _ A]at S
    obtain⟨au,D,G⟩:=ar i m d l u S
    have bI:o.dst≠some d:=λe=>A (bc i j m o d (by simpa using l) aE u e)
    exact⟨au,by rw[bo d bI];exact D,by rw[a3 v i m d l u A];exact G.grow aO⟩
 ·
  have bh:P08 bx (o9 ae ⟨n,fr,Z,al⟩ ops.toList)=P08 Z (o9 ae ⟨n,fr,Z,al⟩ ops.toList):=an.resolve_right (a1 aC)
  have bu:∀ {av:AV} {x:Value},A2 ⟨n,fr,bx,ow⟩ be oe av x->A2 ⟨n,w4 ops.toList fr,bx,ow⟩ be oe av x:=λg=>A2.fr (st:=⟨n,fr,bx,ow⟩) (fr:=w4 ops.toList fr) g
  obtain⟨v,b3,bB⟩:=t0n (st:=⟨n,fr,Z,al⟩) (stX:=⟨n,w4 ops.toList fr,bx,ow⟩) s (λb8 x i off D G=>W0f bh (R0d D G aM)) b0 (λt z=>⟨λav e=>bu ((aH t z).1 av ((R t).2 av e)),λe=>bu ((aH t z).2 ((R t).1 e))⟩)
  refine B7 b3 ?_
  refine⟨dn,r,L,bx,ow,aa,be,oe,H,O,(λaA=>⟨(ax aA).1,(ax aA).2.1,.inl ((ax aA).2.2.resolve_right (a1 aC))⟩),aS,λp y=>?_,λp y=>getD_set_true (af p y),.inl bh,a2 s,ag,R,λi m d l u S=>?_⟩
  ·have ai:p.1≠j:=aC p (aR _ (by rw[O];exact List.mem_append_right _ y))
   rw[ac _ ai]
   exact ap p y
  ·by_cases A:i=j
   ·subst A
    rw[aD]at l;cases l
    exact⟨av,(R d).2 av (bf d u),by rw[a4 v d u];exact A2.fr (st:=⟨n,w4 ops.toList fr,bx,ow⟩) (fr:=fr) bB⟩
   ·rw[ac _ A]at S
    obtain⟨au,D,G⟩:=ar i m d l u S
    exact⟨au,D,by rw[a3 v i m d l u A];exact G⟩
 ·
  have bJ:dn.length<=c:=by
   rcases Nat.lt_or_ge c dn.length with bU|bM
   ·exfalso
    obtain⟨⟨ak,q⟩,bp⟩:∃ b6,dn[c]?=some b6:=⟨_,List.getElem?_eq_getElem bU⟩
    have bq:(ak,q)∈dn:=List.mem_of_getElem? bp
    have bK:∃ t,F.drop c=(ak,q)::t:=by
     obtain⟨bV,G⟩:=List.getElem?_eq_some_iff.1 bp
     refine⟨(dn++r).drop (c+1),?_⟩
     rw[O,List.drop_eq_getElem_cons (by simp;omega),List.getElem_append_left bV,G]
    have bP:listed.getD j false=false:=by simp[az]at ab ⊢;exact ab
    have b1:listed.getD ak false=true:=af (ak,q) bq
    have b2:ops[ak]?=some q:=by
     have:=(aq.eff (ak,q) (aR _ (by rw[O];exact List.mem_append_left _ bq))).2.1
     simpa using this
    obtain⟨t,z⟩:=bK
    rw[z]at aV
    simp only[C0d,List.all_eq_true]at aV
    have:=n0a (X:=X++E) bi (λbv aF=>by
     rcases List.mem_append.1 aF with aF|aF
     ·have aQ:=(aq.xx bv aF).2;simpa using aQ
     ·have aQ:=(aq.eff bv aF).2.1;simpa using aQ) 8 j ak q b2 b1 (aV (j,o) bN)
    rw[bP]at this;cases this
   ·exact bM
  obtain⟨rfl,br,bG⟩:=ax bJ
  obtain rfl:=bG.resolve_right (a1 aC)
  obtain⟨V,aW,g1⟩:=K01 (acc:=[]) (st:=⟨n,fr,bx,ow⟩) (stX:=⟨n,fr,bx,ow⟩) (be:=be) (oe:=oe) (val:=λt=>a.tmps.getD t undef) (λt=>trivial)
   (λt z=>⟨λav e=>(aH t (by simpa using z)).1 av ((R t).2 av e),λe=>(aH t (by simpa using z)).2 ((R t).1 e)⟩) (bT aa br)
  have aZ:Sim P h0 w0 be oe H ⟨n,V,bx,ow⟩ aa a w:=s.refr (fr:=V) λt=>A2.fr (st:=⟨n,fr,bx,ow⟩) (fr:=w4 ops.toList fr) (g1 t)
  refine Oper.wp_mono (λbA am aj=>?_) (J9 aZ aW)
  obtain⟨N,st',W,v,be',oe',U,⟨rfl,rfl,rfl⟩,rfl,s2,g2,K⟩:=aj
  have aO:J6 ⟨n,fr,bx,ow⟩ be oe ⟨n,fr,bx,ow⟩ be' oe':=⟨K.bl,K.be,K.sm⟩
  have aP:J6 ⟨n,w4 ops.toList fr,bx,ow⟩ be oe ⟨n,w4 ops.toList fr,bx,ow⟩ be' oe':=⟨K.bl,K.be,K.sm⟩
  have a0:Sim P h0 w0 be' oe' U ⟨n,w4 ops.toList fr,bx,ow⟩ W a am :=
   s2.refr (fr:=w4 ops.toList fr) λt=>A2.fr (st:=⟨n,w4 ops.toList fr,bx,ow⟩) (fr:=V) ((s.fr t).grow aP)
  refine⟨dn,r,L,bx,ow,W,be',oe',U,O,λ_=>⟨rfl,br,.inl rfl⟩,aS,λp y=>?_,λp y=>getD_set_true (af p y),.inl rfl,a2 a0,ag,R,λi m d l u S=>?_⟩
  ·have ai:p.1≠j:=aC p (aR _ (by rw[O];exact List.mem_append_right _ y))
   rw[ac _ ai]
   exact ap p y
  ·by_cases A:i=j
   ·subst A
    rw[aD]at l;cases l
    exact⟨N,(R d).2 N (bf d u),by rw[a4 v d u];exact A2.fr (st:=⟨n,V,bx,ow⟩) (fr:=fr) g2⟩
   ·rw[ac _ A]at S
    obtain⟨au,D,G⟩:=ar i m d l u S
    exact⟨au,D,by rw[a3 v i m d l u A];exact G.grow aO⟩
theorem e0t{ops:Array Oper}{n:Nat}{fr:List (Nat×AV)}{m:List BSt}{s:List Own}{q:Hp}{c:Nat}{g:List Nat}{X E:List (Nat×Oper)}{l:List (Nat×V5)}{K:St->Hp->Prop}{Q:Exit->Act->World->Prop}{listed:Array Bool}{j:Nat}{o:Oper}
  (A:∀(i j:Nat) (b y:Oper) (d:Nat),ops.toList[i]?=some b->ops.toList[j]?=some y->b.dst=some d->y.dst=some d->i=j)
  (N:∀ o∈ops.toList,∀ d,o.dst=some d->d<n) (z:n05 P ⟨n,fr,m,s⟩ q ops.toList ops.toList.length l X E) (C:∀ k∈g,∃ p∈E,p.1=k) (D:D04 E=true) (H:C0d X (X++E) (E.drop c)=true)
  (J:listed.getD j true=false) (O:ops[j]?=some o) (S:listed.size=ops.size)
  (F:∀ t,Operand.tmp t∈o.op.operands->∀(i:Nat) (b:Oper),ops.toList[i]?=some b->b.dst=some t->listed.getD i false=true)
  (v:∀ e∈o.after,Region.binds .any e=true->listed.getD e.on false=true)
  (I:u0n P h0 w0 ops g n fr m s q c E l K listed a w):o.guard=none/\o.wp P a w (u0n P h0 w0 ops g n fr m s q c E l K (listed.setIfInBounds j true)) Q:=by
 refine X0f A N z C (λx T=>T) id z.nd (λdn r f G R M=>?_) (λdn U L bx ow h f G u=>?_) H J O S F v I
 ·exact z0b v (λdn r f=>X02 dn r (by rw[←f];exact D)) f R M
 ·simp only[evC]at u
  have e:c-(dn ++ [(j,o)]).length=c-dn.length-1:=by simp;omega
  simp only[e]
  exact u
theorem T0d:∀ {k:Nat} {E:List (Nat×Oper)} {f:Nat×Oper} {a:List (Nat×Oper)},P0f k E=some (f,a)->∃ A B,E=A++f::B/\a=A++B
 |_,[],f,a,h=>by simp[P0f]at h
 |0,x::r,f,a,h=>by
  simp only[P0f,Option.some.injEq,Prod.mk.injEq]at h
  obtain⟨rfl,rfl⟩:=h
  exact⟨[],r,rfl,rfl⟩
 |k+1,x::r,f,a,h=>by
  simp only[P0f]at h
  split at h
  ·rename_i c d b
   simp only[Option.some.injEq,Prod.mk.injEq]at h
   obtain⟨rfl,rfl⟩:=h
   obtain⟨A,B,rfl,rfl⟩:=T0d b
   grind
  ·cases h
theorem Y0f{f:Nat×Oper}:∀ {p:Nat} {E:List (Nat×Oper)},k0n f p E=true->∃ q,E[p]?=some q/\O7 f.1 q.2=true
 |_,[],h=>by simp[k0n]at h
 |0,(i,q)::r,h=>⟨(i,q),rfl,by simpa [k0n] using h⟩
 |p+1,x::r,h=>by
  obtain⟨q,a,b⟩:=Y0f (E:=r) (p:=p) (by simpa [k0n] using h)
  grind
theorem W0i:∀ {X:List (Nat×Oper)},noX X=true->X = []
 | [],_=>rfl
 |_::_,h=>by simp[noX]at h
theorem a06{Y:List (Nat×Oper)}:∀(E:List (Nat×Oper)),C0d [] Y E=true
 | []=>rfl
 |_::_=>rfl
theorem m04{l:Array Bool}{j:Nat}(h:l.getD j true=false):l.getD j false=false:=by
 grind
theorem b06{listed:Array Bool}:∀ {A B dn r:List (Nat×Oper)},A++B=dn++r->(∀ p∈A,listed.getD p.1 false=true)->(∀ p∈r,listed.getD p.1 true=false)->∃ C,dn=A++C/\B=C++r
 | [],B,dn,r,h,_,_=>⟨dn,rfl,by simpa using h⟩
 |x::A,B,[],r,h,a,b=>by
  grind
 |x::A,B,g::dn,r,h,a,b=>by
  simp only[List.cons_append,List.cons.injEq]at h
  obtain⟨rfl,h⟩:=h
  obtain⟨C,d,f⟩:=b06 h (λp c=>a p (mC _ c)) b
  grind
theorem X0i{rd:List Nat}{d:Nat×List Nat}{c:Nat}{L:List (Nat×V5)}{K:St->Hp->Prop}{dn g:List (Nat×Oper)}{j:Nat}{o:Oper}{n:Nat}{fr:List (Nat×AV)}{bx:List BSt}{ow:List Own}{h:Hp}
  (k:evC rd d P (c-dn.length) ((j,o)::g) L ⟨n,fr,bx,ow⟩ h K):b04 L fr o.op.operands.toList [] λi=>R7 P o ⟨n,i,bx,ow⟩ h λav st' f=>match st' with
   |⟨_,_,a,b⟩=>m0b (c-dn.length) ow b h f/\O0f (c-dn.length) (Y09 d j o) rd bx a/\X00 av λav=>S7 a λa=>S7 b λb=>evC rd d P (c-(dn ++ [(j,o)]).length) g (x06 o.dst (.pu av) L) ⟨n,fr,a,b⟩ f K:=by
 simp only[evC]at k
 have e:c-(dn ++ [(j,o)]).length=c-dn.length-1:=by simp;omega
 simp_all
def Q0o(rd:List Nat)(c:Nat×List Nat)(P:Program)(m:Nat)(x:Nat×Oper)(r:List (Nat×Oper))(L:List (Nat×V5))(st:St)(h:Hp)(K:St->Hp->Prop):Prop:=match st with
 |⟨n,fr,bx,ow⟩=>b04 L fr x.2.op.operands.toList [] λf=>R7 P x.2 ⟨n,f,bx,ow⟩ h λav st' d=>match st' with
  |⟨_,_,a,b⟩=>m0b 0 ow b h d/\O0f 0 (Y09 c x.1 x.2) rd bx a/\X00 av λav=>S7 a λa=>S7 b λb=>E0i rd c P m r (x06 x.2.dst (.pu av) L) ⟨n,fr,a,b⟩ d K
theorem w0c{x:Nat×Oper}:∀ {r:List (Nat×Oper)},(∀ a∈r,O7 a.1 x.2=false)->p0h x r=true
 | [],_=>rfl
 |a::r,h=>by
  simp only[p0h,Bool.and_eq_true]
  exact⟨by rw[h a mS];rfl,w0c λz b=>h z (mC _ b)⟩
theorem Z0l{f:(Nat×Oper)->List (Nat×Oper)->Prop}{x:Nat×Oper}:∀ {B C A:List (Nat×Oper)},(∀ a∈C++A++B,O7 a.1 x.2=false)->M0k f (n0b C (A++x::B))->f x (C++A++B)
 |B,C,[],b,h=>by
  simp only[List.nil_append,n0b,M0k]at h
  rw[w0c (by simpa using b)]at h
  simpa using h.1
 |B,C,a::A,b,h=>by
  simp only[List.cons_append,n0b,M0k]at h
  have c:M0k f (n0b (C ++ [a]) (A++x::B)):=by
   split at h
   ·exact h.2
   ·exact h
  have:=Z0l (A:=A) (C:=C ++ [a]) (by simpa using b) c
  simpa using this
theorem S0q{rd:List Nat}{a:Nat×List Nat}{m:Nat}{L:List (Nat×V5)}{st:St}{h:Hp}{K:St->Hp->Prop}{j:Nat}{o:Oper}{A B:List (Nat×Oper)}(c:∀ d∈A++B,O7 d.1 o=false)
  (b:E0i rd a P (m+1) (A++(j,o)::B) L st h K):Q0o rd a P m (j,o) (A++B) L st h K:=by
 obtain⟨n,fr,bx,ow⟩:=st
 simp only[E0i]at b
 have:=Z0l (C:=[]) (x:=(j,o)) (by simpa using c) b
 exact this
theorem R0o{a b:Nat}(h:a≠b):Nat.beq a b=false:=by
 cases e:Nat.beq a b
 ·rfl
 ·exact absurd (Nat.eq_of_beq_eq_true e) h
theorem E0h:∀(l:List (Nat×Oper)),x0f l=l.length
 | []=>rfl
 |_::r=>by rw[x0f,E0h r];rfl
theorem S0o{f:Nat×Oper}{rd:List Nat}{N:Nat×List Nat}{K:St->Hp->Prop}{h:Hp}{st:St}{L:List (Nat×V5)}:∀ {p:Nat} {E:List (Nat×Oper)},I0q f rd N P p E L st h K->evC rd N P 0 (f::E) L st h K
 |0,_,h=>h
 |_+1,_,h=>h.1
theorem o0s{ops:Array Oper}{n:Nat}{fr:List (Nat×AV)}{bx:List BSt}{ow:List Own}{u:Hp}{c:Nat}{z:List Nat}{X E F:List (Nat×Oper)}{d:List (Nat×V5)}{K:St->Hp->Prop}{R:Act->World->Prop}{listed:Array Bool}
  (y:n05 P ⟨n,fr,bx,ow⟩ u ops.toList ops.toList.length d X E) (I:∀ x∈F,x∈E)
  (J:∀ a w st h be oe H,K st h->Sim P h0 w0 be oe H st h a w->R a w) (N:∀ j,j<ops.size->listed.getD j false=true)
  (M:u0n P h0 w0 ops z n fr bx ow u c F d K listed a w):R a w:=by
  obtain⟨dn,r,L,bx,T,D,be,oe,H,G,_,_,O,Y,_,s,q,U,A⟩:=M
  have Q:r = []:=by
   cases r with
   |nil=>rfl
   |cons p ac =>
    have k:=O p mS
    have l:=(y.eff p (I _ (by rw[G];simp))).1
    grind
  subst Q
  simp only[evC,d02]at q
  refine J a w _ D be oe H q (s.refr (fr:=C0i L fr) λt=>?_)
  rw[y0b]
  have S:∀ t,L3 L t≠none->∃(i:Nat) (b:Oper),ops[i]?=some b/\b.dst=some t/\i<ops.size:=λt ab=>by
   cases h0':L3 d t with
   |none=>grind
   |some f =>
    obtain⟨i,b,k,l,o⟩:=y.key t f h0'
    grind
  cases hL:L3 L t with
  |none =>
   have Z:∀ v∈ops.toList,v.dst≠some t:=λv aa W=>by
    grind[List.getElem_of_mem]
   have g:=s.fr t
   grind[A2,j3,w4,Z00]
  |some f =>
   cases f with
   |ef F=>trivial
   |pu av =>
    obtain⟨i,b,k,l,o⟩:=S t (by rw[hL];simp)
    obtain⟨V,m,C⟩:=A i b t k l (N i o)
    rw[hL]at m;cases m
    exact A2.fr (st:=⟨n,fr,bx,T⟩) (fr:=w4 ops.toList fr) C
theorem Y0i{ops:Array Oper}{st:St}{K:St->Hp->Prop}{Q:Exit->Act->World->Prop}{R:Act->World->Prop}(s:Sim P h0 w0 be oe H st h a w)(an:A02 st.n ops.toList=true)
  (O:q03 P st h ops.toList 0 [] [] [] λL X E=>evD (o9 L st ops.toList) ops.size P X E L st h K)
  (aZ:∀ a w st h be oe H,K st h->Sim P h0 w0 be oe H st h a w->R a w) :
  ∃ Inv:Array Bool->Act->World->Prop,(∀(k:Nat) (o:Oper),ops.toList[k]?=some o->∀ e∈o.after,Region.binds .any e=true->e.on<k) /\
   (∀ listed a w j o,listed.size=ops.size->listed.getD j true=false->ops[j]?=some o->(∀ e∈o.after,Region.binds .any e=true->listed.getD e.on false=true)->Inv listed a w->o.guard=none/\o.wp P a w (Inv (listed.setIfInBounds j true)) Q) /\
   (∀ listed a w,(∀ j,j<ops.size->listed.getD j false=true)->Inv listed a w->R a w)/\Inv (Array.replicate ops.size false) a w:=by
 simp only[A02,Bool.and_eq_true]at an
 obtain⟨⟨bA,bB⟩,bC⟩:=an
 obtain⟨ar,ae⟩:=O04 bA
 have aM:∀(k:Nat) (o:Oper),ops.toList[k]?=some o->∀ e∈o.after,Region.binds .any e=true->e.on<k:=λk o a4 e a1 an=>by
  have:=s03 bB k o a4 e a1 an
  omega
 have bj:=G06 bC
 obtain⟨S,X,E,af,N⟩:=o05 (ops:=ops.toList) ae (λj o t i aj v y D bF=>by
  obtain⟨e,a1,an,rfl⟩:=bj o (List.mem_of_getElem? v) t y i aj D bF
  exact aM j o v e a1 an) ops.toList 0 [] [] [] (λj=>by simp) ⟨λt f h=>(by cases h),λi aj d G=>by omega,λj o b7=>by omega,λp m=>(by cases m),by simp,λp m=>(by cases m)⟩ O
 obtain⟨n,fr,bx,ow⟩:=st
 have am:∀(listed:Array Bool) (j:Nat) (o:Oper),ops[j]?=some o->(∀ e∈o.after,Region.binds .any e=true->listed.getD e.on false=true)->∀ t,Operand.tmp t∈o.op.operands->∀(i:Nat) (aj:Oper),ops.toList[i]?=some aj->aj.dst=some t->listed.getD i false=true:=λlisted j o y D t bT i aj bN aA=>by
  obtain⟨e,ap,aq,rfl⟩:=bj o (List.mem_of_getElem? (i:=j) (by simpa using y)) t bT i aj bN aA
  exact D e ap aq
 have init:∀(c:Nat) (F:List (Nat×Oper)) (EV:List (Nat×Oper)->List (Nat×Oper)->List (Nat×V5)->St->Hp->Prop),(∀ x∈F,x∈E)->EV [] F S ⟨n,fr,bx,ow⟩ h->V0k P h0 w0 ops (E08 E) n fr bx ow h c F S EV (Array.replicate ops.size false) a w:=λc F EV bI ag=>by
  refine⟨[],F,S,bx,ow,h,be,oe,H,rfl,λ_=>⟨rfl,λ_ _ h=>h,.inl rfl⟩,λj o v y=>by(simp[Array.getElem?_replicate]at y;split at y<;>cases y),λp m=>?_,λp m=>(by cases m),.inl rfl,s.refr (fr:=w4 ops.toList fr) λt=>?_,ag,λt=>⟨id,λav=>id⟩,λj o d v y D=>?_⟩
  ·have:=(N.eff p (bI p m)).1
   have y:p.1<ops.size:=by simpa using this
   simp[y]
  ·by_cases b:∃ o∈ops.toList,o.dst=some t
   ·obtain⟨o,v,y⟩:=b
    rw[g02 v y]
    trivial
   ·rw[Z00 λo bP af=>b ⟨o,bP,af⟩]
    exact s.fr t
  ·simp[Array.getElem?_replicate]at D
   split at D<;>cases D
 rcases af with⟨c,⟨aO,bK⟩,ag⟩|⟨k,p,af⟩
 ·refine⟨u0n P h0 w0 ops (E08 E) n fr bx ow h c E S K,aM,(λlisted a w j o Y v y D G=>e0t ae ar N (λ_=>P04) aO bK v y Y (am listed j o y D) D G),(λlisted a w ah G=>o0s N (λx b=>b) aZ ah G),init c E _ (λx b=>b) ag⟩
 ·split at af
  ·rename_i f b6 a4
   obtain⟨⟨a0,aO,bM⟩,ag⟩:=af
   obtain rfl:=W0i a0
   obtain⟨A,B,rfl,rfl⟩:=T0d a4
   obtain⟨q,au,bQ⟩:=Y0f bM
   have bL:f∈A++f::B:=by simp
   have bk:=N.eff f bL
   have a2:ops[f.1]?=some f.2:=by simpa using bk.2.1
   have bn:f.1<ops.size:=by simpa using bk.1
   have bc:∀ x∈A++B,x∈A++f::B:=λx b=>by
    rcases List.mem_append.1 b with b|b
    ·exact List.mem_append_left _ b
    ·exact List.mem_append_right _ (mC _ b)
   have bU:((A++B).map λp=>p.1).Nodup:=by
    have:=N.nd
    rw[List.map_append,List.nodup_append]at this ⊢
    obtain⟨bt,bf,bg⟩:=this
    rw[List.map_cons,List.nodup_cons]at bf
    exact⟨bt,bf.2,λx b ax ai=>bg x b ax (by rw[List.map_cons];exact mC _ ai)⟩
   have perm:∀ I J,A++B=I++J->((I++f::J).map λp=>p.1).Nodup:=λI J e=>by
    have v:(A++f::B).Perm (I++f::J):=List.perm_middle.trans ((List.Perm.cons f (by rw[e])).trans List.perm_middle.symm)
    exact(v.map _).nodup N.nd
   have aD:∀ I J,A++B=I++J->∀ x,x∈I++f::J↔x∈A++f::B:=λI J e x=>by
    have v:x∈A++B↔x∈I++J:=by rw[e]
    simp only[List.mem_append,List.mem_cons]at v ⊢
    constructor
    ·rintro(h|h|h)
     ·rcases v.2 (.inl h)with h|h
      ·exact .inl h
      ·exact .inr (.inr h)
     ·exact .inr (.inl h)
     ·rcases v.2 (.inr h)with h|h
      ·exact .inl h
      ·exact .inr (.inr h)
    ·rintro(h|h|h)
     ·rcases v.1 (.inl h)with h|h
      ·exact .inl h
      ·exact .inr (.inr h)
     ·exact .inr (.inl h)
     ·rcases v.1 (.inr h)with h|h
      ·exact .inl h
      ·exact .inr (.inr h)
   let rd:=o9 S ⟨n,fr,bx,ow⟩ ops.toList
   let Z:List (Nat×Oper)->List (Nat×Oper)->List (Nat×V5)->St->Hp->Prop:=λdn r L st h=>I0q f rd (ops.size,E08 (A++f::B)) P (p-dn.length) r L st h K
   refine⟨λlisted a w=>(listed.getD f.1 true=false/\V0k P h0 w0 ops (E08 (A++f::B)) n fr bx ow h 0 (A++B) S Z listed a w) ∨
    (listed.getD f.1 false=true/\∃ I J,A++B=I++J/\(∀ p∈I,listed.getD p.1 false=true)/\u0n P h0 w0 ops (E08 (A++f::B)) n fr bx ow h 0 (I++f::J) S K listed a w),aM,(λlisted a w j o Y v y D G=>?_),(λlisted a w ah G=>?_),.inl ⟨by simp[bn],init 0 (A++B) Z bc ag⟩⟩
   ·have a3:j<listed.size:=by rw[Y];exact(Array.getElem?_eq_some_iff.1 y).1
    have bb:∀ {x:Nat},listed.getD x false=true->(listed.setIfInBounds j true).getD x false=true:=λh=>getD_set_true h
    rcases G with⟨hf,G⟩|⟨hf,I,J,u,hd1,G⟩
    ·have bl:=m04 hf
     by_cases aQ:j=f.1
     ·
      subst aQ
      rw[a2]at y;cases y
      obtain⟨dn,r,L,al,aw,az,be',oe',ay,u,aE,ak,ac,W,aF,aG,ad,aH,aJ⟩:=G
      have aA:u0n P h0 w0 ops (E08 (A++f::B)) n fr bx ow h 0 (dn++f::r) S K listed a w :=
       ⟨dn,f::r,L,al,aw,az,be',oe',ay,rfl,aE,ak,λp m=>by
        rcases List.mem_cons.1 m with rfl|m
        ·exact hf
        ·exact ac p m,W,aF,aG,by show evC _ _ _ (0-dn.length) _ _ _ _ _;rw[Nat.zero_sub];exact S0o ad,aH,aJ⟩
      have:=X0f (F:=dn++f::r) (j:=f.1) (o:=f.2) (Q:=Q) ae ar N (λ_=>P04) (λx b=>(aD dn r u x).1 b) (λb=>(aD dn r u _).2 b) (perm dn r u) (λM V e g1 g2 g3=>by
       obtain⟨C,U,T⟩:=b06 (listed:=listed) e W g2
       cases C with
       |nil=>exact⟨r,by simpa using T.symm⟩
       |cons z C =>
        exfalso
        simp only[List.cons_append,List.cons.injEq]at T
        have:=g1 f (by rw[U,T.1];simp)
        rw[bl]at this;cases this) (λdn V L bx ow h u ao O=>X0i O) (a06 _) v a2 Y (am listed f.1 f.2 a2 D) D aA
      exact⟨this.1,Oper.wp_mono (λaK aS b => .inr ⟨by simp[a3],dn,r,u,λp m=>bb (W p m),b⟩) this.2⟩
     ·have bO:(j,o)≠f:=λe=>aQ (by rw[←e])
      have bJ:∀(j:Nat) (o:Oper),ops[j]?=some o->listed.getD j false=true->∀ e∈o.after,Region.binds .any e=true->listed.getD e.on false=true:=by
       obtain⟨_,_,_,_,_,_,_,_,_,_,_,ak,_⟩:=G
       exact ak
      have:=X0f (F:=A++B) (Q:=Q) (EV:=Z) ae ar N (λ_=>P04) bc (λb=>by
       rcases List.mem_append.1 b with b|b
       ·exact List.mem_append_left _ b
       ·rcases List.mem_cons.1 b with b|b
        ·exact absurd b bO
        ·exact List.mem_append_right _ b) bU (λdn r u ao bs aB=>z0b D (λdn r u=>X02 dn r (by rw[←u];exact aO)) u bs aB) (λdn V L aL aR h u ao O=>by
       have b8:dn.length<p:=by
        rcases Nat.lt_or_ge dn.length p with g|g
        ·exact g
        ·exfalso
         have bm:listed.getD f.1 false=true:=by
          rw[u]at au
          obtain⟨e,ap,aq,aP⟩:=P6 bQ
          rcases Nat.lt_or_ge p dn.length with g2|g2
          ·rw[List.getElem?_append_left g2]at au
           have br:q∈dn:=List.mem_of_getElem? au
           have:=(N.eff q (bc q (by rw[u];exact List.mem_append_left _ br))).2.1
           have:=bJ q.1 q.2 (by simpa using this) (ao q br) e ap aq
           rwa [aP]at this
          ·have U:p=dn.length:=by omega
           rw[U,List.getElem?_append_right (Nat.le_refl _)]at au
           simp at au
           subst au
           have:=D e ap aq
           rwa [aP]at this
         rw[bl]at bm;cases bm
       obtain⟨bh,bp⟩:∃ bh,p-dn.length=bh+1:=⟨p-dn.length-1,by omega⟩
       have U:p-(dn ++ [(j,o)]).length=bh:=by simp;omega
       simp only[Z,bp,U,Nat.zero_sub]at O ⊢
       exact O.2) (a06 _) v y Y (am listed j o y D) D G
      exact⟨this.1,Oper.wp_mono (λaK aS b => .inl ⟨by rw[getD_set_ne true aQ];exact hf,b⟩) this.2⟩
    ·have aQ:j≠f.1:=λe=>by
      subst e
      have:=m04 v
      rw[hf]at this;cases this
     have:=X0f (F:=I++f::J) (Q:=Q) ae ar N (λ_=>P04) (λx b=>(aD I J u x).1 b) (λb=>(aD I J u _).2 b) (perm I J u) (λM V e g1 g2 g3=>by
      obtain⟨C,U,T⟩:=b06 (listed:=listed) (A:=I ++ [f]) (B:=J) (by simpa using e) (λp m=>by
       rcases List.mem_append.1 m with m|m
       ·exact hd1 p m
       ·simp at m;rw[m];exact hf) g2
      exact z0b (E:=V) (dn:=[]) D (λdn bX ab=>X02 dn bX (by rw[←ab];exact X02 (I++C) V (by rw[List.append_assoc,←T,←u];exact aO))) rfl g2 g3) (λdn V L bx ow h u ao O=>X0i O) (a06 _) v y Y (am listed j o y D) D G
     exact⟨this.1,Oper.wp_mono (λaK aS b => .inr ⟨bb hf,I,J,u,λp m=>bb (hd1 p m),b⟩) this.2⟩
   ·rcases G with⟨hf,G⟩|⟨hf,I,J,u,hd1,G⟩
    ·have:=ah f.1 bn
     rw[m04 hf]at this;cases this
    ·exact o0s N (λx b=>(aD I J u x).1 b) aZ ah G
  ·obtain⟨a0,ag⟩:=af
   obtain rfl:=W0i a0
   let Z:List (Nat×Oper)->List (Nat×Oper)->List (Nat×V5)->St->Hp->Prop:=λ_ r L st h=>E0i (o9 S ⟨n,fr,bx,ow⟩ ops.toList) (ops.size,E08 E) P (x0f r) r L st h K
   refine⟨λlisted a w=>∃ F,(∀ x,x∈F↔x∈E)/\(F.map λp=>p.1).Nodup/\V0k P h0 w0 ops (E08 E) n fr bx ow h 0 F S Z listed a w,aM,(λlisted a w j o Y v y D G=>?_),(λlisted a w ah G=>?_),E,λx=>Iff.rfl,N.nd,init 0 E Z (λx b=>b) ag⟩
   ·obtain⟨F,aa,aN,G⟩:=G
    by_cases hjE:(j,o)∈E
    ·obtain⟨dn,r,L,al,aw,az,be',oe',ay,u,aE,ak,ac,W,aF,aG,ad,aH,aJ⟩:=G
     have a3:j<listed.size:=by rw[Y];exact(Array.getElem?_eq_some_iff.1 y).1
     have aB:(j,o)∈r:=by
      have:=(aa (j,o)).2 hjE
      rw[u]at this
      rcases List.mem_append.1 this with b|b
      ·have g1:=W _ b
       have g2:=m04 v
       rw[g2]at g1;cases g1
      ·exact b
     obtain⟨A,B,rfl⟩:=List.append_of_mem aB
     have bq:(dn++(j,o)::(A++B)).Perm F:=by
      rw[u]
      exact List.Perm.append_left dn List.perm_middle.symm
     have aX:∀ x,x∈dn++(j,o)::(A++B)↔x∈E:=λx=>(bq.mem_iff).trans (aa x)
     have aY:((dn++(j,o)::(A++B)).map λp=>p.1).Nodup:=(bq.map _).nodup_iff.2 aN
     have bR:∀ ax∈A++B,O7 ax.1 o=false:=λax ai=>by
      cases hc:O7 ax.1 o with
      |false=>rfl
      |true =>
       obtain⟨e,ap,aq,aP⟩:=P6 hc
       have g1:=D e ap aq
       have g2:=m04 (ac ax (by
        rcases List.mem_append.1 ai with ai|ai
        ·exact List.mem_append_left _ ai
        ·exact List.mem_append_right _ (mC _ ai)))
       rw[aP,g2]at g1;cases g1
     let aV:List (Nat×Oper)->List (Nat×Oper)->List (Nat×V5)->St->Hp->Prop:=λd r L st h=>match Nat.beq d.length dn.length with
      |true=>Q0o (o9 S ⟨n,fr,bx,ow⟩ ops.toList) (ops.size,E08 E) P (x0f (A++B)) (j,o) (A++B) L st h K
      |false=>Z d r L st h
     have aA:V0k P h0 w0 ops (E08 E) n fr bx ow h 0 (dn++(j,o)::(A++B)) S aV listed a w :=
      ⟨dn,(j,o)::(A++B),L,al,aw,az,be',oe',ay,rfl,aE,ak,λp m=>ac p (by
       rcases List.mem_cons.1 m with rfl|m
       ·simp
       ·rcases List.mem_append.1 m with m|m
        ·exact List.mem_append_left _ m
        ·exact List.mem_append_right _ (mC _ m)),W,aF,aG,by
       show(match Nat.beq dn.length dn.length with|true=>_|false=>_:Prop)
       rw[Nat.beq_refl]
       refine S0q (st:=⟨n,fr,al,aw⟩) bR ?_
       have e:x0f (A++(j,o)::B)=x0f (A++B)+1:=by rw[E0h,E0h];simp;omega
       have ad:E0i _ _ _ (x0f (A++(j,o)::B)) _ _ _ _ _:=ad
       rw[e]at ad
       exact ad,aH,aJ⟩
     have:=X0f (F:=dn++(j,o)::(A++B)) (EV:=aV) (Q:=Q) ae ar N (λ_=>P04) (λx b=>(aX x).1 b) (λb=>(aX _).2 b) aY (λM V e g1 g2 g3=>by
      obtain⟨C,U,T⟩:=b06 (listed:=listed) e W g2
      cases C with
      |nil=>exact⟨A++B,by simpa using T.symm⟩
      |cons z C =>
       exfalso
       simp only[List.cons_append,List.cons.injEq]at T
       have:=g1 (j,o) (by rw[U,T.1];simp)
       rw[m04 v]at this;cases this) (λM V L aL aR h e g1 O=>by
      obtain⟨C,U,T⟩:=b06 (listed:=listed) (A:=dn) (B:=(j,o)::(A++B)) e W (λp m=>by
       have b:p∈dn++(j,o)::(A++B):=by rw[e];exact List.mem_append_right _ m
       rcases List.mem_cons.1 m with rfl|bp
       ·exact v
       ·rcases List.mem_append.1 b with b|b
        ·exfalso
         have bo:=aY
         rw[e,List.map_append,List.nodup_append]at bo
         obtain⟨bt,bf,bg⟩:=bo
         have aC:dn.length<=M.length∨M.length<dn.length:=Nat.lt_or_ge M.length dn.length |>.symm
         rcases aC with aC|aC
         ·have:p∈M:=by
           have ab:dn=M.take dn.length:=by
            have:=congrArg (List.take dn.length) e
            rw[List.take_append_of_le_length (Nat.le_refl _),List.take_length,List.take_append_of_le_length aC]at this
            exact this
           rw[ab]at b;exact List.mem_of_mem_take b
          exact bg p.1 (List.mem_map.2 ⟨p,this,rfl⟩) p.1 (List.mem_map.2 ⟨p,m,rfl⟩) rfl
         ·have:(j,o)∈dn:=by
           have ab:=congrArg (λl=>l[M.length]?) e
           simp only[List.getElem?_append_left aC,List.getElem?_append_right (Nat.le_refl _),Nat.sub_self,List.getElem?_cons_zero]at ab
           exact List.mem_of_getElem? ab
          have g3:=W _ this
          rw[m04 v]at g3;cases g3
        ·exact ac p (by
          rcases List.mem_cons.1 b with rfl|b
          ·simp
          ·rcases List.mem_append.1 b with b|b
           ·exact List.mem_append_left _ b
           ·exact List.mem_append_right _ (mC _ b)))
      have bG:C = []:=by
       cases C with
       |nil=>rfl
       |cons z C =>
        exfalso
        simp only[List.cons_append,List.cons.injEq]at T
        have:=g1 (j,o) (by rw[U,T.1];simp)
        rw[m04 v]at this;cases this
      subst bG
      simp only[List.append_nil]at U
      subst U
      have ab:V=A++B:=by simpa using T.symm
      subst ab
      have O:(match Nat.beq M.length M.length with|true=>_|false=>_:Prop):=O
      rw[Nat.beq_refl]at O
      have ba:Nat.beq (M ++ [(j,o)]).length M.length=false:=by
       rw[List.length_append,List.length_singleton]
       exact R0o (by omega)
      have bH:aV (M ++ [(j,o)]) (A++B)=λL st h=>E0i (o9 S ⟨n,fr,bx,ow⟩ ops.toList) (ops.size,E08 E) P (x0f (A++B)) (A++B) L st h K:=by
       funext L st h
       show(match Nat.beq (M ++ [(j,o)]).length M.length with|true=>_|false=>_:Prop)=_
       rw[ba]
      rw[bH]
      simp only[Nat.zero_sub]
      exact O) (a06 _) v y Y (am listed j o y D) D aA
     refine⟨this.1,Oper.wp_mono (λaK aS b=>?_) this.2⟩
     obtain⟨aW,bY,bz,aL,aR,bE,bD,bV,bv,bi,bZ,b0,bu,b1,b2,b3,aU,b4,b5⟩:=b
     refine⟨dn++(j,o)::(A++B),aX,aY,aW,bY,bz,aL,aR,bE,bD,bV,bv,bi,bZ,b0,bu,b1,b2,b3,?_,b4,b5⟩
     have ba:Nat.beq aW.length dn.length=false:=by
      refine R0o λe=>?_
      obtain⟨ca,bW⟩:=List.append_inj bi e.symm
      have:=bu (j,o) (by rw[←bW];simp)
      simp[a3]at this
     have aU:(match Nat.beq aW.length dn.length with|true=>_|false=>_:Prop):=aU
     rw[ba]at aU
     exact aU
    ·have:=X0f (F:=F) (EV:=Z) (Q:=Q) ae ar N (λ_=>P04) (λx b=>(aa x).1 b) (λb=>absurd b hjE) aN (λdn r u ao bs aB=>absurd ((aa _).1 (by rw[u];exact List.mem_append_right _ aB)) hjE)
      (λdn V L aL aR h u ao O=>absurd ((aa (j,o)).1 (by rw[u];simp)) hjE) (a06 _) v y Y (am listed j o y D) D G
     exact⟨this.1,Oper.wp_mono (λaK aS b=>⟨F,aa,aN,b⟩) this.2⟩
   ·obtain⟨F,aa,aN,dn,r,L,al,aw,az,be',oe',ay,u,aE,ak,ac,W,aF,aG,ad,aH,aJ⟩:=G
    have bS:r = []:=by
     cases r with
     |nil=>rfl
     |cons p V =>
      have g1:=ac p mS
      have g2:=(N.eff p ((aa _).1 (by rw[u];simp))).1
      have g3:=ah p.1 (by simpa using g2)
      rw[m04 g1]at g3;cases g3
    subst bS
    exact o0s (c:=0) (F:=F) N (λx b=>(aa x).1 b) aZ ah ⟨dn,[],L,al,aw,az,be',oe',ay,u,aE,ak,ac,W,aF,aG,ad,aH,aJ⟩
theorem v0n{ops:Array Oper}{st:St}{K:St->Hp->Prop}{Q:Exit->Act->World->Prop}(s:Sim P h0 w0 be oe H st h a w)(i:A02 st.n ops.toList=true)
  (j:q03 P st h ops.toList 0 [] [] [] λL X E=>evD (o9 L st ops.toList) ops.size P X E L st h K)
  (g:∀ a w st h be oe H,K st h->Sim P h0 w0 be oe H st h a w->Q .normal a w):wpAny P .any ops Q ops.size (Array.replicate ops.size false) a w:=by
 obtain⟨Inv,b,c,d,f⟩:=Y0i (Q:=Q) (R:=λa w=>Q .normal a w) s i j g
 exact n0s (Inv:=Inv) b c d ops.size _ a w (by simp) (by simp[List.count_replicate]) f
theorem o0a{L l:Array Bool}{x:Bool}(h:L.toList=l.toList ++ [x]){j:Nat}(a:j<l.size)(b:Bool):L.getD j b=l.getD j b:=by
 rw[Array.getD_eq_getD_getElem?,Array.getD_eq_getD_getElem?,←Array.getElem?_toList,←Array.getElem?_toList,h,List.getElem?_append_left (by simpa using a)]
theorem w0n{L l:Array Bool}{x:Bool}(h:L.toList=l.toList ++ [x])(b:Bool):L.getD l.size b=x:=by
 rw[Array.getD_eq_getD_getElem?,←Array.getElem?_toList,h,List.getElem?_append_right (by simp)];simp
theorem f0t{ops ops0:Array Oper}{o:Oper}{Q:Exit->Act->World->Prop}{Inv:Array Bool->Act->World->Prop}{a:Act}{w:World}(t:ops.toList=ops0.toList ++ [o])
  (q:∀(k:Nat) (o:Oper),ops.toList[k]?=some o->∀ e∈o.after,Region.binds .any e=true->e.on<k)
  (z:o.guard=none) (F:∀ k,k<ops0.size->∃ e∈o.after,Region.binds .any e=true/\e.on=k)
  (H:∀ listed a w j o,listed.size=ops0.size->listed.getD j true=false->ops0[j]?=some o->(∀ e∈o.after,Region.binds .any e=true->listed.getD e.on false=true)->Inv listed a w->o.guard=none/\o.wp P a w (Inv (listed.setIfInBounds j true)) Q)
  (y:∀ listed a w,(∀ j,j<ops0.size->listed.getD j false=true)->Inv listed a w->o.wp P a w (λa w=>Q .normal a w) Q)
  (h0:Inv (Array.replicate ops0.size false) a w):wpAny P .any ops Q ops.size (Array.replicate ops.size false) a w:=by
 have K:ops.size=ops0.size+1:=by
  have:=congrArg List.length t
  simpa using this
 refine n0s (Inv:=λL a w=>(∃ l:Array Bool,l.size=ops0.size/\L.toList=l.toList ++ [false]/\Inv l a w)∨((∀ j,j<ops.size->L.getD j false=true)/\Q .normal a w)) q (λL a w j m I v b p d=>?_) (λL a w f d=>?_) ops.size _ a w (by simp) (by simp[List.count_replicate]) (.inl ⟨_,by simp,by grind,h0⟩)
 ·rcases d with⟨l,g,c,d⟩|⟨f,_⟩
  ·have D:j<ops.size:=(Array.getElem?_eq_some_iff.1 b).1
   by_cases hj:j<ops0.size
   ·have x:ops0[j]?=some m:=by
     rw[←Array.getElem?_toList]at b ⊢
     grind
    obtain⟨g1,g2⟩:=H l a w j m g (by rw[←o0a c (by omega)];exact v) x (λe i h=>by
     have:=q j m (by rw[Array.getElem?_toList];exact b) e i h
     rw[←o0a c (by omega)];exact p e i h) d
    refine⟨g1,Oper.wp_mono (λu J A => .inl ⟨_,by simpa using g,?_,A⟩) g2⟩
    rw[Array.toList_setIfInBounds,c,List.set_append_left _ _ (by simpa [g] using hj),Array.toList_setIfInBounds]
   ·have C:j=ops0.size:=by omega
    have G:m=o:=by
     rw[←Array.getElem?_toList,t,List.getElem?_append_right (by simp;omega)]at b
     rw[C]at b;simp at b;exact b.symm
    subst G
    have f:∀ k,k<ops0.size->l.getD k false=true:=λk s=>by
     obtain⟨e,i,h,rfl⟩:=F k s
     rw[←o0a c (by omega)];exact p e i h
    refine⟨z,Oper.wp_mono (λu J n => .inr ⟨λk s=>?_,n⟩) (y l a w f d)⟩
    by_cases hkj:k=j
    ·rw[hkj];simp[Array.getD_eq_getD_getElem?,I,D]
    ·have E:k<ops0.size:=by omega
     have:=f k E
     rw[←o0a c (by omega)]at this
     rw[Array.getD_eq_getD_getElem?,Array.getElem?_setIfInBounds_ne (by omega),←Array.getD_eq_getD_getElem?];exact this
  grind
 ·rcases d with⟨l,g,c,d⟩|⟨_,n⟩
  ·have:=f ops0.size (by omega)
   rw[←g,w0n c]at this;cases this
  ·exact n
theorem x0c{o:Oper}:∀(ops:List Oper),E0d ops=some o->ops=W00 ops ++ [o]
 | [],h=>by simp[E0d]at h
 | [x],h=>by grind[E0d,Option.some.injEq,W00]
 |x::y::r,h=>by
  simp only[E0d]at h
  have:=x0c (y::r) (by simp only[E0d];exact h)
  rw[show W00 (x::y::r)=x::W00 (y::r) by simp only[W00],List.cons_append,←this]
theorem x0n{ops:List Oper}{o:Oper}(h:B0o ops=some o):ops=W00 ops ++ [o]/\o.guard=none/\y07 (W00 ops).length (W00 ops).length o=true:=by
 unfold B0o at h
 split at h
 ·rename_i g f
  split at h
  ·rename_i d c b
   split at h
   ·rename_i a
    cases h
    simp only[Bool.and_eq_true]at a
    grind[x0c]
   ·cases h
  ·cases h
 ·cases h
end
theorem t04:∀ {L:FL} {t:Nat} {x:List (Nat×Bool)×V5},j03 L t=some x->(t,x)∈L
 | [],t,x,h=>by cases h
 |(d,y)::r,t,x,h=>by
  simp only[j03]at h
  split at h
  ·simp_all
  ·exact mC _ (t04 h)
theorem m09:∀ {L:FL} {t:Nat} {x:List (Nat×Bool)×V5},(t,x)∈L->∃ a,j03 L t=some a
 |(d,a)::r,t,x,h=>by
  simp only[j03]
  split
  ·exact⟨_,rfl⟩
  ·rename_i b
   rcases List.mem_cons.1 h with e|h
   ·simp_all
   ·exact m09 h
theorem y0n{bs:List BE}{x:BE}(g:∀ a∈bs,a.j≠x.j){j:Nat}{b:BE}(h:H02 bs j=some b):H02 (x::bs) j=some b:=by
 simp only[H02]
 split
 ·rename_i f
  obtain⟨c,d⟩:=r03 h
  simp_all
 ·exact h
abbrev Asg:=Nat->List (Nat×Bool)×Bool×V5
structure C0f (ops:List Oper) (A:Asg) (L:FL) (bs:List BE) (k:Nat):Prop where
 p1:∀ t x,(t,x)∈L->∃ i oi,i<k/\ops[i]?=some oi/\oi.dst=some t/\(A i).1=x.1/\(A i).2.2=x.2
 p2:∀ i oi d,i<k->ops[i]?=some oi->oi.dst=some d->∃ x,j03 L d=some x
 p3:∀ i,i<k->i<ops.length->cB bs (A i).1=some (A i).2.1
 p4:∀ x∈bs,x.j<k/\(∃ o,ops[x.j]?=some o/\o.dst=some x.d)/\(A x.j).1=x.ch/\(A x.j).2.2 = .pu (.val (.bool x.e))
structure G08 (bs bs':List BE):Prop where
 c:∀ ch c,cB bs ch=some c->cB bs' ch=some c
 e:∀ j b,H02 bs j=some b->H02 bs' j=some b
theorem G08.refl(bs:List BE):G08 bs bs:=⟨λ_ _ h=>h,λ_ _ h=>h⟩
theorem G08.trans{a b c:List BE}(d:G08 a b)(f:G08 b c):G08 a c:=⟨λch x h=>f.c ch x (d.c ch x h),λj b h=>f.e j b (d.e j b h)⟩
def OpU(P:Program)(st:St)(h:Hp)(L:FL)(bs:List BE)(o:Oper)(ch:List (Nat×Bool))(c:Bool):V5->Prop
 | .pu av=>Q08 P L bs ch o st=some av∨∀ a,Sub h a->imp ch c (a07 L st a ch o.op.operands.toList [] λfr=>R7 P o { st with fr:=fr } a (Q0l av { st with fr:=fr } a))
 | .ef F=>(∀ v b d,Sub b d->F v b->F v d)/\∀ a,Sub h a->imp ch c (a07 L st a ch o.op.operands.toList [] λfr=>F0i P o { st with fr:=fr } a (C0o { st with fr:=fr } a F))
theorem T0o{d:Option Tmp}{ch:List (Nat×Bool)}{f:V5}{L:FL}{p:Nat×List (Nat×Bool)×V5}(h:p∈q0h d ch f L):(∃ s,d=some s/\p=(s,ch,f))∨p∈L:=by
 cases d with
 |none=>exact .inr h
 |some s =>
  rcases List.mem_cons.1 h with h|h
  all_goals grind
theorem U0o{i:Nat}{d:Option Tmp}{ch:List (Nat×Bool)}{av:AV}{bs:List BE}{x:BE}(h:x∈r0h i d ch av bs):(∃ s e,d=some s/\av = .val (.bool e)/\x=⟨i,s,e,ch⟩)∨x∈bs:=by
 unfold r0h at h
 grind
theorem V0o{i:Nat}{d:Option Tmp}{ch:List (Nat×Bool)}{av:AV}{bs:List BE}(k:∀ a∈bs,a.j<i):G08 bs (r0h i d ch av bs):=by
 unfold r0h
 split
 ·split
  ·refine⟨λg c h=>U0k (λa f=>?_) h,λj b h=>y0n (λa f=>?_) h⟩<;>(grind)
  ·exact G08.refl _
 ·exact G08.refl _
theorem T0q(P:Program)(i:Nat)(L:FL)(bs:List BE)(st:St)(h:Hp)(K:St->Hp->Prop):evU P [] i L bs st h K=∀ a,Sub h a->y0f a L st.fr λfr=>K { st with fr:=fr } a:=by
 obtain⟨n,fr,bx,ow⟩:=st;rfl
theorem W0o(P:Program)(o:Oper)(l:List Oper)(i:Nat)(L:FL)(bs:List BE)(st:St)(h:Hp)(K:St->Hp->Prop)(b:evU P (o::l) i L bs st h K):
    ∃ ch c f,W9 bs o.guard=some ch/\cB bs ch=some c/\(OpU P st h L bs o ch c f/\∀ av,Q08 P L bs ch o st=some av->f = .pu av)/\∃ m,m=(match f with
      | .pu av=>r0h i o.dst ch av bs
      | .ef _=>bs)/\evU P l (i+1) (q0h o.dst ch f L) m st h K:=by
  obtain⟨n,fr,bx,ow⟩:=st
  change (match W9 bs o.guard with
        |some ch=>match cB bs ch with
          |some c=>match Q08 P L bs ch o ⟨n,fr,bx,ow⟩with
            |some av=>X00 av λav=>evU P l (i+1) (q0h o.dst ch (.pu av) L) (r0h i o.dst ch av bs) ⟨n,fr,bx,ow⟩ h K
            |none=>(∃ av,(∀ a,Sub h a->imp ch c (a07 L ⟨n,fr,bx,ow⟩ a ch o.op.operands.toList [] λfr=>R7 P o ⟨n,fr,bx,ow⟩ a (Q0l av ⟨n,fr,bx,ow⟩ a))) /\
                  X00 av λav=>evU P l (i+1) (q0h o.dst ch (.pu av) L) (r0h i o.dst ch av bs) ⟨n,fr,bx,ow⟩ h K) ∨
                (∃ F:Value->Hp->Prop,(∀ v g d,Sub g d->F v g->F v d) /\
                  (∀ a,Sub h a->imp ch c (a07 L ⟨n,fr,bx,ow⟩ a ch o.op.operands.toList [] λfr=>F0i P o ⟨n,fr,bx,ow⟩ a (C0o ⟨n,fr,bx,ow⟩ a F))) /\
                  evU P l (i+1) (q0h o.dst ch (.ef F) L) bs ⟨n,fr,bx,ow⟩ h K)
          |none=>False
        |none=>False)at b
  split at b
  · rename_i ch k
    split at b
    · rename_i c j
      split at b
      · rename_i av s
        rw[I02]at b
        exact⟨ch,c,.pu av,k,j,⟨.inl s,λt a=>by grind⟩,_,rfl,b⟩
      · rename_i u
        have p:∀(f:V5) av,Q08 P L bs ch o ⟨n,fr,bx,ow⟩=some av->f = .pu av:=λf av a=>by grind
        rcases b with⟨av,g,d⟩|⟨F,g,d,q⟩
        · rw[I02]at d
          exact⟨ch,c,.pu av,k,j,⟨.inr g,p _⟩,_,rfl,d⟩
        · exact⟨ch,c,.ef F,k,j,⟨⟨g,d⟩,p _⟩,_,rfl,q⟩
    · exact b.elim
  · exact b.elim
theorem U0d{P:Program}{ops:List Oper}{st:St}{h:Hp}{K:St->Hp->Prop}(aj:∀(i j:Nat) (n M:Oper) (d:Nat),ops[i]?=some n->ops[j]?=some M->n.dst=some d->M.dst=some d->i=j):
  ∀(l:List Oper) (k:Nat) (L:FL) (bs:List BE) (q:Asg),(∀ j,l[j]?=ops[k+j]?)->k+l.length=ops.length->C0f ops q L bs k->evU P l k L bs st h K ->
   ∃(A:Asg) (G:FL) (v:List BE),(∀ i,i<k->A i=q i)/\G08 bs v/\C0f ops A G v ops.length /\
    (∀ j o,k<=j->ops[j]?=some o->∃ N C,W9 v o.guard=some (A j).1/\C0f ops A N C j/\G08 C v/\cB C (A j).1=some (A j).2.1/\(OpU P st h N C o (A j).1 (A j).2.1 (A j).2.2/\∀ av,Q08 P N C (A j).1 o st=some av->(A j).2.2 = .pu av)) /\
    (∀ S,Sub h S->y0f S G st.fr λfr=>K { st with fr:=fr } S)
 | [],k,L,bs,q,T,ac,g,ab=>by
  have ad:k=ops.length:=by simpa using ac
  grind[G08.refl,T0q,List.getElem?_eq_some_iff]
 |o::l,k,L,bs,q,T,ac,g,ab=>by
  have V:ops[k]?=some o:=by simpa using (T 0).symm
  have ao:∀ j,l[j]?=ops[k+1+j]?:=λj=>by have:=T (j+1);grind
  have ad:k+1+l.length=ops.length:=by grind
  obtain⟨ch,c,f,u,aa,ap,R,am,an⟩:=W0o P o l k L bs st h K ab
  let z:Asg:=λi=>if i=k then(ch,c,f)else q i
  have H:z k=(ch,c,f):=by simp[z]
  have Y:∀ i,i<k->z i=q i:=λi m=>by grind
  have au:∀ X∈bs,X.j<k:=λX ar=>(g.p4 X ar).1
  have E:G08 bs R:=by
   grind[V0o,G08.refl]
  have aq:C0f ops z (q0h o.dst ch f L) R (k+1):=by
   refine⟨λt x a=>?_,λi n d m D J=>?_,λi m U=>?_,λx a=>?_⟩
   ·rcases T0o a with⟨s,af,e⟩|a
    ·grind
    ·obtain⟨i,n,g1,g2,g3,g4,g5⟩:=g.p1 t x a
     grind
   ·rcases Nat.lt_or_ge i k with y|y
    ·obtain⟨x,a⟩:=g.p2 i n d y D J
     cases hd:o.dst with
     |none=>exact⟨x,a⟩
     |some s=>exact m09 (x:=x) (mC _ (t04 a))
    ·have:i=k:=by omega
     subst this
     rw[V]at D;cases D
     rw[J]
     exact m09 mS
   ·rcases Nat.lt_or_ge i k with y|y
    ·rw[Y i y];exact E.c _ _ (g.p3 i y U)
    ·have:i=k:=by omega
     subst this
     rw[H];exact E.c _ _ aa
   ·subst am
    cases f with
    |ef F =>
     obtain⟨g1,g2,g3,g4⟩:=g.p4 x a
     grind
    |pu av =>
     rcases U0o a with⟨s,e,af,ak,rfl⟩|a
     ·refine⟨nS _,⟨o,V,af⟩,by rw[H],?_⟩
      rw[H,ak]
     ·obtain⟨g1,g2,g3,g4⟩:=g.p4 x a
      grind
  obtain⟨A,G,v,Z,O,ag,ah,ai⟩:=U0d aj l (k+1) _ R z ao ad aq an
  have Q:A k=(ch,c,f):=by rw[Z k (nS _),H]
  have I:∀ i,i<k->A i=q i:=λi m=>by rw[Z i (Nat.lt_succ_of_lt m),Y i m]
  refine⟨A,G,v,I,E.trans O,ag,λj M aw W=>?_,ai⟩
  rcases Nat.lt_or_ge k j with ae|ae
  ·exact ah j M ae W
  ·have:j=k:=by omega
   subst this
   rw[V]at W;cases W
   refine⟨L,bs,?_,⟨λt x a=>?_,λi n d m D J=>g.p2 i n d m D J,λi m U=>?_,λx a=>?_⟩,E.trans O,by rw[Q];exact aa,by rw[Q];exact ap⟩
   ·rw[Q]
    cases hg:o.guard with
    |none=>rw[hg]at u;exact u
    |some p =>
     obtain⟨ax,w⟩:=p
     rw[hg]at u
     simp only[W9]at u ⊢
     split at u
     ·rename_i b al
      rw[(E.trans O).e _ _ al]
      exact u
     ·cases u
   ·obtain⟨i,n,g1,g2,g3,g4,g5⟩:=g.p1 t x a
    grind
   ·rw[I i m];exact g.p3 i m U
   ·obtain⟨g1,g2,g3,g4⟩:=g.p4 x a
    exact⟨g1,g2,by rw[I _ g1];exact g3,by rw[I _ g1];exact g4⟩
section
variable {P:Program} {h0:Hp} {w0:World} {be:Nat->Nat} {oe:Nat->Value} {H:Hp} {st:St} {h:Hp} {a:Act} {w:World} {o:Oper} {K:AV->St->Hp->Prop} {Q:Exit->Act->World->Prop}
theorem Z0i(s:Sim P h0 w0 be oe H st h a w){t n:Nat}{ps:Array (Nat×Operand)}(l:o.op = .buildSlice t n ps)(z:ps.toList = [])(c:D0o P t n st h K):o.wp P a w (Nx P h0 w0 st be oe K a o.dst) Q:=by
 unfold D0o at c
 split at c
 rotate_left
 ·exact c.elim
 rename_i e u
 split at c
 rotate_left
 ·exact c.elim
 rename_i sz q j
 have k:=Nat.eq_of_beq_eq_true j
 subst k
 have m:ps = #[]:=by grind
 subst m
 have v:wpS P (execOp a.eval o) h (λg f=>∃ b,h b=none/\g = .value (.slice (some ⟨b,0,none⟩) 0 0)/\f=h.set b (.cells #[] e (0,0))):=by
  unfold execOp;rw[l]
  refine P7 _ _ _ ?_
  simp only[Instr.buildSlice,J2,K5 (g9 u),Y00 q,Nat.zero_mul,Q2]
  rw[if_neg (by omega)]
  simp only[Q2,if_true,Instr.fill,Array.map_empty,J2,newRow,newObj,wpS]
  exact λb d=>⟨b,d,rfl,by rw[show Array.range 0 = #[] from rfl,Array.map_empty]⟩
 obtain⟨g,f,A,p,⟨b,d,rfl,rfl⟩,i⟩:=B9 _ _ _ (C07 s) v
 obtain⟨y,x⟩:=s.moved i
 exact B7 p ⟨_,_,_,_,_,_,_,c b d,rfl,x,rfl,J6.refl _ _ _⟩
theorem a0j(s:Sim P h0 w0 be oe H st h a w){t:TypeId}{p q:Operand}{as:Array Operand}{R:Array TypeId}(M:o.op = .call { callee := .builtin .append,args:=as,argTypes:=R })
  (G:as = #[p,q]) (O:R = #[t,t]) (d:E0o P t p q st h K):o.wp P a w (Nx P h0 w0 st be oe K a o.dst) Q:=by
 unfold E0o at d
 split at d
 rotate_left
 ·exact d.elim
 rename_i e aa
 split at d
 rotate_left
 ·exact d.elim
 rename_i sz by_ z Z S ac
 split at d
 rotate_left
 ·exact d.elim
 rename_i ad
 obtain⟨i,y,D,ag,ai⟩:=l09 Z S ac
 have A:=g9 aa
 have ae:z.cells.size=i.size:=by rw[D];simpa using B02 _ _ ad
 have g:=s.rdO p
 split at d
 rotate_left
 ·exact d.elim
 rename_i m n Y
 rw[Y]at g
 have v:a.eval p = .slice (some ⟨m,n,none⟩) 0 0:=g
 obtain⟨b,⟨N,W,L⟩,l⟩:=J04 s (Nat.succ_pos sz) d
 have af:i.size=sz+1:=D
 have ah:i.bytes=by_+1:=ag
 rw[←D]at l
 rw[←af]at L
 rw[←ah]at N
 have T:0<i.bytes:=by grind
 have am:b.length<=140737488355328:=Nat.le_trans (Nat.le_mul_of_pos_right _ T) N
 have X:((0+b.length:Nat):Int)<=9223372036854775807:=by omega
 have J:=J01 b (λx C=>(l.1 x C).1)
 have hv:=C07 s
 by_cases hn:b = []
 ·have k:(Builtin.append_ #[t,t] o.type #[.slice (some ⟨m,n,none⟩) 0 0,a.eval q]).run P w = .ok (.slice (some ⟨m,n,none⟩) 0 0) w:=by
   subst hn
   rcases l.2 with⟨E,c,f,I⟩|⟨c,f,_⟩
   ·rw[f]
    simp[Builtin.append_,run_underlying A,sizeOf,typeInfo,y,Builtin.lenOf,Builtin.firstCells,loadCells,loadCellsFrom,storeCells]
   ·rw[f]
    simp[Builtin.append_,run_underlying A,sizeOf,typeInfo,y,Builtin.lenOf,Builtin.firstCells,storeCells]
  rw[←v]at k
  exact B7 (K02 M G O k) ⟨_,_,h,_,_,_,_,W hn,rfl,s,v,J6.refl _ _ _⟩
 ·rcases l.2 with⟨E,F,f,I⟩|⟨F,f,ab⟩
  rotate_left
  ·exact absurd ab hn
  have an:0<b.length:=by
   grind
  have k:=run_append_grow (P:=P) w t o.type e i z A y ai ⟨m,n,none⟩ 0 0 [] (by simp) (λj u V=>by simp at V) E b.length F b.flatten J I (by omega) X (growslice_fits (by omega) (by grind[u07]))
  have al:=grownCap_ge w (0+b.length) 0 e
  have U:grownCap w (0+b.length) 0 e<=maxLen:=grownCap_le_maxLen w _ 0 e (by unfold maxLen;omega)
  rw[←f,←v]at k
  obtain⟨ak,aj⟩:=s.moved (T2.newD hv (.cells ([].toArray++b.flatten.toArray++Builtin.zeroCells z.cells (grownCap w (0+b.length) 0 e-(0+b.length))) e (0,0)) rfl)
  refine B7 (K02 M G O k) ⟨_,_,_,_,_,_,_,L _ _ ⟨λx C=>l.1 x C,.inr ⟨w.heap.size,grownCap w (0+b.length) 0 e,_,?_,w02 hv,rfl,by omega,U,?_,?_⟩⟩,rfl,aj,rfl,J6.refl _ _ _⟩
  ·rw[Nat.zero_add]
  ·simp only[Array.size_append,List.size_toArray,J,size_zeroCells,ae,List.length_nil,←Nat.add_mul,Nat.zero_add]
   grind
  grind
theorem b0j(s:Sim P h0 w0 be oe H st h a w)(b:F0i P o st h K):o.wp P a w (Nx P h0 w0 st be oe K a o.dst) Q:=by
 unfold F0i at b
 split at b
 ·grind[Z0i,J9]
 ·rename_i as j d
  split at b
  ·rename_i x k t i f g
   split at b
   ·rename_i c
    have:=Nat.eq_of_beq_eq_true c
    subst this
    exact a0j s d (by grind) (by grind) b
   ·exact b.elim
  ·exact b.elim
 grind[J9]
end
section
variable {P:Program} {h0:Hp} {w0:World} {be:Nat->Nat} {oe:Nat->Value} {H:Hp} {h:Hp} {a:Act} {w:World}
def F0h(st:St)(be:Nat->Nat)(oe:Nat->Value)(h:Hp)(bs:List BE)(x:List (Nat×Bool)×V5)(v:Value):Prop:=cB bs x.1=some true->H05 st be oe h x.2 v
theorem M01{L:FL}{st:St}{h:Hp}{bs:List BE}{ch:List (Nat×Bool)}{val:Nat->Value}{K:List (Nat×AV)->Prop}(d:cB bs ch=some true):∀ {l:List Operand} {acc:List (Nat×AV)},
  (∀ t,A2 st be oe (j3 acc t) (val t))->(∀ t,Operand.tmp t∈l->(∀ x,j03 L t=some x->F0h st be oe h bs x (val t))/\(j03 L t=none->A2 st be oe (j3 st.fr t) (val t))) ->
  a07 L st h ch l acc K->∃ fr,K fr/\∀ t,A2 st be oe (j3 fr t) (val t)
 | [],acc,c,b,a=>⟨acc,a,c⟩
 | .tmp t::r,acc,c,b,a=>by
  have j:∀ u,Operand.tmp u∈r->_:=λu i=>b u (mC _ i)
  have k:=b t mS
  have put:∀ av,A2 st be oe av (val t)->∀ u,A2 st be oe (j3 ((t,av)::acc) u) (val u):=λav g u=>by
   grind[U3]
  simp only[a07]at a
  split at a
  ·rename_i n f e
   split at a
   ·rename_i m
    have hf:=k.1 _ e (x08 m d)
    cases f with
    |pu av=>exact M01 d (put av hf) j a
    |ef F=>exact M01 d (put (.val (val t)) rfl) j (a _ hf)
   ·exact a.elim
  ·rename_i e
   exact M01 d (put _ (k.2 e)) j a
 | .const v::r,acc,c,b,a=>M01 (l:=r) d c (λu i=>b u (mC _ i)) a
 | .global v::r,acc,c,b,a=>M01 (l:=r) d c (λu i=>b u (mC _ i)) a
 | .func v::r,acc,c,b,a=>M01 (l:=r) d c (λu i=>b u (mC _ i)) a
theorem Z0f{st:St}{val:Nat->Value}{K:List (Nat×AV)->Prop}:∀ {L:FL} {fr:List (Nat×AV)},(∀ p∈L,p.2.1 = []->H05 st be oe h p.2.2 (val p.1)) ->
  (∀ t,(∀ x,(t,x) ∉ L)->A2 st be oe (j3 fr t) (val t))->y0f h L fr K->∃ fr,K fr/\∀ t,A2 st be oe (j3 fr t) (val t)
 | [],fr,b,c,a=>⟨fr,a,λt=>c t (by simp)⟩
 |(d,ch,f)::r,fr,b,c,a=>by
  have step:∀ av,A2 st be oe av (val d)->y0f h r ((d,av)::fr) K->∃ fr,K fr/\∀ t,A2 st be oe (j3 fr t) (val t):=λav g a =>
   Z0f (L:=r) (fr:=(d,av)::fr) (λp i=>b p (mC _ i)) (λt j=>by
    grind[U3]) a
  cases ch with
  |nil =>
   have hf:=b (d,[],f) mS rfl
   cases f with
   |pu av=>exact step av hf a
   |ef F=>exact step (.val (val d)) rfl (a _ hf)
  |cons p q =>
   refine step .dead trivial ?_
   cases f<;>exact a
theorem X0o{st:St}{L:FL}{bs:List BE}{ch:List (Nat×Bool)}{o:Oper}{av:AV}(c:Q08 P L bs ch o st=some av)(z:cB bs ch=some true)
  (hv:∀ t,(∀ x,j03 L t=some x->F0h st be oe h bs x (a.tmps.getD t undef))/\(j03 L t=none->A2 st be oe (j3 st.fr t) (a.tmps.getD t undef))∨Operand.tmp t ∉ o.op.operands)
  (aw:∀ x∈bs,∀ y,j03 L x.d=some y->y=(x.ch,.pu (.val (.bool x.e)))) (ag:∀ x∈bs,H02 bs x.j=some x) (ar:∀ x∈bs,∃ y,j03 L x.d=some y)
  (S:∀ {fr:List (Nat×AV)},(∀ t,A2 st be oe (j3 fr t) (a.tmps.getD t undef))->Sim P h0 w0 be oe H { st with fr:=fr } h a w) {Q:Exit->Act->World->Prop} :
  o.wp P a w (λE l=>∃ v be' oe' D,E=a.put o.dst v/\(∃ fr,Sim P h0 w0 be' oe' D { st with fr:=fr } h a l)/\J6 st be oe st be' oe'/\A2 st be' oe' av v) Q:=by
 have G:Sim P h0 w0 be oe H { st with fr:=[] } h a w:=S (λt=>trivial)
 have rd:∀(x:Operand) (I:List (Nat×Bool)),cB bs I=some true->(∀ t,x = .tmp t->Operand.tmp t∈o.op.operands)->A2 st be oe (rdU L st I x) (a.eval x):=by
  intro x I ae f
  cases x with
  |tmp t =>
   have X:=(hv t).resolve_right (λC=>C (f t rfl))
   simp only[rdU]
   split
   ·rename_i ap A e
    split
    ·rename_i N
     have:=X.1 _ e (x08 N ae)
     have g:A2 st be oe A (a.tmps.getD t undef):=this
     have g2:=G.rdA (A2.fr (st:=st) (fr:=[]) g)
     have p:rdA { st with fr:=[] } A=rdA st A:=by obtain⟨n,fr,bx,ow⟩:=st;cases A<;>rfl
     rw[p]at g2
     exact A2.fr (st := { st with fr:=[] }) (fr:=st.fr) g2
    ·trivial
   ·trivial
   ·rename_i e
    have g:=X.2 e
    have g2:=G.rdA (A2.fr (st:=st) (fr:=[]) g)
    have p:rdA { st with fr:=[] } (j3 st.fr t)=rdA st (j3 st.fr t):=by obtain⟨n,fr,bx,ow⟩:=st;cases j3 fr t<;>rfl
    rw[p]at g2
    exact A2.fr (st := { st with fr:=[] }) (fr:=st.fr) g2
  |const v=>exact rfl
  |global v=>trivial
  |func v=>exact rfl
 have done:∀ {v:Value},(∀ l,(execOp a.eval o).run P l = .ok (.value v) l ∨ ¬ Vis H l)->A2 st be oe av v->o.wp P a w (λE l=>∃ v be' oe' D,E=a.put o.dst v/\(∃ fr,Sim P h0 w0 be' oe' D { st with fr:=fr } h a l)/\J6 st be oe st be' oe'/\A2 st be' oe' av v) Q:=λ{v} m g =>
  B7 ((m w).resolve_right λC=>C G.mv.vis) ⟨v,be,oe,H,rfl,⟨[],G⟩,J6.refl _ _ _,g⟩
 unfold Q08 at c
 split at c
 ·rename_i x f
  have g:=rd x ch z (λt e=>by rw[f];simp[Op.operands,e])
  refine done (v:=a.eval x) (λl => .inl (by unfold execOp;rw[f];rfl)) ?_
  revert c
  cases m:rdU L st ch x<;>intro c<;>first|(cases c;done)|(cases c;rw[m]at g;exact g)
 ·rename_i x f
  have g:=rd x ch z (λt e=>by rw[f];simp[Op.operands,e])
  refine done (v:=a.eval x) (λl => .inl (by unfold execOp;rw[f];rfl)) ?_
  revert c
  cases m:rdU L st ch x<;>intro c<;>first|(cases c;done)|(cases c;rw[m]at g;exact g)
 ·rename_i t x f
  have g:=rd x ch z (λt e=>by rw[f];simp[Op.operands,e])
  split at c
  ·rename_i i off m
   rw[m]at g
   split at c
   ·rename_i cs ty C
    have am:∃ u,x = .tmp u:=by
     cases x with
     |tmp u=>exact⟨u,rfl⟩
     |const v=>simp[rdU,rdO]at m
     |global v=>simp[rdU,rdO]at m
     |func v=>simp[rdU,rdO]at m
    obtain⟨u,rfl⟩:=am
    have af:R7 P o { st with fr:=[(u,.box i off)] } h λO st' ac=>O=av/\st' = { st with fr:=[(u,.box i off)] }/\ac=h:=by
     have aj:rdO { st with fr:=[(u,.box i off)] } (.tmp u) = .box i off:=by
      show rdA _ (j3 [(u,AV.box i off)] u)=_
      rw[U3,if_pos rfl]
      simp only[rdA,C]
     simp only[R7,f,aj,C]
     grind[A0d,z04,i0h,I5]
    have s1:=S (fr:=[(u,.box i off)]) (λax=>by
     rw[U3]
     split
     ·rename_i e;subst e;exact g
     ·trivial)
    refine Oper.wp_mono (λE l f=>?_) (J9 s1 af)
    obtain⟨O,st',aq,v,be',oe',D,⟨J,p,aa⟩,ad,s2,g2,F⟩:=f
    rw[p,aa]at s2
    rw[J,p]at g2
    rw[p]at F
    exact⟨v,be',oe',D,ad,⟨_,s2⟩,⟨F.bl,F.be,F.sm⟩,A2.fr (st := { st with fr:=[(u,.box i off)] }) (fr:=st.fr) g2⟩
   ·cases c
  ·cases c
 ·rename_i t x k f
  have g:=rd x ch z (λt e=>by rw[f];simp[Op.operands,e])
  split at c
  ·rename_i i off K m W
   rw[m]at g
   cases c
   refine done (v:=ptr (be i) (off+K)) (λl=>?_) ⟨g.1,rfl⟩
   by_cases hvis:Vis H l
   ·exact .inl (R.run_of (R.exec_fieldAddr (H:=H) f W g.2) l hvis)
   ·exact .inr hvis
  ·rename_i sl j sz ao K m W
   rw[m]at g
   cases c
   obtain⟨b,Y,n,Z,J,p⟩:=g
   refine done (v:=ptr b (Y+(j.toNat*sz+ao)+K)) (λl=>?_) ⟨b,Y,n,Z,J,by simp[Nat.add_assoc]⟩
   grind[Vis,R.run_of,R.exec_fieldAddr]
  ·cases c
 ·rename_i s x y f
  have g:=rd (.tmp s) ch z (λt e=>by rw[f];cases e;simp[Op.operands])
  split at c
  ·rename_i e q N ai
   rw[N]at g
   have ab:a.eval (.tmp s) = .bool e:=g
   split at c
   ·rename_i ak
    obtain⟨ah,au⟩:=v0b ai
    have U:=x08 ak z
    have V:q.e=e:=by
     grind[rdU,bool,Go.H.rdA]
    have T:=ag q ah
    split at c
    ·rename_i bx by_ al an
     cases c
     refine done (v := .bool (cond e bx by_)) (λl => .inl ?_) rfl
     unfold execOp;rw[f]
     simp only[ab,Sem.run_bind,asBool,Sem.run_pure,Result.andThen_ok]
     cases e with
     |true =>
      have M:cB bs ((q.j,true)::q.ch)=some true:=by
       rw[l04,T,U];simp[lit,V]
      have g4:=rd x _ M (λt e=>by rw[f];simp[Op.operands,e])
      rw[al]at g4
      have g5:a.eval x = .bool bx:=g4
      simp[g5]
     |false =>
      have M:cB bs ((q.j,false)::q.ch)=some true:=by
       rw[l04,T,U];simp[lit,V]
      have g4:=rd y _ M (λt e=>by rw[f];simp[Op.operands,e])
      rw[an]at g4
      have g5:a.eval y = .bool by_:=g4
      simp[g5]
    ·cases c
   ·cases c
  ·cases c
 ·cases c
theorem Sim.untail{st:St}{t:List Own}(s:Sim P h0 w0 be oe H { st with ow:=st.ow++t } h a w)(hf:∀ u,A2 st be oe (j3 st.fr u) (a.tmps.getD u undef))
  (l:∀ i cs ty,nth st.bx i=some (.live cs ty)->∃ vs,Z1 st oe cs vs/\H (be i)=some (.cells vs.toArray ty (0,0))):Sim P h0 w0 be oe H st h a w:=by
 have up:∀ i o,nth st.ow i=some o->nth (st.ow++t) i=some o:=λi o b=>by
  grind[G04,List.getElem?_append_left,List.getElem?_eq_some_iff]
 refine⟨s.mv,s.sub,λi cs ty b=>⟨(s.box i cs ty b).1,l i cs ty b⟩,s.pub,λi d e sz by_ nn xs b=>s.own i d e sz by_ nn xs (up i _ b),λi d v b=>s.frz i d v (up i _ b),s.bb,
  λi j s1 e sz by_ nn xs s2 k n f m p g b c=>s.oo i j s1 e sz by_ nn xs s2 k n f m p g (up i _ b) (up j _ c),λi cs ty j s1 e sz by_ nn xs b c=>s.bo i cs ty j s1 e sz by_ nn xs b (up j _ c),s.dfr,s.siz,hf⟩
def n09(P:Program)(h0:Hp)(w0:World)(ops:Array Oper)(st:St)(h:Hp)(A:Asg)(sk:Nat->Bool)(kp:List (Nat×Value))(listed:Array Bool)(a:Act)(w:World):Prop :=
 ∃ be oe H b,Sub h b/\Sim P h0 w0 be oe H { st with fr:=w4 ops.toList st.fr } b a w/\(∀ p∈kp,a.tmps.getD p.1 undef=p.2) /\
  ∀ j o d,sk j=false->ops[j]?=some o->o.dst=some d->listed.getD j false=true->((A j).2.1=true->H05 st be oe b (A j).2.2 (a.tmps.getD d undef))/\((A j).2.1=false->a.tmps.getD d undef=undef)
theorem U0q{st st':St}(t:N0k st st'):∃ r,st' = { st with ow:=st.ow++r }:=by
 obtain⟨n,fr,bx,ow⟩:=st
 obtain⟨h,b,a,i⟩:=st'
 obtain⟨c,d,f,r,g⟩:=t
 grind
theorem V0q{b:Type}{l r:List b}{i:Nat}(a:i<l.length):nth (l++r) i=nth l i:=by
 rw[G04,G04,List.getElem?_append_left a]
theorem a0g{st:St}{r:List Own}{i s:Nat}(a:stamp st i=some s):stamp { st with ow:=st.ow++r } i=some s:=by
 grind[stamp,nth,V0q,I01]
theorem O0r{ops:Array Oper}{st:St}{A:Asg}{sk:Nat->Bool}{kp:List (Nat×Value)}{bc:FL}{af:List BE}{listed:Array Bool}{j:Nat}{o:Oper}{Q:Exit->Act->World->Prop}
  (bq:∀(i j:Nat) (f aX:Oper) (d:Nat),ops.toList[i]?=some f->ops.toList[j]?=some aX->f.dst=some d->aX.dst=some d->i=j)
  (ah:∀ o∈ops.toList,∀ d,o.dst=some d->d<st.n)
  (bp:∀(k:Nat) (o:Oper),ops.toList[k]?=some o->∀ e∈o.after,Region.binds .any e=true->e.on<k)
  (aL:∀ o∈ops.toList,∀ t,Operand.tmp t∈o.op.operands->∀(i:Nat) (f:Oper),ops.toList[i]?=some f->f.dst=some t->∃ e∈o.after,Region.binds .any e=true/\e.on=i)
  (bD:∀ o∈ops.toList,∀ i w,o.guard=some (i,w)->O7 i o=true)
  (am:C0f ops.toList A bc af ops.toList.length)
  (aJ:∀ j o,ops.toList[j]?=some o->∃ R D,W9 af o.guard=some (A j).1/\C0f ops.toList A R D j/\G08 D af/\cB D (A j).1=some (A j).2.1/\(OpU P st h R D o (A j).1 (A j).2.1 (A j).2.2/\∀ av,Q08 P R D (A j).1 o st=some av->(A j).2.2 = .pu av))
  (cb:sk j=false) (cd:∀(i:Nat) (f:Oper) (d:Nat),ops.toList[i]?=some f->f.dst=some d->sk i=true->∀ C∈ops.toList,Operand.tmp d ∉ C.op.operands)
  (bN:∀ i,sk i=true->(A i).2.2 = .pu (.val undef)) (cc:∀ p∈kp,∃(i:Nat) (f:Oper),ops.toList[i]?=some f/\f.dst=some p.1/\sk i=true)
  (aN:ops[j]?=some o) (aP:∀ e∈o.after,Region.binds .any e=true->listed.getD e.on false=true) (ad:n09 P h0 w0 ops st h A sk kp listed a w) :
  (Region.wanted o (yielded ops a.tmps)=true->o.wp P a w (n09 P h0 w0 ops st h A sk kp (listed.setIfInBounds j true)) Q) /\
  (Region.wanted o (yielded ops a.tmps)=false->n09 P h0 w0 ops st h A sk kp (listed.setIfInBounds j true) (a.put o.dst undef) w):=by
 obtain⟨be,oe,H,X,aA,s,keep,ar⟩:=ad
 have ai:ops.toList[j]?=some o:=by simpa using aN
 have ag:o∈ops.toList:=List.mem_of_getElem? ai
 have aM:j<ops.toList.length:=(List.getElem?_eq_some_iff.1 ai).1
 obtain⟨R,D,Z,U,bR,an,K,_⟩:=aJ j o ai
 have ac:cB af (A j).1=some (A j).2.1:=am.p3 j aM aM
 have aS:Region.wanted o (yielded ops a.tmps)=(A j).2.1:=by
  unfold Region.wanted
  cases hg:o.guard with
  |none =>
   rw[hg]at Z
   cases hch':(A j).1 with
   |nil=>rw[hch']at ac;exact oJ ac
   |cons p q=>rw[hch']at Z;cases Z
  |some p =>
   obtain⟨i,aE⟩:=p
   rw[hg]at Z
   simp only[W9]at Z
   split at Z
   ·rename_i b I
    obtain⟨bH,rfl⟩:=r03 I
    obtain⟨g1,⟨C,g2,g3⟩,g4,g5⟩:=am.p4 b bH
    have ay:listed.getD b.j false=true:=by
     obtain⟨e,N,bt,aj⟩:=P6 (bD o ag b.j aE hg)
     rw[←aj];exact aP e N bt
    have bM:sk b.j=false:=by
     cases e:sk b.j with
     |false=>rfl
     |true=>rw[bN b.j e]at g5;cases g5
    have hf:=ar b.j C b.d bM (by simpa using g2) g3 ay
    have aK:=am.p3 b.j g1 g1
    rw[g4]at aK
    have aa:b.d<a.tmps.size:=by rw[s.siz];exact ah C (List.mem_of_getElem? g2) b.d g3
    have hv:a.tmps[b.d]?=some (if(A b.j).2.1=true then .bool b.e else undef):=by
     rw[Array.getElem?_eq_getElem aa]
     have bE:a.tmps.getD b.d undef=a.tmps[b.d]:=by simp[aa]
     cases J:(A b.j).2.1 with
     |true =>
      have:=hf.1 J
      rw[g5,bE]at this
      have G:a.tmps[b.d] = .bool b.e:=this
      rw[G];rfl
     |false =>
      grind
    have aC:yielded ops a.tmps b.j=if(A b.j).2.1=true then some b.e else none:=by
     unfold yielded
     have:ops[b.j]?=some C:=by simpa using g2
     simp only[this,g3,oB,hv]
     cases (A b.j).2.1<;>rfl
    have bA:(A j).1=(b.j,aE)::b.ch:=by
     grind
    rw[bA,l04,I,aK]at ac
    simp only[Option.some.injEq]at ac
    simp only[aC,←ac]
    cases (A b.j).2.1<;>cases aE<;>cases b.e<;>rfl
   ·cases Z
 have bZ:∀ i f,ops.toList[i]?=some f->∀ F,(A i).2.2 = .ef F->∀ v E G,Sub E G->F v E->F v G:=λi f ao F br=>by
  obtain⟨b1,b4,_,_,_,_,aO,_⟩:=aJ i f ao
  rw[br]at aO
  exact aO.1
 have fin:∀ {fr:List (Nat×AV)} {ab:Act} {O:World} {M:Hp} {be':Nat->Nat} {oe':Nat->Value} {L:Hp} {v:Value},Sub X M->ab=a.put o.dst v->Sim P h0 w0 be' oe' L { st with fr:=fr } M a O ->
   J6 st be oe st be' oe'->((A j).2.1=true->H05 st be' oe' M (A j).2.2 v)->((A j).2.1=false->v=undef)->n09 P h0 w0 ops st h A sk kp (listed.setIfInBounds j true) ab O:=by
  intro fr ab O M be' oe' L v aR Y bW ak hv bO
  subst Y
  have bn:J6 { st with fr:=w4 ops.toList st.fr } be oe { st with fr:=w4 ops.toList st.fr } be' oe':=⟨ak.bl,ak.be,ak.sm⟩
  have s1:Sim P h0 w0 be' oe' L { st with fr:=w4 ops.toList st.fr } M a O :=
   bW.refr (fr:=w4 ops.toList st.fr) λt=>A2.fr (st := { st with fr:=w4 ops.toList st.fr }) ((s.fr t).grow bn)
  have s2:Sim P h0 w0 be' oe' L { st with fr:=w4 ops.toList st.fr } M (a.put o.dst v) O:=by
   cases T:o.dst with
   |none=>exact s1
   |some d =>
    have az:=s1.put (d:=d) (av := .dead) (v:=v) (ah o ag d T) trivial
    refine az.refr (fr:=w4 ops.toList st.fr) λt=>?_
    have g:=az.fr t
    grind[U3,g02]
  have cn:∀ d,o.dst≠some d->(a.put o.dst v).tmps.getD d undef=a.tmps.getD d undef:=λd T=>by
   cases ax:o.dst with
   |none=>rfl
   |some S=>simp[Act.put,Array.getElem?_setIfInBounds_ne (λe=>T (by rw[ax,e]):S≠d)]
  refine⟨be',oe',L,M,λb x I=>aR b x (aA b x I),s2,λp az=>?_,λi f d aB E G aH=>?_⟩
  ·grind
  by_cases hij:j=i
  ·subst hij
   rw[aN]at E;cases E
   have aa:d<a.tmps.size:=by rw[s.siz];exact ah o ag d G
   have:(a.put o.dst v).tmps.getD d undef=v:=by
    rw[G]
    simp[Act.put,aa]
   rw[this]
   exact⟨hv,bO⟩
  ·have bG:listed.getD i false=true:=by rw[getD_set_ne false hij]at aH;exact aH
   have bJ:∀ S,o.dst=some S->S≠d:=λS ax e=>by
    subst e
    exact hij (bq j i o f S ai (by simpa using E) ax G)
   have:(a.put o.dst v).tmps.getD d undef=a.tmps.getD d undef:=by
    cases T:o.dst with
    |none=>rfl
    |some S=>simp[Act.put,Array.getElem?_setIfInBounds_ne (bJ S T)]
   rw[this]
   obtain⟨ae,bS⟩:=ar i f d aB E G bG
   refine⟨λJ=>?_,bS⟩
   have ae:=ae J
   cases hA:(A i).2.2 with
   |pu av=>rw[hA]at ae;exact A2.grow ak ae
   |ef F=>rw[hA]at ae;exact bZ i f (by simpa using E) F hA _ _ _ aR ae
 refine⟨λbQ=>?_,λbP=>?_⟩
 rotate_left
 ·have J:(A j).2.1=false:=by rw[←aS];exact bP
  exact fin (fr:=w4 ops.toList st.fr) (λ_ _ h=>h) rfl s (J6.refl _ _ _) (λh=>by rw[J]at h;cases h) (λ_=>rfl)
 have J:(A j).2.1=true:=by rw[←aS];exact bQ
 rw[J]at an K
 have ca:cB af (A j).1=some true:=by rw[ac,J]
 have bY:∀ t x,j03 R t=some x->F0h st be oe X D x (a.tmps.getD t undef)∨Operand.tmp t ∉ o.op.operands:=λt x m=>by
  by_cases y:Operand.tmp t∈o.op.operands
  ·refine .inl λbC=>?_
   obtain⟨i,f,g1,g2,g3,g4,g5⟩:=U.p1 t x (t04 m)
   obtain⟨e,N,I,aj⟩:=aL o ag t y i f g2 g3
   have ay:listed.getD i false=true:=by rw[←aj];exact aP e N I
   have bB:(A i).2.1=true:=by
    have E:=am.p3 i (List.getElem?_eq_some_iff.1 g2).1 (List.getElem?_eq_some_iff.1 g2).1
    rw[g4,bR.c _ _ bC]at E
    exact(oJ E).symm
   have aB:sk i=false:=by
    grind
   have:=(ar i f t aB (by simpa using g2) g3 ay).1 bB
   rwa [g5]at this
  ·exact .inr y
 have bm:∀ t,Operand.tmp t∈o.op.operands->j03 R t=none->A2 st be oe (j3 st.fr t) (a.tmps.getD t undef):=λt y bK=>by
  have g:=s.fr t
  have bI:j3 (w4 ops.toList st.fr) t=j3 st.fr t:=Z00 λC bL T=>by
   obtain⟨i,ad,e⟩:=List.getElem_of_mem bL
   have ao:ops.toList[i]?=some C:=by rw[List.getElem?_eq_getElem ad,e]
   obtain⟨bk,N,I,aj⟩:=aL o ag t y i C ao T
   have aa:=bp j o ai bk N I
   rw[aj]at aa
   obtain⟨x,m⟩:=U.p2 i C t aa ao T
   rw[bK]at m;cases m
  rw[←bI]
  exact A2.fr (st := { st with fr:=w4 ops.toList st.fr }) (fr:=st.fr) g
 have aY:∀ t,Operand.tmp t∈o.op.operands->(∀ x,j03 R t=some x->F0h st be oe X D x (a.tmps.getD t undef))/\(j03 R t=none->A2 st be oe (j3 st.fr t) (a.tmps.getD t undef)):=λt y =>
  ⟨λx m=>(bY t x m).resolve_right λah=>ah y,bm t y⟩
 have mk:∀ {fr:List (Nat×AV)},(∀ t,A2 st be oe (j3 fr t) (a.tmps.getD t undef))->Sim P h0 w0 be oe H { st with fr:=fr } X a w:=λ{fr} g=>s.refr (fr:=fr) λt=>A2.fr (g t)
 cases hA:(A j).2.2 with
 |pu av =>
  rw[hA]at K
  rcases K with K|K
  ·refine Oper.wp_mono (λab O m=>?_) (X0o (be:=be) (oe:=oe) (H:=H) (h:=X) K an (λt=>?_) (λx m b0 aC=>?_) (λx m=>?_) (λx m=>?_) mk)
   ·obtain⟨v,be',oe',L,Y,⟨fr,s2⟩,W,g2⟩:=m
    exact fin (λ_ _ h=>h) Y s2 W (λ_=>by rw[hA];exact g2) (λh=>by rw[J]at h;cases h)
   ·grind
   ·obtain⟨g1,⟨C,g2,g3⟩,g4,g5⟩:=U.p4 x m
    obtain⟨i,f,aV,aW,ce,cf,cg⟩:=U.p1 x.d b0 (t04 aC)
    grind
   ·have aD:∀(l:List BE),x∈l->∃ b,H02 l x.j=some b:=by
     intro l
     induction l with
     |nil=>intro h;cases h
     |cons z l aU =>
      intro h
      simp only[H02]
      split
      ·exact⟨_,rfl⟩
      grind[absurd,Nat.ne_of_beq_eq_false]
    obtain⟨b,I⟩:=aD D m
    obtain⟨bv,bu⟩:=r03 I
    obtain⟨_,⟨ci,ap,aF⟩,aG,aq⟩:=U.p4 b bv
    obtain⟨_,⟨cj,bg,bh⟩,bi,bj⟩:=U.p4 x m
    rw[bu]at ap aG aq
    rw[bg]at ap;cases ap
    rw[bh]at aF
    rw[bj]at aq
    have b6:x.d=b.d:=by simpa using aF
    have b7:x.ch=b.ch:=bi.symm.trans aG
    have b8:x.e=b.e:=by simpa using aq
    rw[I]
    obtain⟨b5,b3,be',b2⟩:=b
    obtain⟨cu,cr,ct,cq⟩:=x
    grind
   ·obtain⟨g1,⟨C,g2,g3⟩,_,_⟩:=U.p4 x m
    exact U.p2 x.j C x.d g1 g2 g3
  ·obtain⟨fr,N,g⟩:=M01 (acc:=[]) (be:=be) (oe:=oe) (val:=λt=>a.tmps.getD t undef) an (λt=>trivial) (λt y=>aY t (by simpa using y)) (J07 (bs:=D) (K X aA) rfl)
   refine Oper.wp_mono (λab O m=>?_) (J9 (mk g) N)
   obtain⟨bf,st',M,v,be',oe',L,⟨rfl,rfl,rfl⟩,Y,s2,g2,W⟩:=m
   exact fin (λ_ _ h=>h) Y s2 ⟨W.bl,W.be,W.sm⟩ (λ_=>by rw[hA];exact A2.fr (st := { st with fr:=fr }) (fr:=st.fr) g2) (λh=>by rw[J]at h;cases h)
 |ef F =>
  rw[hA]at K
  obtain⟨_,K⟩:=K
  obtain⟨fr,N,g⟩:=M01 (acc:=[]) (be:=be) (oe:=oe) (val:=λt=>a.tmps.getD t undef) an (λt=>trivial) (λt y=>aY t (by simpa using y)) (J07 (bs:=D) (K X aA) rfl)
  refine Oper.wp_mono (λab O m=>?_) (b0j (mk g) N)
  obtain⟨bf,st',M,v,be',oe',L,bF,Y,s2,g2,W⟩:=m
  obtain⟨cl,G,⟨y,aV,aW⟩,ba,bo⟩:=J02 s2 g2 bF
  obtain⟨r,rfl⟩:=U0q y
  have al:J6 st be oe st be' oe':=by
   have aw:=W.trans bo
   refine⟨aw.bl,aw.be,λi a4 aQ=>?_⟩
   obtain⟨s1,aZ,ck,a0⟩:=aw.sm i a4 aQ
   have a1:stamp { n:=st.n,fr:=fr,bx:=st.bx,ow:=st.ow++r } i=some a4:=a0g (st := { st with fr:=fr }) aQ
   grind
  have bz:∀ i cs ty,nth st.bx i=some (.live cs ty)->∃ vs,Z1 { st with fr:=fr } oe' cs vs/\L (be' i)=some (.cells vs.toArray ty (0,0)):=λi cs ty ad=>by
   obtain⟨_,V,aZ,_⟩:=s.box i cs ty ad
   obtain⟨_,vs,a0,a1⟩:=ba.box i cs ty ad
   refine⟨vs,?_,a1⟩
   have aD:∀(cs:List A5) (V vs:List Value),Z1 { st with fr:=w4 ops.toList st.fr } oe cs V->Z1 { n:=st.n,fr:=fr,bx:=st.bx,ow:=st.ow++r } oe' cs vs->Z1 { st with fr:=fr } oe' cs vs:=by
    intro cs
    induction cs with
    |nil=>intro V vs _ g;cases vs with
     |nil=>trivial
     |cons v vs=>exact g.elim
    |cons c cs aU =>
     intro V vs au g1
     cases V with
     |nil=>exact au.elim
     |cons co V =>
      cases vs with
      |nil=>exact g1.elim
      |cons cp vs =>
       refine⟨?_,aU V vs au.2 g1.2⟩
       cases c with
       |val x=>exact g1.1
       |own k s1 =>
        obtain⟨bb,a2,_,_⟩:=au.1
        obtain⟨cm,a3,bT,bU⟩:=g1.1
        have bV:stamp { n:=st.n,fr:=fr,bx:=st.bx,ow:=st.ow++r } k=some bb:=a0g (st := { st with fr:=fr }) a2
        rw[bV]at a3
        cases a3
        exact⟨bb,a2,bT,bU⟩
   exact aD cs V vs aZ a0
  have bX:Sim P h0 w0 be' oe' L { st with fr:=fr } G a O:=Sim.untail (st := { st with fr:=fr }) (t:=r) ba (λu=>A2.grow (st := { st with fr:=fr }) (st' := { st with fr:=fr }) ⟨al.bl,al.be,al.sm⟩ (A2.fr (g u))) bz
  exact fin (fr:=fr) aV Y bX al (λ_=>by rw[hA];exact aW) (λh=>by rw[J]at h;cases h)
theorem n09.start{ops:Array Oper}{st:St}{A:Asg}{sk:Nat->Bool}(s:Sim P h0 w0 be oe H st h a w):n09 P h0 w0 ops st h A sk [] (Array.replicate ops.size false) a w:=by
 refine⟨be,oe,H,h,λ_ _ h=>h,s.refr (fr:=w4 ops.toList st.fr) λt=>?_,λp k=>(by cases k),λj o d _ c f b=>?_⟩
 ·by_cases hx:∃ o∈ops.toList,o.dst=some t
  ·obtain⟨o,c,f⟩:=hx
   rw[g02 c f]
   trivial
  ·rw[Z00 λo i g=>hx ⟨o,i,g⟩]
   exact s.fr t
 ·simp[Array.getElem?_replicate]at b
  split at b<;>cases b
theorem a0m{ops:Array Oper}{st:St}{A:Asg}{sk:Nat->Bool}{kp:List (Nat×Value)}{u:FL}{G:List BE}{K:St->Hp->Prop}{listed:Array Bool}
  (W:∀ i,sk i=true->(A i).2.2 = .pu (.val undef)) (aa:∀(i j:Nat) (b E:Oper) (d:Nat),ops.toList[i]?=some b->ops.toList[j]?=some E->b.dst=some d->E.dst=some d->i=j)
  (f:C0f ops.toList A u G ops.toList.length) (R:∀ c,Sub h c->y0f c u st.fr λfr=>K { st with fr:=fr } c) (ad:∀ j,j<ops.size->listed.getD j false=true)
  (l:n09 P h0 w0 ops st h A sk kp listed a w):∃ be oe H c fr,K { st with fr:=fr } c/\Sim P h0 w0 be oe H { st with fr:=w4 ops.toList st.fr } c a w/\(∀ p∈kp,a.tmps.getD p.1 undef=p.2) /\
   ∀ t,(∀(i:Nat) (b:Oper),ops.toList[i]?=some b->b.dst=some t->sk i=false)->A2 st be oe (j3 fr t) (a.tmps.getD t undef):=by
 obtain⟨be,oe,H,c,V,s,keep,Z⟩:=l
 have Q:∀ t,(∃(i:Nat) (b:Oper),ops.toList[i]?=some b/\b.dst=some t/\sk i=true) ∨ ¬ ∃(i:Nat) (b:Oper),ops.toList[i]?=some b/\b.dst=some t/\sk i=true:=λt=>Classical.em _
 have m:∃ val:Nat->Value,∀ t,((∃(i:Nat) (b:Oper),ops.toList[i]?=some b/\b.dst=some t/\sk i=true)->val t=undef)/\((¬ ∃(i:Nat) (b:Oper),ops.toList[i]?=some b/\b.dst=some t/\sk i=true)->val t=a.tmps.getD t undef) :=
  Classical.axiomOfChoice (r:=λt v=>((∃(i:Nat) (b:Oper),ops.toList[i]?=some b/\b.dst=some t/\sk i=true)->v=undef)/\((¬ ∃(i:Nat) (b:Oper),ops.toList[i]?=some b/\b.dst=some t/\sk i=true)->v=a.tmps.getD t undef)) λt=>by
   rcases Q t with h|h
   ·exact⟨undef,λ_=>rfl,λn=>absurd h n⟩
   grind
 obtain⟨val,m⟩:=m
 obtain⟨fr,ac,g⟩:=Z0f (st:=st) (be:=be) (oe:=oe) (val:=val) (λp U N=>by
  obtain⟨t,x⟩:=p
  obtain⟨i,b,h0,I,J,L,M⟩:=f.p1 t x U
  cases hsk:sk i with
  |true =>
   have e:=(m t).1 ⟨i,b,I,J,hsk⟩
   have y:=W i hsk
   rw[M]at y
   show H05 st be oe c x.2 (val t)
   rw[y,e];exact rfl
  |false =>
  have z : ¬ ∃(i:Nat) (b:Oper),ops.toList[i]?=some b/\b.dst=some t/\sk i=true:=λ⟨k,F,q,D,X⟩=>by
   grind
  have ab:(A i).2.1=true:=by
   have:=f.p3 i h0 h0
   rw[L,show x.1 = [] from N]at this
   exact(oJ this).symm
  grind) (λt C=>by
  have z : ¬ ∃(i:Nat) (b:Oper),ops.toList[i]?=some b/\b.dst=some t/\sk i=true:=λ⟨k,F,q,D,X⟩=>by
   obtain⟨x,o⟩:=f.p2 k F t (List.getElem?_eq_some_iff.1 q).1 q D
   exact C x (t04 o)
  rw[(m t).2 z]
  have S:j3 (w4 ops.toList st.fr) t=j3 st.fr t:=Z00 λY T O=>by
   obtain⟨i,l,e⟩:=List.getElem_of_mem T
   obtain⟨x,o⟩:=f.p2 i Y t l (by rw[List.getElem?_eq_getElem l,e]) O
   exact C x (t04 o)
  have:=s.fr t
  rw[S]at this
  exact A2.fr (st := { st with fr:=w4 ops.toList st.fr }) (fr:=st.fr) this) (R c V)
 grind
theorem I06:∀ {l:List Oper},l0d l=true->∀ o∈l,∀ i w,o.guard=some (i,w)->O7 i o=true
 | [],h,o,a=>by cases a
 |b::r,h,o,a=>by
  simp only[l0d,Bool.and_eq_true]at h
  rcases List.mem_cons.1 a with rfl|a
  ·grind
  ·exact I06 h.2 o a
theorem g0t{ops:Array Oper}{Q:Exit->Act->World->Prop}{Inv:Array Bool->Act->World->Prop}(hB:∀(k:Nat) (o:Oper),ops.toList[k]?=some o->∀ e∈o.after,Region.binds .any e=true->e.on<k)
  (hstep:∀ listed a w j o,ops[j]?=some o->(∀ e∈o.after,Region.binds .any e=true->listed.getD e.on false=true)->Inv listed a w ->
   (Region.wanted o (yielded ops a.tmps)=true->o.wp P a w (Inv (listed.setIfInBounds j true)) Q)/\(Region.wanted o (yielded ops a.tmps)=false->Inv (listed.setIfInBounds j true) (a.put o.dst undef) w))
  (hQ:∀ listed a w,(∀ j,j<ops.size->listed.getD j false=true)->Inv listed a w->Q .normal a w) :
  ∀(fuel:Nat) (listed:Array Bool) (a:Act) (w:World),listed.size=ops.size->listed.toList.count true+fuel=ops.size->Inv listed a w->wpAny P .any ops Q fuel listed a w
 |0,listed,a,w,hsz,hc,hi=>by
  have hall':∀ j,j<ops.size->listed.getD j false=true:=λj hj=>by
   have h1:∀ b∈listed.toList,true=b:=List.count_eq_length.1 (by grind)
   have hlt:j<listed.size:=by omega
   have:=h1 listed[j] (by simp)
   simp[hlt,←this]
  refine⟨?_,hQ listed a w hall' hi⟩
  simp_all[Region.ready,List.mem_cons_self,mem_ready,Array.getElem?_eq_some_iff]
 |fuel+1,listed,a,w,hsz,hc,hi=>by
  refine⟨λhr=>hQ listed a w (x0b hB hsz hr) hi,λj hj=>?_⟩
  obtain⟨h1,o,h2,h3⟩:=mem_ready.1 hj
  unfold wpOp
  simp only[h2]
  obtain⟨ht,hf⟩:=hstep listed a w j o h2 h3 hi
  have next:∀ a' w',Inv (listed.setIfInBounds j true) a' w'->wpAny P .any ops Q fuel (listed.setIfInBounds j true) a' w':=λa' w' hi'=>g0t hB hstep hQ fuel _ a' w' (by simpa using hsz) (by rw[count_set h1];omega) hi'
  cases hw:Region.wanted o (yielded ops a.tmps)with
  |true =>
   rw[if_pos rfl]
   exact .inl (Oper.wp_mono next (ht hw))
  |false =>
   grind
theorem P0r{ops:Array Oper}{Q:Exit->Act->World->Prop}{Inv:Array Bool->Act->World->Prop}(hB:∀(k:Nat) (o:Oper),ops.toList[k]?=some o->∀ e∈o.after,Region.binds .any e=true->e.on<k)
  (hstep:∀ listed a w j o,ops[j]?=some o->(∀ e∈o.after,Region.binds .any e=true->listed.getD e.on false=true)->Inv listed a w ->
   (Region.wanted o (yielded ops a.tmps)=true->o.wp P a w (Inv (listed.setIfInBounds j true)) Q)/\(Region.wanted o (yielded ops a.tmps)=false->Inv (listed.setIfInBounds j true) (a.put o.dst undef) w))
  (hQ:∀ listed a w,(∀ j,j<ops.size->listed.getD j false=true)->Inv listed a w->Q .normal a w) :
  ∀(l:List Oper) (k:Nat) (listed:Array Bool) (a:Act) (w:World),(∀ j,l[j]?=ops.toList[k+j]?)->k+l.length=ops.size->listed.size=ops.size->(∀ j,j<k->listed.getD j false=true)->Inv listed a w->wpList P ops Q l a w
 | [],k,listed,a,w,hl,hk,hsz,hp,hi=>hQ listed a w (λj hj=>hp j (by simp at hk;omega)) hi
 |o::l,k,listed,a,w,hl,hk,hsz,hp,hi=>by
  have ho:ops.toList[k]?=some o:=by simpa using (hl 0).symm
  have hl':∀ j,l[j]?=ops.toList[k+1+j]?:=λj=>by have:=hl (j+1);grind
  obtain⟨ht,hf⟩:=hstep listed a w k o (by simpa using ho) (λe he hb=>hp _ (hB k o ho e he hb)) hi
  have next:∀ a' w',Inv (listed.setIfInBounds k true) a' w'->wpList P ops Q l a' w':=λa' w' hi' =>
   P0r hB hstep hQ l (k+1) _ a' w' hl' (by grind) (by simpa using hsz) (λj hj=>by
    by_cases e:k=j
    ·subst e
     have:k<listed.size:=by grind
     simp[this]
    ·rw[getD_set_ne false e];exact hp j (by omega)) hi'
  unfold wpList
  cases hw:Region.wanted o (yielded ops a.tmps)with
  |true =>
   rw[if_pos rfl]
   exact .inl (Oper.wp_mono next (ht hw))
  |false =>
   grind
theorem c0j{ops:Array Oper}{st:St}{K:St->Hp->Prop}{Q:Exit->Act->World->Prop}(hb:C03 st.n ops.toList=true)(he:evU P ops.toList 0 [] [] st h K)
  (hQ:∀ a w st h be oe H,K st h->Sim P h0 w0 be oe H st h a w->Q .normal a w) :
  (∀ {be:Nat->Nat} {oe:Nat->Value} {H:Hp} {a:Act} {w:World},Sim P h0 w0 be oe H st h a w->wpAny P .any ops Q ops.size (Array.replicate ops.size false) a w) /\
  (∀ {be:Nat->Nat} {oe:Nat->Value} {H:Hp} {a:Act} {w:World},Sim P h0 w0 be oe H st h a w->wpList P ops Q ops.toList a w):=by
 simp only[C03,A02,Bool.and_eq_true]at hb
 obtain⟨⟨⟨b1,b2⟩,b3⟩,b4⟩:=hb
 obtain⟨hn,hD⟩:=O04 b1
 have hB:∀(k:Nat) (o:Oper),ops.toList[k]?=some o->∀ e∈o.after,Region.binds .any e=true->e.on<k:=λk o hk e he' hb=>by
  have:=s03 b2 k o hk e he' hb
  omega
 have hdep:=G06 b3
 have hgd:=I06 b4
 obtain⟨A,Lf,Bf,_,_,hP,hall,hfin⟩:=U0d (ops:=ops.toList) hD ops.toList 0 [] [] (λ_=>([],true,.pu .dead)) (λj=>by simp) (by simp)
  ⟨λt x h=>(by cases h),λi oi d hi=>by omega,λi hi=>by omega,λx hx=>(by cases hx)⟩ he
 have step:∀ listed a w j o,ops[j]?=some o->(∀ e∈o.after,Region.binds .any e=true->listed.getD e.on false=true)->n09 P h0 w0 ops st h A (λ_=>false) [] listed a w ->
   (Region.wanted o (yielded ops a.tmps)=true->o.wp P a w (n09 P h0 w0 ops st h A (λ_=>false) [] (listed.setIfInBounds j true)) Q)/\(Region.wanted o (yielded ops a.tmps)=false->n09 P h0 w0 ops st h A (λ_=>false) [] (listed.setIfInBounds j true) (a.put o.dst undef) w) :=
  λlisted a w j o h1 h2 h3=>O0r hD hn hB hdep hgd hP (λj o ho=>hall j o (Nat.zero_le _) ho) rfl (λ_ _ _ _ _ h=>nomatch h) (λ_ h=>nomatch h) (λ_ hp=>nomatch hp) h1 h2 h3
 have done:∀ listed a w,(∀ j,j<ops.size->listed.getD j false=true)->n09 P h0 w0 ops st h A (λ_=>false) [] listed a w->Q .normal a w:=λlisted a w hl hi=>by
  obtain⟨be,oe,H,h',fr,hk,s,_,g⟩:=a0m (sk:=λ_=>false) (λ_ h=>nomatch h) hD hP hfin hl hi
  exact hQ a w _ h' be oe H hk (s.refr (fr:=fr) λt=>A2.fr (g t λ_ _ _ _=>rfl))
 refine⟨λs=>?_,λs=>?_⟩
 ·exact g0t hB step done ops.size _ _ _ (by simp) (by simp[List.count_replicate]) (n09.start s)
 ·exact P0r hB step done ops.toList 0 _ _ _ (λj=>by simp) (by simp) (by simp) (λj hj=>by omega) (n09.start s)
end
def K03(H:Hp):List (Nat×Obj)->Hp
 | []=>H
 |p::l=>(K03 H l).set p.1 p.2
theorem t03{H:Hp}{b:Nat}:∀ {l:List (Nat×Obj)},(∀ p∈l,p.1≠b)->K03 H l b=H b
 | [],_=>rfl
 |p::l,h=>by
  rw[K03,Hp.set_other _ _ λe=>h p mS e.symm]
  exact t03 λq a=>h q (mC _ a)
theorem Q04{H:Hp}:∀ {l:List (Nat×Obj)},(l.map λp=>p.1).Nodup->∀ {p:Nat×Obj},p∈l->K03 H l p.1=some p.2
 | [],_,p,h=>nomatch h
 |q::l,a,p,h=>by
  rw[List.map_cons,List.nodup_cons]at a
  rcases List.mem_cons.1 h with rfl|h
  ·exact Hp.set_same _ _ _
  ·rw[K03,Hp.set_other _ _ λe=>a.1 (List.mem_map.2 ⟨p,h,e⟩)]
   exact Q04 a.2 h
theorem L07{H:Hp}{l:List (Nat×Obj)}(b:Nat):(∃ p∈l,p.1=b)∨∀ p∈l,p.1≠b:=by
 grind
theorem V0d{a H:Hp}{g w:World}{l:List (Nat×Obj)}(hv:Vis (K03 a l) g)(j:∀ p∈l,a p.1=none/\p.1<g.heap.size)(i:(l.map λp=>p.1).Nodup)(m:T2 a g H w):
  T2 (K03 a l) g (K03 H l) w:=by
 refine⟨m.os,m.tape,m.output,m.size,λb f k=>?_,λb o c=>?_,λb f=>?_,m.fz,m.dn⟩
 ·rcases L07 (H:=a) (l:=l) b with⟨p,d,rfl⟩|c
  ·grind[Q04]
  ·rw[t03 c]at k;exact m.keep b f k
 ·rcases L07 (H:=a) (l:=l) b with⟨p,d,rfl⟩|h
  ·rw[Q04 i d]at c;cases c
   rw[m.keep p.1 (j p d).2 (j p d).1]
   exact hv p.1 _ (Q04 i d)
  ·rw[t03 h]at c;exact m.vis b o c
 ·rcases L07 (H:=a) (l:=l) b with⟨p,d,rfl⟩|h
  ·grind[Q04]
  ·rw[t03 h]at f ⊢
   exact m.fresh b f
section
variable {P:Program} {h0:Hp} {w0:World} {be:Nat->Nat} {oe:Nat->Value} {H:Hp} {h:Hp} {a:Act} {w:World}
theorem Sim.base{st:St}(s:Sim P h0 w0 be oe H st h a w){b:Hp}{d c:World}(m:T2 b d H c):Sim P b d be oe H st h a c :=
 ⟨m,s.sub,s.box,s.pub,s.own,s.frz,s.bb,s.oo,s.bo,s.dfr,s.siz,s.fr⟩
theorem Sim.more{st:St}(s:Sim P h0 w0 be oe H st h a w){l:List (Nat×Obj)}(v:∀ p∈l,H p.1=none){f:Hp}{k:World}(m:T2 f k (K03 H l) w):Sim P f k be oe (K03 H l) st h a w:=by
 have keep:∀ b,H b≠none->K03 H l b=H b:=λb c=>t03 λp x e=>c (by grind)
 refine⟨m,λb o c=>by rw[keep b (by rw[s.sub b o c];simp)];exact s.sub b o c,λi cs ty d=>?_,s.pub,λi j e sz by_ nn xs d=>?_,s.frz,s.bb,s.oo,s.bo,s.dfr,s.siz,s.fr⟩
 ·obtain⟨q,vs,t,u⟩:=s.box i cs ty d
  grind
 ·refine(s.own i j e sz by_ nn xs d).keep λg n=>?_
  obtain⟨y,_,_,_,z⟩:=(s.own i j e sz by_ nn xs d).block n
  grind
theorem Sim.claim{st:St}(s:Sim P h0 w0 be oe H st h a w){cs:List A5}{vs:List Value}{t:TypeId}{b:Nat}(E:Z1 st oe cs vs)(D:H b=some (.cells vs.toArray t (0,0)))(F:h b=none)
  (K:∀ i cs ty,nth st.bx i=some (.live cs ty)->be i≠b) (L:∀ i q e sz by_ nn xs g,nth st.ow i=some ⟨q,.live e sz by_ nn xs⟩->(oe i).ownBlock=some g->g≠b) :
  let be':=λj=>if j=st.bx.length then b else be j
  let st':St := { st with bx:=st.bx ++ [.live cs t] }
  Sim P h0 w0 be' oe H st' h a w/\J6 st be oe st' be' oe:=by
 intro be' st'
 have k:J6 st be oe st' be' oe:=by
  refine⟨by simp[st'],λi c=>?_,λi s G=>⟨s,G,Nat.le_refl _,λ_=>rfl⟩⟩
  grind
 have l:∀ i cs ty,nth st.bx i=some (.live cs ty)->be' i=be i:=λi cs ty c=>by simp[be',Nat.ne_of_lt (I01 c)]
 have f:∀ i x,nth st'.bx i=some x->(i=st.bx.length/\x = .live cs t)∨(i≠st.bx.length/\nth st.bx i=some x):=by
  grind[v02]
 refine⟨⟨s.mv,s.sub,?_,?_,s.own,s.frz,?_,s.oo,?_,s.dfr,s.siz,λt=>(s.fr t).grow k⟩,k⟩
 ·intro i cs' ty c
  rcases f i _ c with⟨rfl,e⟩|⟨e,d⟩
  ·cases e
   exact⟨by simp[be',F],vs,E.grow k,by simp[be',D]⟩
  ·obtain⟨z,J,A,C⟩:=s.box i cs' ty d
   rw[l i cs' ty d]
   exact⟨z,J,A.grow k,C⟩
 ·intro i u c
  rcases f i _ c with⟨_,e⟩|⟨e,d⟩
  ·cases e
  ·simp[be',e,s.pub i u d]
 ·intro i j v I M N c n e
  rcases f i _ c with⟨rfl,m⟩|⟨m,d⟩<;>rcases f j _ n with⟨rfl,y⟩|⟨y,p⟩
  ·rfl
  ·grind
  ·grind
  ·rw[l i _ _ d,l j _ _ p]at e;exact s.bb i j _ _ _ _ d p e
 ·intro i v I j q e sz by_ nn xs c n o
  rcases f i _ c with⟨rfl,m⟩|⟨m,d⟩
  ·grind
  ·rw[l i _ _ d]at o;exact s.bo i _ _ j _ _ _ _ _ _ d n o
def p0a(a:Act)(d:Nat):Nat:=match a.tmps.getD d undef with
 | .pointer (some ⟨b,_,_⟩)=>b
 |_=>0
theorem c06{a:Act}{d b:Nat}(e:a.tmps.getD d undef=ptr b 0):p0a a d=b:=by
 unfold p0a;rw[e];rfl
def z0t(P:Program)(H h:Hp)(a:Act)(n:Nat)(o:Oper):Prop:=E04 o=true->∃ d t z,o.op = .alloc t/\o.dst=some d/\d<n/\F00 P t=some z/\a.tmps.getD d undef=ptr (p0a a d) 0/\H (p0a a d)=some (.cells z.cells t (0,0))/\h (p0a a d)=none
def A0t(a:Act)(o c:Oper):Prop:=E04 o=true->E04 c=true->∀ d b,o.dst=some d->c.dst=some b->p0a a d≠p0a a b
theorem G0h{st:St}{h:Hp}{d:Nat}:v07 ⟨st,h,[],[]⟩ d=false:=rfl
theorem W0k{K:St->Hp->Prop}{fd:List (Nat×AV)}:∀(l:List Oper) (st:St) (be:Nat->Nat),Sim P h0 w0 be oe H { st with fr:=fd } h a w ->
  (∀ t,(∀ o∈l,E04 o=true->o.dst≠some t)->A2 st be oe (j3 st.fr t) (a.tmps.getD t undef))->(∀ o∈l,z0t P H h a st.n o)->l.Pairwise (A0t a) ->
  (∀ i cs ty,nth st.bx i=some (.live cs ty)->∀ o∈l,E04 o=true->∀ d,o.dst=some d->be i≠p0a a d) ->
  (∀ i k e sz by_ nn xs g,nth st.ow i=some ⟨k,.live e sz by_ nn xs⟩->(oe i).ownBlock=some g->∀ o∈l,E04 o=true->∀ d,o.dst=some d->g≠p0a a d) ->
  doA (H03 P) l st h K->∃ st' be',K st' h/\Sim P h0 w0 be' oe H st' h a w
 | [],st,be,s,q,_,_,_,_,j=>⟨st,be,j,s.refr (fr:=st.fr) λt=>A2.fr (st:=st) (q t λo p=>nomatch p)⟩
 |o::l,st,be,s,q,y,v,A,p,j=>by
  rw[List.pairwise_cons]at v
  have j:(match E04 o with
   |true=>H03 P o st h λst h=>doA (H03 P) l st h K
   |false=>doA (H03 P) l st h K):=j
  cases hal:E04 o with
  |false =>
   rw[hal]at j
   exact W0k l st be s (λt T=>q t λc b F=>by
    grind) (λc b=>y c (mC _ b)) v.2 (λi cs ty f c b=>A i cs ty f c (mC _ b)) (λi k e sz by_ nn xs g f m c b=>p i k e sz by_ nn xs g f m c (mC _ b)) j
  |true =>
   rw[hal]at j
   obtain⟨d,t,z,N,x,V,O,Q,C,R⟩:=y o mS hal
   simp only[H03,R7,N,O,l0b,x,z0d,G0h]at j
   have J:Nat.blt d (st.withBx (st.bx ++ [.live (vals z.cells.toList) t])).n=true:=by
    grind
   simp only[J]at j
   obtain⟨n,fr,bx,ow⟩:=st
   have M:doA (H03 P) l ⟨n,(d,.box bx.length 0)::fr,bx ++ [.live (vals z.cells.toList) t],ow⟩ h K:=j
   have I:z.cells=z.cells.toList.toArray:=by simp
   rw[I]at C
   obtain⟨s2,E⟩:=s.claim (Z1.vals _ oe _) C R (λi cs ty f=>A i cs ty f o mS hal d x) (λi k e sz by_ nn xs g f m=>p i k e sz by_ nn xs g f m o mS hal d x)
   refine W0k l ⟨n,(d,.box bx.length 0)::fr,bx ++ [.live (vals z.cells.toList) t],ow⟩ _ s2 (λu U=>?_) (λc b=>y c (mC _ b)) v.2 (λi cs ty f c b G D L=>?_) (λi k e sz by_ nn xs g f m c b=>p i k e sz by_ nn xs g f m c (mC _ b)) M
   ·show A2 _ _ _ (j3 ((d,.box bx.length 0)::fr) u) _
    rw[U3]
    split
    ·rename_i e
     subst e
     refine⟨by simp,?_⟩
     rw[Q];simp
    ·rename_i e
     have g1:=q u λc b F S=>by
      grind
     exact A2.fr (st:=⟨n,fd,bx ++ [.live (vals z.cells.toList) t],ow⟩) (A2.grow E (A2.fr (st:=⟨n,fr,bx,ow⟩) (fr:=fd) g1))
   ·simp only[v02]at f
    split at f
    ·rename_i e
     subst e
     simp only[if_pos]
     exact v.1 c b hal G d D x L
    grind
theorem p05{d:Nat}:∀ {l:List Operand},z07 d l=false->Operand.tmp d ∉ l
 | [],_,h=>nomatch h
 |x::r,a,h=>by
  rcases List.mem_cons.1 h with e|b
  ·subst e
   simp[z07]at a
  ·cases x<;>simp only[z07,Bool.or_eq_false_iff]at a
   ·exact p05 a.2 b
   all_goals exact p05 a b
theorem y0c{d:Nat}:∀ {l:List Oper},D0d d l=false->∀ o∈l,Operand.tmp d ∉ o.op.operands
 | [],_,o,h=>nomatch h
 |c::r,a,o,h=>by
  simp only[D0d,Bool.or_eq_false_iff]at a
  rcases List.mem_cons.1 h with rfl|h
  ·exact λb=>p05 a.1 (by simpa using b)
  ·exact y0c a.2 o h
theorem d0j{all:List Oper}:∀ {l:List Oper},okA P all l=true->∀ o∈l,E04 o=true->∃ t d z,o.op = .alloc t/\o.guard=none/\o.dst=some d/\F00 P t=some z/\∀ c∈all,Operand.tmp d ∉ c.op.operands
 | [],_,o,h,_=>nomatch h
 |f::r,a,o,h,b=>by
  simp only[okA,Bool.and_eq_true]at a
  rcases List.mem_cons.1 h with rfl|h
  ·grind[E04,y0c]
  ·exact d0j a.2 o h b
theorem e0j{o:Oper}(h:E04 o=false):m00 o=o:=by
 grind[m00,E04]
theorem Z7(o:Oper):(m00 o).dst=o.dst:=by unfold m00;split<;>rfl
theorem f0j(o:Oper):(m00 o).after=o.after:=by unfold m00;split<;>rfl
theorem g0j(o:Oper):(m00 o).guard=o.guard:=by unfold m00;split<;>rfl
theorem a8:∀(l:List Oper) (i:Nat),(J5 l)[i]?=(l[i]?).map m00
 | [],i=>by simp[J5]
 |o::r,0=>by simp[J5]
 |o::r,i+1=>by simp[J5,a8 r i]
theorem b0g:∀(l:List Oper),(J5 l).length=l.length
 | []=>rfl
 |o::r=>by simp[J5,b0g r]
theorem h0j{o:Oper}{d:Nat}(h:Operand.tmp d∈(m00 o).op.operands):Operand.tmp d∈o.op.operands:=by
 grind[E04,e0j,m00,Op.operands]
abbrev B0t:=List (Nat×Nat×Obj)
def skA(a:List Oper)(i:Nat):Bool:=match a[i]? with
 |some o=>E04 o
 |none=>false
def A0b(P:Program)(h0:Hp)(w0:World)(f:List Oper)(st:St)(h:Hp)(A:Asg)(listed:Array Bool)(a:Act)(w:World):Prop :=
 ∃(c:B0t) (g:Hp) (i:World),T2 h0 w0 (K03 g (c.map λp=>p.2)) i/\(∀ p∈c,g p.2.1=none/\p.2.1<i.heap.size)/\((c.map λp=>p.2).map λp=>p.1).Nodup /\
  n09 P g i (J5 f).toArray st h A (skA f) (c.map λp=>(p.1,ptr p.2.1 0)) listed a w /\
  (∀(j:Nat) (o:Oper) t d z,f[j]?=some o->o.op = .alloc t->o.dst=some d->F00 P t=some z->listed.getD j false=true->∃ b,(d,b,Obj.cells z.cells t (0,0))∈c) /\
  ∀ p∈c,∃(j:Nat) (o:Oper),f[j]?=some o/\E04 o=true/\o.dst=some p.1/\listed.getD j false=true
theorem A0b.start{g:List Oper}{st:St}{A:Asg}{m:Nat}(s:Sim P h0 w0 be oe H st h a w):A0b P h0 w0 g st h A (Array.replicate m false) a w:=by
 refine⟨[],H,w,s.mv,λp b=>(by cases b),by simp,?_,λj o t d z _ _ _ _ f=>?_,λp b=>(by cases b)⟩
 ·have l:Sim P H w be oe H st h a w:=s.base (T2.refl s.mv.vis)
  refine⟨be,oe,H,h,λ_ _ h=>h,l.refr (fr:=w4 (J5 g) st.fr) λt=>?_,λp b=>(by cases b),λj o d _ i k c=>?_⟩
  ·by_cases hx:∃ o∈J5 g,o.dst=some t
   ·obtain⟨o,i,k⟩:=hx
    rw[g02 i k]
    trivial
   ·rw[Z00 λo q n=>hx ⟨o,q,n⟩]
    exact l.fr t
  ·simp[Array.getElem?_replicate]at c
   split at c<;>cases c
 ·simp[Array.getElem?_replicate]at f
  split at f<;>cases f
theorem Q0r{f:List Oper}{st:St}{A:Asg}{au:FL}{Z:List BE}{listed:Array Bool}{j:Nat}{o:Oper}{Q:Exit->Act->World->Prop}
  (ad:∀(i j:Nat) (l ap:Oper) (d:Nat),(J5 f)[i]?=some l->(J5 f)[j]?=some ap->l.dst=some d->ap.dst=some d->i=j)
  (ae:∀ o∈J5 f,∀ d,o.dst=some d->d<st.n)
  (aA:∀(k:Nat) (o:Oper),(J5 f)[k]?=some o->∀ e∈o.after,Region.binds .any e=true->e.on<k)
  (aG:∀ o∈J5 f,∀ t,Operand.tmp t∈o.op.operands->∀(i:Nat) (l:Oper),(J5 f)[i]?=some l->l.dst=some t->∃ e∈o.after,Region.binds .any e=true/\e.on=i)
  (aH:∀ o∈J5 f,∀ i w,o.guard=some (i,w)->O7 i o=true)
  (aB:C0f (J5 f) A au Z (J5 f).length)
  (aD:∀ j o,(J5 f)[j]?=some o->∃ aa K,W9 Z o.guard=some (A j).1/\C0f (J5 f) A aa K j/\G08 K Z/\cB K (A j).1=some (A j).2.1/\(OpU P st h aa K o (A j).1 (A j).2.1 (A j).2.2/\∀ av,Q08 P aa K (A j).1 o st=some av->(A j).2.2 = .pu av))
  (aV:∀(i:Nat) (l:Oper) (d:Nat),(J5 f)[i]?=some l->l.dst=some d->skA f i=true->∀ ag∈J5 f,Operand.tmp d ∉ ag.op.operands)
  (aS:∀ i,skA f i=true->(A i).2.2 = .pu (.val undef)) (aC:∀ o∈f,E04 o=true->∃ t d z,o.op = .alloc t/\o.guard=none/\o.dst=some d/\F00 P t=some z/\∀ ag∈f,Operand.tmp d ∉ ag.op.operands)
  (bb:listed.getD j true=false)
  (L:f[j]?=some o) (aQ:∀ e∈o.after,Region.binds .any e=true->listed.getD e.on false=true) (aJ:A0b P h0 w0 f st h A listed a w) :
  (Region.wanted o (yielded (J5 f).toArray a.tmps)=true->o.wp P a w (A0b P h0 w0 f st h A (listed.setIfInBounds j true)) Q) /\
  (Region.wanted o (yielded (J5 f).toArray a.tmps)=false->A0b P h0 w0 f st h A (listed.setIfInBounds j true) (a.put o.dst undef) w):=by
 obtain⟨y,T,Y,af,M,W,an,aj,ac⟩:=aJ
 have aO:o∈f:=List.mem_of_getElem? L
 have J:(J5 f)[j]?=some (m00 o):=by rw[a8,L];rfl
 have aM:listed.getD j false=false:=by
  grind
 have aL:j<listed.size:=by
  grind
 have az:∀ p∈y,∃(i:Nat) (l:Oper),(J5 f)[i]?=some l/\l.dst=some p.1/\skA f i=true:=λp c=>by
  obtain⟨i,l,m,E,C,_⟩:=ac p c
  exact⟨i,m00 l,by rw[a8,m];rfl,by rw[Z7];exact C,by unfold skA;rw[m];exact E⟩
 cases hisa:E04 o with
 |false =>
  have aK:=e0j hisa
  rw[aK]at J
  have aU:skA f j=false:=by unfold skA;rw[L];exact hisa
  have up:∀ ab F,n09 P T Y (J5 f).toArray st h A (skA f) (y.map λp=>(p.1,ptr p.2.1 0)) (listed.setIfInBounds j true) ab F->A0b P h0 w0 f st h A (listed.setIfInBounds j true) ab F:=λab F aY=>by
   refine⟨y,T,Y,af,M,W,aY,λi l t d z m E C I R=>?_,λp c=>?_⟩
   ·by_cases e:j=i
    ·grind[E04]
    ·rw[getD_set_ne false e]at R
     exact aj i l t d z m E C I R
   grind[getD_set_true]
  have bf:=O0r (P:=P) (h0:=T) (w0:=Y) (ops:=(J5 f).toArray) (Q:=Q) (sk:=skA f) (kp:=y.map λp=>(p.1,ptr p.2.1 0)) (by simpa using ad) (by simpa using ae) (by simpa using aA) (by simpa using aG) (by simpa using aH) (by simpa using aB) (by simpa using aD) aU (by simpa using aV) aS (λp c=>by
   obtain⟨q,D,rfl⟩:=List.mem_map.1 c
   simpa using az q D) (by simpa using J) aQ an
  grind[Oper.wp_mono]
 |true =>
  obtain⟨t,d,z,aZ,a0,G,a1,bc⟩:=aC o aO hisa
  refine⟨λ_=>?_,λN=>?_⟩
  rotate_left
  ·unfold Region.wanted at N;rw[a0]at N;cases N
  obtain⟨be,oe,H,S,aR,s,keep,ay⟩:=an
  have ao:T2 h0 w0 (K03 H (y.map λp=>p.2)) w:=af.trans (V0d af.vis (λp c=>by
   obtain⟨q,D,rfl⟩:=List.mem_map.1 c
   exact M q D) W s.mv)
  have ai:∀ p∈y,H p.2.1=none:=λp c=>s.mv.none_of (M p c).2 (M p c).1
  have N:wpS P (execOp a.eval o) (K03 H (y.map λp=>p.2)) (λn ah=>∃ b,K03 H (y.map λp=>p.2) b=none/\n = .value (ptr b 0)/\ah=(K03 H (y.map λp=>p.2)).set b (.cells z.cells t (0,0))):=by
   unfold execOp;rw[aZ]
   refine P7 _ _ _ ?_
   simp only[Instr.alloc,newVar,newRow,newObj,J2,i0a a1,Q2,wpS]
   exact λb U=>⟨b,U,rfl,rfl⟩
  obtain⟨n,ah,F,aP,⟨b,U,rfl,rfl⟩,V⟩:=B9 _ _ _ ao.vis N
  refine B7 aP ?_
  have al:∀ p∈y,p.2.1≠b:=λp c e=>by
   have:=Q04 (H:=H) W (List.mem_map.2 ⟨p,c,rfl⟩)
   rw[e,U]at this;cases this
  have ak:H b=none:=by
   rw[←U,t03]
   intro p c
   obtain⟨q,D,rfl⟩:=List.mem_map.1 c
   exact al q D
  have hv:Vis H F:=λx a2 O=>by
   refine V.vis x a2 ?_
   rw[Hp.set_other _ _ λe=>by subst e;rw[ak]at O;cases O]
   rw[t03]
   ·exact O
   ·intro p c e
    obtain⟨q,D,rfl⟩:=List.mem_map.1 c
    rw[←e,ai q D]at O;cases O
  have aN:d<a.tmps.size:=by rw[s.siz];exact ae (m00 o) (List.mem_of_getElem? J) d (by rw[Z7];exact G)
  have ba:(a.put o.dst (ptr b 0)).tmps.getD d undef=ptr b 0:=by rw[G];simp[Act.put,aN]
  have ar:∀ u,u≠d->(a.put o.dst (ptr b 0)).tmps.getD u undef=a.tmps.getD u undef:=λu aW=>by
   rw[G];simp[Act.put,Array.getElem?_setIfInBounds_ne (Ne.symm aW)]
  have a3:∀ p∈y,p.1≠d:=λp c e=>by
   obtain⟨i,l,m,E,C,I⟩:=ac p c
   have:=ad i j (m00 l) (m00 o) d (by rw[a8,m];rfl) J (by rw[Z7,C,e]) (by rw[Z7];exact G)
   subst this
   rw[aM]at I;cases I
  have s1:Sim P H F be oe H { st with fr:=w4 (J5 f) st.fr } S a F:=(by simpa using s:Sim P T Y be oe H { st with fr:=w4 (J5 f) st.fr } S a w).base (T2.refl hv)
  have s2:Sim P H F be oe H { st with fr:=w4 (J5 f) st.fr } S (a.put o.dst (ptr b 0)) F:=by
   have c:=s1.put (d:=d) (av := .dead) (v:=ptr b 0) (ae (m00 o) (List.mem_of_getElem? J) d (by rw[Z7];exact G)) trivial
   rw[G]
   refine c.refr (fr:=w4 (J5 f) st.fr) λu=>?_
   have g:=c.fr u
   rw[U3]at g
   split at g
   ·rename_i e
    subst e
    rw[g02 (List.mem_of_getElem? J) (by rw[Z7];exact G)]
    trivial
   ·exact g
  refine⟨(d,b,.cells z.cells t (0,0))::y,H,F,?_,λp c=>?_,?_,⟨be,oe,H,S,aR,by simpa using s2,λp c=>?_,λi l u X m E C=>?_⟩,λi l a4 ax z' m E C I R=>?_,λp c=>?_⟩
  ·exact ao.trans V
  ·rcases List.mem_cons.1 c with rfl|c
   ·exact⟨ak,V.vis.lt (by rw[Hp.set_same];simp)⟩
   ·exact⟨ai p c,Nat.lt_of_lt_of_le (M p c).2 (Nat.le_trans s.mv.size V.size)⟩
  ·rw[List.map_cons,List.map_cons,List.nodup_cons]
   refine⟨λaF=>?_,W⟩
   obtain⟨q,D,e⟩:=List.mem_map.1 aF
   obtain⟨p,c,rfl⟩:=List.mem_map.1 D
   exact al p c e
  ·rw[List.map_cons]at c
   rcases List.mem_cons.1 c with rfl|c
   ·exact ba
   ·obtain⟨q,D,rfl⟩:=List.mem_map.1 c
    rw[ar _ (a3 q D)]
    exact keep _ c
  ·have am:j≠i:=λe=>by
    subst e
    have aq:E04 o=false:=by unfold skA at X;rw[L]at X;exact X
    rw[hisa]at aq;cases aq
   rw[getD_set_ne false am]at C
   have aX:u≠d:=λe=>by
    subst e
    exact am (ad j i (m00 o) l u J (by simpa using m) (by rw[Z7];exact G) E)
   rw[ar u aX]
   exact ay i l u X m E C
  ·by_cases e:j=i
   ·grind[List.mem_cons_self]
   ·rw[getD_set_ne false e]at R
    obtain⟨aw,aE⟩:=aj i l a4 ax z' m E C I R
    exact⟨aw,mC _ aE⟩
  ·rcases List.mem_cons.1 c with rfl|c
   ·exact⟨j,o,L,hisa,G,by simp[aL]⟩
   ·obtain⟨i,l,m,E,C,I⟩:=ac p c
    exact⟨i,l,m,E,C,getD_set_true I⟩
theorem c0g{a m:Type}{f:a->m}:∀ {l:List a},(l.map f).Nodup->∀ {p q:a},p∈l->q∈l->f p=f q->p=q
 | [],_,p,q,h,_,_=>nomatch h
 |x::l,b,p,q,g,j,e=>by
  rw[List.map_cons,List.nodup_cons]at b
  rcases List.mem_cons.1 g with c|i<;>rcases List.mem_cons.1 j with d|k
  ·rw[c,d]
  ·grind
  ·grind
  ·exact c0g b.2 i k e
theorem W0q{c:List Oper}{st:St}{A:Asg}{V:FL}{ad:List BE}{K:St->Hp->Prop}{listed:Array Bool}
  (X:∀(i j:Nat) (N ac:Oper) (d:Nat),(J5 c)[i]?=some N->(J5 c)[j]?=some ac->N.dst=some d->ac.dst=some d->i=j)
  (ao:∀ o∈J5 c,∀ d,o.dst=some d->d<st.n)
  (aq:∀ i,skA c i=true->(A i).2.2 = .pu (.val undef)) (ak:∀ o∈c,E04 o=true->∃ t d z,o.op = .alloc t/\o.guard=none/\o.dst=some d/\F00 P t=some z/\∀ av∈c,Operand.tmp d ∉ av.op.operands)
  (ai:C0f (J5 c) A V ad (J5 c).length) (al:∀ m,Sub h m->y0f m V st.fr λfr=>doA (H03 P) c { st with fr:=fr } m K) (Z:∀ j,j<c.length->listed.getD j false=true)
  (D:A0b P h0 w0 c st h A listed a w):∃ st' m be oe H,K st' m/\Sim P h0 w0 be oe H st' m a w:=by
 obtain⟨O,aD,aK,ab,aa,T,ar,ah,aE⟩:=D
 obtain⟨be,oe,H,m,fr,an,s,keep,g⟩:=a0m (K:=λst h=>doA (H03 P) c st h K) (ops:=(J5 c).toArray) aq (by simpa using X) (by simpa using ai) al (λj v=>Z j (by simpa [b0g] using v)) ar
 have au:T2 h0 w0 (K03 H (O.map λp=>p.2)) w:=ab.trans (V0d ab.vis (λp L=>by
  grind) T s.mv)
 have R:∀ p∈O,H p.2.1=none:=λp L=>s.mv.none_of (aa p L).2 (aa p L).1
 have ay:=s.more (l:=O.map λp=>p.2) (λp L=>by
  grind) au
 have G:∀ o∈c,E04 o=true->∃ t d z b,o.op = .alloc t/\o.dst=some d/\F00 P t=some z/\(d,b,Obj.cells z.cells t (0,0))∈O/\a.tmps.getD d undef=ptr b 0:=λo x u=>by
  obtain⟨t,d,z,E,q,F,k,y⟩:=ak o x u
  obtain⟨j,v⟩:=List.getElem?_of_mem x
  obtain⟨b,J⟩:=ah j o t d z v E F k (Z j (List.getElem?_eq_some_iff.1 v).1)
  exact⟨t,d,z,b,E,F,k,J,keep _ (List.mem_map.2 ⟨_,J,rfl⟩)⟩
 have ap:∀ b,H b=none->m b=none:=λb J=>by
  cases e:m b with
  |none=>rfl
  |some o=>rw[s.sub b o e]at J;cases J
 refine(W0k (K:=K) (fd:=w4 (J5 c).toArray.toList st.fr) c { st with fr:=fr } be ay (λt aG=>?_) (λo x u=>?_) ?_ (λi cs ty D o x u d C=>?_) (λi az e sz by_ nn xs aC D am o x u d C=>?_) an).elim λst' M=>M.elim λbe' M=>⟨st',m,be',oe,_,M.1,M.2⟩
 ·refine A2.fr (st:=st) (fr:=fr) (g t λi N Q U=>?_)
  have Q:(J5 c)[i]?=some N:=by simpa using Q
  rw[a8]at Q
  grind[E04,skA,absurd,Z7,List.mem_of_getElem?]
 ·obtain⟨t,d,z,b,E,q,F,k,y⟩:=G o x u
  have S:=c06 y
  obtain⟨j,v⟩:=List.getElem?_of_mem x
  refine⟨d,t,z,E,q,ao (m00 o) (List.mem_of_getElem? (i:=j) (by rw[a8,v];rfl)) d (by rw[Z7];exact q),F,by rw[S];exact y,by rw[S];exact Q04 T (List.mem_map.2 ⟨_,k,rfl⟩),by rw[S];exact ap b (R _ k)⟩
 ·rw[List.pairwise_iff_getElem]
  intro i j D v aF u aj d ae C Y e
  obtain⟨t,W,z,b,E,q,F,k,y⟩:=G _ (List.getElem_mem D) u
  obtain⟨aJ,aB,z',aA,Q,U,aH,aw,ax⟩:=G _ (List.getElem_mem v) aj
  rw[q]at C;cases C
  rw[U]at Y;cases Y
  rw[c06 y,c06 ax]at e
  subst e
  have:=c0g (f:=λp:Nat×Nat×Obj=>p.2.1) (by have:=T;rw[List.map_map]at this;exact this) k aw rfl
  have ag:d=ae:=congrArg Prod.fst this
  subst ag
  have:=X i j (m00 c[i]) (m00 c[j]) d (by rw[a8,List.getElem?_eq_getElem D];rfl) (by rw[a8,List.getElem?_eq_getElem v];rfl) (by rw[Z7];exact q) (by rw[Z7];exact U)
  omega
 ·obtain⟨t,W,z,b,E,q,F,k,y⟩:=G o x u
  rw[q]at C;cases C
  rw[c06 y]
  intro e
  obtain⟨_,vs,_,I⟩:=s.box i cs ty D
  rw[e,R _ k]at I;cases I
 ·obtain⟨t,W,z,b,E,q,F,k,y⟩:=G o x u
  rw[q]at C;cases C
  rw[c06 y]
  intro af
  obtain⟨_,_,_,_,I⟩:=(s.own i az e sz by_ nn xs D).block am
  rw[af,R _ k]at I;cases I
theorem h0t{ops:Array Oper}{Q:Exit->Act->World->Prop}{Inv:Array Bool->Act->World->Prop}(hB:∀(k:Nat) (o:Oper),ops.toList[k]?=some o->∀ e∈o.after,Region.binds .any e=true->e.on<k)
  (hstep:∀ listed a w j o,listed.size=ops.size->listed.getD j true=false->ops[j]?=some o->(∀ e∈o.after,Region.binds .any e=true->listed.getD e.on false=true)->Inv listed a w ->
   (Region.wanted o (yielded ops a.tmps)=true->o.wp P a w (Inv (listed.setIfInBounds j true)) Q)/\(Region.wanted o (yielded ops a.tmps)=false->Inv (listed.setIfInBounds j true) (a.put o.dst undef) w))
  (hQ:∀ listed a w,(∀ j,j<ops.size->listed.getD j false=true)->Inv listed a w->Q .normal a w) :
  ∀(fuel:Nat) (listed:Array Bool) (a:Act) (w:World),listed.size=ops.size->listed.toList.count true+fuel=ops.size->Inv listed a w->wpAny P .any ops Q fuel listed a w
 |0,listed,a,w,hsz,hc,hi=>by
  have hall':∀ j,j<ops.size->listed.getD j false=true:=λj hj=>by
   have h1:∀ b∈listed.toList,true=b:=List.count_eq_length.1 (by grind)
   have hlt:j<listed.size:=by omega
   have:=h1 listed[j] (by simp)
   simp[hlt,←this]
  refine⟨?_,hQ listed a w hall' hi⟩
  cases hr:Region.ready .any ops listed with
  |nil=>rfl
  |cons j r =>
   grind[Region.ready,List.mem_cons_self,mem_ready,Array.getElem?_eq_some_iff]
 |fuel+1,listed,a,w,hsz,hc,hi=>by
  refine⟨λhr=>hQ listed a w (x0b hB hsz hr) hi,λj hj=>?_⟩
  obtain⟨h1,o,h2,h3⟩:=mem_ready.1 hj
  unfold wpOp
  simp only[h2]
  obtain⟨ht,hf⟩:=hstep listed a w j o hsz h1 h2 h3 hi
  have next:∀ a' w',Inv (listed.setIfInBounds j true) a' w'->wpAny P .any ops Q fuel (listed.setIfInBounds j true) a' w':=λa' w' hi'=>h0t hB hstep hQ fuel _ a' w' (by simpa using hsz) (by rw[count_set h1];omega) hi'
  cases hw:Region.wanted o (yielded ops a.tmps)with
  |true =>
   rw[if_pos rfl]
   exact .inl (Oper.wp_mono next (ht hw))
  |false =>
   grind
theorem B0b{x:Nat}:∀ {l:List Nat},O0k x l=true↔x∈l
 | []=>by simp[O0k]
 |y::r=>by
  simp only[O0k,Bool.or_eq_true,List.mem_cons,B0b (l:=r)]
  simp_all
theorem d0g{ops:List Oper}{i:Nat}:∀ {l:List Nat},K0q ops i l=true->∃ j o,j∈l/\ops[j]?=some o/\O7 i o=true
 | [],h=>by cases h
 |j::r,h=>by
  simp only[K0q,Bool.or_eq_true]at h
  rcases h with h|h
  ·grind[G04,List.mem_cons_self]
  ·obtain⟨c,o,a,b⟩:=d0g h
   grind
theorem o09{ops:List Oper}{G:Nat->Prop}(a:∀ i j o,G j->ops[j]?=some o->O7 i o=true->G i):∀(n:Nat) (acc:List Nat),(∀ j∈acc,G j)->∀ i∈Q0f ops n acc,G i
 |0,acc,h=>h
 |n+1,acc,h=>by
  unfold Q0f
  split
  ·rename_i b
   obtain⟨j,o,c,d,f⟩:=d0g b
   exact o09 a n _ λi g=>by
    grind
  ·exact o09 a n acc h
theorem p09{d:Nat}:∀ {l:List Oper},S08 d l=false->∀ o∈l,o.dst≠some d
 | [],_,o,h=>nomatch h
 |c::r,a,o,h=>by
  simp only[S08,Bool.or_eq_false_iff]at a
  rcases List.mem_cons.1 h with rfl|h
  ·intro b
   simp_all
  ·exact p09 a.2 o h
theorem I05{b:List Nat}{t:Nat}:∀ {l:List Oper} {k:Nat},F04 b t l k=true->∀(i:Nat) (o:Oper),l[i]?=some o->o.dst=some t->k+i∈b
 | [],k,_,i,o,h,_=>by simp at h
 |d::r,k,a,i,o,h,c=>by
  simp only[F04,Bool.and_eq_true]at a
  cases i with
  |zero =>
   simp_all[B0b]
  |succ i =>
   have:=I05 a.2 i o (by simpa using h) c
   grind
theorem a09{i d:Nat}:∀ {l:List Oper},S05 i d l=true->∀ o∈l,Operand.tmp d∈o.op.operands->O7 i o=true
 | [],_,o,h,_=>nomatch h
 |g::r,b,o,h,c=>by
  simp only[S05,Bool.and_eq_true,Bool.or_eq_true]at b
  rcases List.mem_cons.1 h with rfl|h
  ·rcases b.1 with a|a
   ·have f:z07 d o.op.operands.toList=false:=by simpa using a
    exact absurd (show Operand.tmp d∈o.op.operands.toList by simpa using c) (p05 f)
   ·exact a
  ·exact a09 b.2 o h c
theorem W0d:∀ {l:List Oper},G0i l=true->∀ o∈l,T09 o.op=false
 | [],_,o,h=>nomatch h
 |b::r,a,o,h=>by
  simp only[G0i,Bool.and_eq_true]at a
  rcases List.mem_cons.1 h with rfl|h
  ·simpa using a.1
  ·exact W0d a.2 o h
def L02(o:Oper)(f:Operand->Value):Option Value:=match o.op with
 | .extract x k=>match f x with
  | .tuple vs=>vs[k]?
  |_=>none
 | .move x=>some (f x)
 | .assign x=>some (f x)
 | .pick c x y=>match f c with
  | .bool q=>some (if q=true then f x else f y)
  |_=>none
 |_=>none
theorem u04{x:Operand}{a b:Act}(h:∀ t∈o0b x,a.tmps.getD t undef=b.tmps.getD t undef):a.eval x=b.eval x:=by
 cases x with
 |tmp t=>exact h t (List.mem_singleton.2 rfl)
 |const v=>rfl
 |global g=>rfl
 |func f=>rfl
theorem L03{o:Oper}{a:List Nat}(h:R08 o=some a):o.guard=none/\((∃ x k,o.op = .extract x k/\a=o0b x)∨(∃ x,o.op = .move x/\a=o0b x)∨(∃ x,o.op = .assign x/\a=o0b x)∨∃ c x b,o.op = .pick c x b/\a=o0b c++(o0b x++o0b b)):=by
 unfold R08 at h
 split at h
 ·cases h
 ·rename_i d
  refine⟨d,?_⟩
  split at h
  ·rename_i x k e;cases h;exact .inl ⟨x,k,e,rfl⟩
  ·rename_i x e;cases h;exact .inr (.inl ⟨x,e,rfl⟩)
  ·rename_i x e;cases h;exact .inr (.inr (.inl ⟨x,e,rfl⟩))
  ·rename_i c x b e;cases h;exact .inr (.inr (.inr ⟨c,x,b,e,rfl⟩))
  ·cases h
theorem M07{o:Oper}{g:List Nat}{a b:Act}(h:R08 o=some g)(e:∀ t∈g,a.tmps.getD t undef=b.tmps.getD t undef):L02 o a.eval=L02 o b.eval:=by
 obtain⟨_,⟨x,k,d,rfl⟩|⟨x,d,rfl⟩|⟨x,d,rfl⟩|⟨c,x,i,d,rfl⟩⟩:=L03 h
 ·unfold L02;rw[d];simp only[u04 e]
 ·unfold L02;rw[d];simp only[u04 e]
 ·unfold L02;rw[d];simp only[u04 e]
 ·unfold L02;rw[d]
  simp only[u04 (x:=c) λt f=>e t (List.mem_append_left _ f),u04 (x:=x) λt f=>e t (List.mem_append_right _ (List.mem_append_left _ f)),u04 (x:=i) λt f=>e t (List.mem_append_right _ (List.mem_append_right _ f))]
theorem X0d{o:Oper}{d:List Nat}{a:Act}{v:Value}(h:R08 o=some d)(hv:L02 o a.eval=some v)(w:World):(execOp a.eval o).run P w = .ok (.value v) w:=by
 obtain⟨_,⟨x,k,e,_⟩|⟨x,e,_⟩|⟨x,e,_⟩|⟨c,x,f,e,_⟩⟩:=L03 h
 ·unfold L02 at hv;rw[e]at hv
  simp only at hv
  split at hv
  ·rename_i vs b
   unfold execOp;rw[e]
   simp only[Instr.extract,b,hv]
   rfl
  ·cases hv
 ·unfold L02 at hv;rw[e]at hv;cases hv
  unfold execOp;rw[e];rfl
 ·unfold L02 at hv;rw[e]at hv;cases hv
  unfold execOp;rw[e];rfl
 ·unfold L02 at hv;rw[e]at hv
  simp only at hv
  split at hv
  ·rename_i q b
   cases hv
   unfold execOp;rw[e]
   simp only[b,asBool]
   cases q<;>rfl
  ·cases hv
theorem X0q{o:Oper}{i:List Nat}{a:Act}{w:World}{f:Act->World->Prop}(h:R08 o=some i)(b:o.wp P a w f λ_ _ _=>False):∃ v,L02 o a.eval=some v/\f (a.put o.dst v) w:=by
 obtain⟨_,⟨x,k,e,_⟩|⟨x,e,_⟩|⟨x,e,_⟩|⟨c,x,j,e,_⟩⟩:=L03 h
 ·cases hx:L02 o a.eval with
  |some v =>
   refine⟨v,rfl,?_⟩
   unfold Oper.wp at b
   rw[X0d h hx w]at b
   exact b
  |none =>
   exfalso
   unfold L02 at hx;rw[e]at hx
   simp only at hx
   unfold Oper.wp execOp at b;rw[e]at b
   simp only[Instr.extract]at b
   split at hx
   ·rename_i vs g
    rw[g]at b
    simp only[hx]at b
    exact b
   ·rename_i d
    generalize a.eval x=z at b d
    cases z<;>first|exact b|exact absurd rfl (d _)
 ·refine⟨_,by unfold L02;rw[e],?_⟩
  unfold Oper.wp execOp at b;rw[e]at b
  exact b
 ·refine⟨_,by unfold L02;rw[e],?_⟩
  unfold Oper.wp execOp at b;rw[e]at b
  exact b
 ·cases hx:L02 o a.eval with
  |some v =>
   refine⟨v,rfl,?_⟩
   unfold Oper.wp at b
   rw[X0d h hx w]at b
   exact b
  |none =>
   exfalso
   unfold L02 at hx;rw[e]at hx
   simp only at hx
   unfold Oper.wp execOp at b;rw[e]at b
   simp only at b
   split at hx
   ·cases hx
   ·rename_i d
    generalize a.eval c=z at b d
    cases z<;>first|exact b|exact absurd rfl (d _)
def Y0d(as a:Act)(D:Nat->Prop):Prop:=as.tmps.size=a.tmps.size/\as.defers=a.defers/\∀ d,¬ D d->as.tmps.getD d undef=a.tmps.getD d undef
theorem M03(a:Act)(d u:Nat)(v:Value):(a.put (some d) v).tmps.getD u undef=if d=u/\d<a.tmps.size then v else a.tmps.getD u undef:=by
 by_cases e:d=u
 all_goals simp_all[Act.put,if_neg,Array.getElem?_setIfInBounds_ne]
theorem Y0d.put{as a:Act}{D:Nat->Prop}(l:Y0d as a D)(d:Option Nat)(v:Value):Y0d (as.put d v) (a.put d v) D:=by
 cases d with
 |none=>exact l
 |some d =>
  refine⟨by simp[Act.put,l.1],l.2.1,λu b=>?_⟩
  rw[M03,M03,l.1,l.2.2 u b]
theorem Y0q{o:Oper}{as a:Act}{w:World}{D:Nat->Prop}{k:Act->World->Prop}{Q:Exit->Act->World->Prop}(l:Y0d as a D)(q:T09 o.op=false)(y:∀ d,Operand.tmp d∈o.op.operands -> ¬ D d)
  (i:o.wp P as w k λ_ _ _=>False):o.wp P a w (λm j=>∃ g,k g j/\Y0d g m D/\(∃ v,g=as.put o.dst v∨∃ x,g = { as with defers:=x }.put o.dst v)/\∃ v,m=a.put o.dst v∨∃ x,m = { a with defers:=x }.put o.dst v) Q:=by
 have t:execOp as.eval o=execOp a.eval o:=execOp_congr o (λcs b e=>by rw[e]at q;cases q) λx z=>by
  cases x with
  |tmp d=>exact l.2.2 d (y d z)
  |_=>rfl
 unfold Oper.wp at *
 rw[t]at i
 generalize (execOp a.eval o).run P w=r at i
 have fin:∀(v:Value) (j:World),k (as.put o.dst v) j->∃ g,k g j/\Y0d g (a.put o.dst v) D/\(∃ v,g=as.put o.dst v∨∃ x,g = { as with defers:=x }.put o.dst v)/\∃ s,a.put o.dst v=a.put o.dst s∨∃ x,a.put o.dst v = { a with defers:=x }.put o.dst s :=
  λv j h=>⟨_,h,l.put o.dst v,⟨v,.inl rfl⟩,v,.inl rfl⟩
 cases r with
 |ok n j =>
  cases n with
  |value v=>exact fin v j i
  |skip=>exact fin undef j i
  |defer d =>
   refine⟨_,i,Y0d.put (as := { as with defers:=d::as.defers }) (a := { a with defers:=d::a.defers }) ⟨l.1,by simp[l.2.1],l.2.2⟩ o.dst undef,⟨_,.inr ⟨_,rfl⟩⟩,_,.inr ⟨_,rfl⟩⟩
  |enter f args =>
   refine Calls.mono i λe p h=>?_
   cases e with
   |returned v=>exact fin v p h
   |panicked c=>exact h.elim
   |outgrown=>obtain⟨_,_,h⟩:=h;exact h.elim
  |row row args=>exact Rows.mono i λv p h=>fin v p h
  |_=>exact i.elim
 |halt u j=>cases u<;>exact i.elim
theorem Sim.like{st:St}{as a:Act}{h0:Hp}{w0:World}{be:Nat->Nat}{oe:Nat->Value}{H h:Hp}{w:World}(s:Sim P h0 w0 be oe H st h as w){D:Nat->Prop}(l:Y0d as a D)(b:∀ d,¬ D d):Sim P h0 w0 be oe H st h a w :=
 ⟨s.mv,s.sub,s.box,s.pub,s.own,s.frz,s.bb,s.oo,s.bo,by rw[←l.2.1];exact s.dfr,by rw[←l.1];exact s.siz,λt=>by rw[←l.2.2 t (b t)];exact s.fr t⟩
theorem e0g:∀ {l:List Oper} {k:Nat},F0o k l=true->(∀ o∈l,o.guard=none)/\∀(i:Nat) (o:Oper),l[i+1]?=some o->O7 (k+i) o=true
 | [],k,h=>⟨λo b=>(nomatch b),λi o a=>(nomatch a)⟩
 | [x],k,h=>by
  rw[F0o]at h
  grind
 |x::c::r,k,h=>by
  rw[F0o]at h
  simp only[Bool.and_eq_true]at h
  obtain⟨g1,g2⟩:=e0g (l:=c::r) h.2
  refine⟨λo b=>?_,λi o a=>?_⟩
  ·grind
  ·cases i with
   |zero=>grind
   |succ i =>
    grind
theorem i0j{o:Oper}{st:St}{K:St->Hp->Prop}{Q:Exit->Act->World->Prop}(s:Sim P h0 w0 be oe H st h a w)(m:H03 P o st h K):
  o.wp P a w (λk l=>∃ st' b be' oe' j,K st' b/\Sim P h0 w0 be' oe' j st' b k l) Q:=by
 refine Oper.wp_mono (λk l q=>?_) (J9 s m)
 obtain⟨av,st',b,v,be',oe',j,n,rfl,t,g,u⟩:=q
 obtain⟨D,y,z,A,C⟩:=M04 (ops := #[o]) (i:=0) (rs:=⟨st',b,[],[]⟩) (ch:=[]) (c:=true) (v:=v) t ⟨(λx f=>nomatch f),(λx f=>nomatch f),(λd ch av p=>nomatch p)⟩ (by rfl) rfl (λ_=>g) (λh=>by cases h) n
 grind
theorem q0a{c d:List Oper}{a:List Nat}:∀ {l:List Oper} {k:Nat},m0d c d a l k=true->∀(i:Nat) (o:Oper),l[i]?=some o->O0k (k+i) a=true∨S0l c d a (k+i) o=true
 | [],k,_,i,o,h=>by simp at h
 |f::r,k,b,i,o,h=>by
  simp only[m0d,Bool.and_eq_true,Bool.or_eq_true]at b
  cases i with
  |zero=>grind
  |succ i =>
   have:=q0a b.2 i o (by simpa using h)
   grind
theorem Z0d{c d:List Oper}{b:List Nat}:∀ {f:List Nat},R0l c d b f=true->∀ t∈f,S08 t d=false/\F04 b t c 0=true
 | [],_,t,h=>by cases h
 |x::r,a,t,h=>by
  simp only[R0l,Bool.and_eq_true,Bool.not_eq_true']at a
  rcases List.mem_cons.1 h with rfl|h
  ·exact a.1
  ·exact Z0d a.2 t h
theorem X0k{c a:List Oper}{b:List Nat}{i:Nat}{o:Oper}(h:S0l c a b i o=true):∃ f d,R08 o=some f/\o.dst=some d/\S08 d a=false/\(∀ t∈f,S08 t a=false/\F04 b t c 0=true)/\S05 i d a=true:=by
 unfold S0l at h
 split at h
 ·rename_i t d g j
  simp only[Bool.and_eq_true,Bool.not_eq_true']at h
  exact⟨t,d,g,j,h.1.1,Z0d h.1.2,h.2⟩
 ·cases h
theorem z0n{ops:Array Oper}{m:Nat}{st:St}{K:St->Hp->Prop}{Q:Exit->Act->World->Prop}(hb:okZ P st.n m ops.toList=true)(he:evT P (H03 P) m ops.toList st h K)
  (hQ:∀ a w st h be oe H,K st h->Sim P h0 w0 be oe H st h a w->Q .normal a w) (s:Sim P h0 w0 be oe H st h a w):wpAny P .any ops Q ops.size (Array.replicate ops.size false) a w:=by
 simp only[okZ,C03,A02,Bool.and_eq_true,Bool.or_eq_true]at hb
 obtain⟨⟨⟨⟨⟨⟨⟨b1,b2⟩,b3⟩,b4⟩,b5⟩,b6⟩,b7⟩,b8⟩:=hb
 generalize hpre:ops.toList.take m=pre at b1 b2 b3 b4 b5 b8
 obtain⟨hn,hD⟩:=O04 b1
 have hB:∀(k:Nat) (o:Oper),(J5 pre)[k]?=some o->∀ e∈o.after,Region.binds .any e=true->e.on<k:=λk o hk e he' hb=>by
  have:=s03 b2 k o hk e he' hb
  omega
 have hdep:=G06 b3
 have hgd:=I06 b4
 have hal:=d0j b5
 have hBB:∀(k:Nat) (o:Oper),ops.toList[k]?=some o->∀ e∈o.after,Region.binds .any e=true->e.on<k:=λk o hk e he' hb=>by
  have:=s03 b6 k o hk e he' hb
  omega
 obtain⟨sq1,sq2⟩:=e0g b7
 unfold evT at he
 rw[hpre]at he
 obtain⟨A,Lf,Bf,_,_,hP,hall,hfin⟩:=U0d (ops:=J5 pre) hD (J5 pre) 0 [] [] (λ_=>([],true,.pu .dead)) (λj=>by simp) (by simp)
  ⟨λt x h=>(by cases h),λi oi d hi=>by omega,λi hi=>by omega,λx hx=>(by cases hx)⟩ he
 have hpl:pre.length=min m ops.size:=by rw[←hpre];simp
 have hpg:∀ j,j<m->ops.toList[j]?=pre[j]?:=λj hj=>by rw[←hpre,List.getElem?_take,if_pos hj]
 have hdg:∀ j,(ops.toList.drop m)[j]?=ops.toList[m+j]?:=λj=>List.getElem?_drop
 have hsr:∀(i:Nat) (oi:Oper) (d:Nat),(J5 pre)[i]?=some oi->oi.dst=some d->skA pre i=true->∀ o'∈J5 pre,Operand.tmp d ∉ o'.op.operands:=λi oi d q1 q2 q3 o' ho' hc=>by
  rw[a8]at q1
  unfold skA at q3
  cases e:pre[i]? with
  |none=>rw[e]at q1;cases q1
  |some o0 =>
   rw[e]at q1 q3
   cases q1
   obtain⟨t,d1,z,k1,k2,k3,k4,k5⟩:=hal o0 (List.mem_of_getElem? e) q3
   rw[Z7,k3]at q2;cases q2
   obtain⟨j,hj⟩:=List.getElem?_of_mem ho'
   rw[a8]at hj
   cases e2:pre[j]? with
   |none=>rw[e2]at hj;cases hj
   |some o1 =>
    rw[e2]at hj;cases hj
    exact k5 o1 (List.mem_of_getElem? e2) (h0j hc)
 have hsb:∀ i,skA pre i=true->(A i).2.2 = .pu (.val undef):=λi q3=>by
  unfold skA at q3
  cases e:pre[i]? with
  |none=>rw[e]at q3;cases q3
  |some o0 =>
   rw[e]at q3
   obtain⟨t,d1,z,k1,k2,k3,k4,k5⟩:=hal o0 (List.mem_of_getElem? e) q3
   obtain⟨Lj,bj,_,_,_,_,_,hu⟩:=hall i (m00 o0) (Nat.zero_le _) (by rw[a8,e];rfl)
   refine hu _ ?_
   unfold m00
   rw[k1]
   rfl
 let Rest:Nat->Act->World->Prop:=λk a w=>∃ st' h' be oe H,doT (H03 P) (ops.toList.drop k) st' h' K/\Sim P h0 w0 be oe H st' h' a w
 let ml:=Q0f ops.toList m [m]
 let Dl:Array Bool->Nat->Prop:=λlisted u=>∃(i:Nat) (o:Oper),pre[i]?=some o/\listed.getD i false=false/\o.dst=some u
 let Lat:Array Bool->Act->Act->Prop:=λlisted as a=>∀(i:Nat) (o:Oper) (t:List Nat) (d:Nat),pre[i]?=some o->listed.getD i false=false->R08 o=some t->o.dst=some d->L02 o a.eval=some (as.tmps.getD d undef)
 let Inv:Array Bool->Act->World->Prop:=λlisted a w=>(∀(j:Nat) (o:Oper),ops[j]?=some o->listed.getD j false=true->∀ e∈o.after,Region.binds .any e=true->listed.getD e.on false=true) /\
  (((∀ k,m<=k->listed.getD k false=false)/\A0b P h0 w0 pre st h A listed a w)∨∃ k as,m<k/\k<=ops.size/\(∀ i,i<k->listed.getD i false=true∨(i<m/\i ∉ ml))/\(∀ i,k<=i->listed.getD i false=false)/\Rest k as w/\Y0d as a (Dl listed)/\Lat listed as a)
 have lateOf:m<ops.size->∀(i:Nat) (o:Oper),pre[i]?=some o->i ∉ ml->∃ t d,R08 o=some t/\o.dst=some d/\S08 d (ops.toList.drop m)=false/\(∀ x∈t,S08 x (ops.toList.drop m)=false/\F04 ml x pre 0=true)/\S05 i d (ops.toList.drop m)=true:=λhm i o hi hml=>by
  rcases b8 with h|h
  ·exfalso
   have:ops.toList.drop m = []:=by
    cases e:ops.toList.drop m with
    |nil=>rfl
    |cons x r=>rw[e]at h;cases h
   have:=List.drop_eq_nil_iff.1 this
   simp at this;omega
  ·have:=q0a h.1 i o hi
   rw[Nat.zero_add]at this
   rcases this with h1|h1
   ·exact absurd (B0b.1 h1) hml
   ·exact X0k h1
 have noselT:m<ops.size->G0i (ops.toList.drop m)=true:=λhm=>by
  rcases b8 with h|h
  ·exfalso
   have:ops.toList.drop m = []:=by
    cases e:ops.toList.drop m with
    |nil=>rfl
    |cons x r=>rw[e]at h;cases h
   have:=List.drop_eq_nil_iff.1 this
   simp at this;omega
  ·exact h.2
 have preD:∀(i j:Nat) (oi oj:Oper) (d:Nat),pre[i]?=some oi->pre[j]?=some oj->oi.dst=some d->oj.dst=some d->i=j:=λi j oi oj d h1 h2 h3 h4 =>
  hD i j (m00 oi) (m00 oj) d (by rw[a8,h1];rfl) (by rw[a8,h2];rfl) (by rw[Z7];exact h3) (by rw[Z7];exact h4)
 have preN:∀(i:Nat) (o:Oper) (d:Nat),pre[i]?=some o->o.dst=some d->d<st.n:=λi o d h1 h2 =>
  hn (m00 o) (List.mem_of_getElem? (i:=i) (by rw[a8,h1];rfl)) d (by rw[Z7];exact h2)
 have unl:∀ {listed:Array Bool} {j:Nat},listed.getD j true=false->listed.getD j false=false/\j<listed.size:=λ{listed j} hj=>by
  rcases Nat.lt_or_ge j listed.size with h|h
  ·simp[h]at hj ⊢;exact hj
  ·simp[Array.getElem?_eq_none h]at hj
 have allpre:∀ {listed:Array Bool} {a:Act} {w:World},(∀ j,j<pre.length->listed.getD j false=true)->A0b P h0 w0 pre st h A listed a w->Rest m a w:=λ{listed a w} hl hi =>
  W0q (K:=λst h=>doT (H03 P) (ops.toList.drop m) st h K) hD hn hsb hal hP hfin hl hi
 have tail:∀ {Q:Exit->Act->World->Prop} {k:Nat} {o:Oper} {a:Act} {w:World},ops[k]?=some o->Rest k a w->o.wp P a w (Rest (k+1)) Q:=λ{Q k o a w} ho hr=>by
  obtain⟨st',h',be,oe,H,hd,s'⟩:=hr
  have hk:k<ops.toList.length:=by simpa using (Array.getElem?_eq_some_iff.1 ho).1
  have e:ops.toList.drop k=o::ops.toList.drop (k+1):=by
   rw[List.drop_eq_getElem_cons hk]
   congr 1
   have:ops.toList[k]?=some o:=by simpa using ho
   rw[List.getElem?_eq_getElem hk]at this
   exact oJ this
  rw[e]at hd
  exact i0j s' hd
 have virt:m<ops.size->∀ {listed:Array Bool} {a:Act} {w:World},listed.size=ops.size->(∀ i,i<m->i∈ml->listed.getD i false=true)->A0b P h0 w0 pre st h A listed a w ->
   ∀ k,k<=pre.length->∃ l2 as,l2.size=ops.size/\(∀ i,i<k->l2.getD i false=true)/\(∀ i,k<=i->l2.getD i false=listed.getD i false)/\A0b P h0 w0 pre st h A l2 as w /\
    Y0d as a (λu=>∃(i:Nat) (o:Oper),i<k/\pre[i]?=some o/\listed.getD i false=false/\o.dst=some u) /\
    ∀(i:Nat) (o:Oper) (t:List Nat) (d:Nat),i<k->pre[i]?=some o->listed.getD i false=false->R08 o=some t->o.dst=some d->L02 o a.eval=some (as.tmps.getD d undef):=by
  intro hmN listed a w hsz hml hA k
  induction k with
  |zero=>exact λ_=>⟨listed,a,hsz,λi hi=>by omega,λi _=>rfl,hA,⟨rfl,rfl,λ_ _=>rfl⟩,λi o t d hi=>by omega⟩
  |succ k ih =>
   intro hk
   obtain⟨l2,as,z1,z2,z3,z4,z5,z6⟩:=ih (by omega)
   cases hlk:listed.getD k false with
   |true =>
    refine⟨l2,as,z1,λi hi=>?_,λi hi=>z3 i (by omega),z4,⟨z5.1,z5.2.1,λu hu=>z5.2.2 u λ⟨i,o,q1,q2⟩=>hu ⟨i,o,by omega,q2⟩⟩,λi o t d hi q1 q2 q3 q4=>?_⟩
    ·by_cases e:i=k
     ·subst e;rw[z3 i (Nat.le_refl _)];exact hlk
     ·exact z2 i (by omega)
    ·have:i≠k:=λe=>by subst e;rw[hlk]at q2;cases q2
     exact z6 i o t d (by omega) q1 q2 q3 q4
   |false =>
    obtain⟨o,ho⟩:∃ o,pre[k]?=some o:=⟨pre[k],List.getElem?_eq_getElem (by omega)⟩
    have hkm:k<m:=by omega
    have hkml:k ∉ ml:=λh=>by rw[hml k hkm h]at hlk;cases hlk
    obtain⟨t,d,y1,y2,y3,y5,y6⟩:=lateOf hmN k o ho hkml
    have hg:=(L03 y1).1
    have hl2k:l2.getD k false=false:=by rw[z3 k (Nat.le_refl _)];exact hlk
    have hks:k<l2.size:=by rw[z1];omega
    have hun2:l2.getD k true=false:=by
     simp[hks]at hl2k ⊢;exact hl2k
    have hoL:ops.toList[k]?=some o:=by rw[hpg k hkm];exact ho
    have st1:=(Q0r (Q:=λ_ _ _=>False) hD hn hB hdep hgd hP (λj o ho=>hall j o (Nat.zero_le _) ho) hsr hsb hal hun2 ho (λe he1 he2=>z2 e.on (hBB k o hoL e he1 he2)) z4).1 (by unfold Region.wanted;rw[hg])
    obtain⟨v,v1,v2⟩:=X0q y1 st1
    have hasz:as.tmps.size=st.n:=by
     obtain⟨_,_,_,_,_,_,iu,_,_⟩:=z4
     obtain⟨_,_,_,_,_,s,_⟩:=iu
     exact s.siz
    have htne:∀ x∈t,¬ ∃(i:Nat) (o:Oper),i<k/\pre[i]?=some o/\listed.getD i false=false/\o.dst=some x:=λx hx ⟨i,o',q1,q2,q3,q4⟩=>by
     have:=I05 (y5 x hx).2 i o' q2 q4
     rw[Nat.zero_add]at this
     rw[hml i (by omega) this]at q3;cases q3
    rw[M07 y1 λx hx=>z5.2.2 x (htne x hx)]at v1
    rw[y2]at v2
    refine⟨l2.setIfInBounds k true,as.put (some d) v,by simpa using z1,λi hi=>?_,λi hi=>?_,v2,⟨by simp[Act.put,z5.1],z5.2.1,λu hu=>?_⟩,λi o' t' d' hi q1 q2 q3 q4=>?_⟩
    ·by_cases e:k=i
     ·subst e;simp[hks]
     ·rw[getD_set_ne false e];exact z2 i (by omega)
    ·rw[getD_set_ne false (by omega)];exact z3 i (by omega)
    ·rw[M03,if_neg λe=>hu ⟨k,o,by omega,ho,hlk,by rw[y2,e.1]⟩]
     exact z5.2.2 u λ⟨i,o',q1,q2⟩=>hu ⟨i,o',by omega,q2⟩
    ·rw[M03]
     by_cases e:i=k
     ·subst e
      rw[ho]at q1;cases q1
      rw[y1]at q3;cases q3
      rw[y2]at q4;cases q4
      rw[if_pos ⟨rfl,by rw[hasz];exact preN i o d ho y2⟩]
      exact v1
     ·rw[if_neg λh=>e (preD i k o' o d' q1 ho q4 (by rw[y2,h.1]))]
      exact z6 i o' t' d' (by omega) q1 q2 q3 q4
 refine h0t (Inv:=Inv) hBB (λlisted a w j o hsz hun ho hrd hi=>?_) (λlisted a w hl hi=>?_) ops.size _ a w (by simp) (by simp[List.count_replicate]) ⟨λj o _ h=>?_,.inl ⟨λk _=>?_,A0b.start s⟩⟩
 rotate_left 2
 ·simp[Array.getElem?_replicate]at h
  split at h<;>cases h
 ·simp[Array.getElem?_replicate]
  split<;>simp
 rotate_left 1
 ·rcases hi.2 with⟨hm,hA⟩|⟨k,as,k1,k2,k3,k4,hr,lk,lt⟩
  ·have hms:ops.size<=m:=by
    rcases Nat.lt_or_ge m ops.size with h|h
    ·have:=hm m (Nat.le_refl _)
     rw[hl m h]at this;cases this
    ·exact h
   obtain⟨st',h',be,oe,H,hd,s'⟩:=allpre (λj hj=>hl j (by omega)) hA
   rw[List.drop_eq_nil_of_le (by simpa using hms)]at hd
   exact hQ a w st' h' be oe H hd s'
  ·have hk:k=ops.size:=by
    rcases Nat.lt_or_ge k ops.size with h|h
    ·have:=k4 k (Nat.le_refl _)
     rw[hl k h]at this;cases this
    ·omega
   subst hk
   obtain⟨st',h',be,oe,H,hd,s'⟩:=hr
   rw[List.drop_eq_nil_of_le (by simp)]at hd
   refine hQ a w st' h' be oe H hd (s'.like lk λu ⟨i,o,q1,q2,q3⟩=>?_)
   have:=(List.getElem?_eq_some_iff.1 q1).1
   rw[hl i (by omega)]at q2;cases q2
 ·obtain⟨hcl,hi⟩:=hi
  obtain⟨hjf,hjs⟩:=unl hun
  have hcl':∀(i:Nat) (oi:Oper),ops[i]?=some oi->(listed.setIfInBounds j true).getD i false=true->∀ e∈oi.after,Region.binds .any e=true->(listed.setIfInBounds j true).getD e.on false=true:=λi oi h1 h2 e he1 he2=>by
   by_cases hij:j=i
   ·subst hij
    rw[ho]at h1;cases h1
    exact getD_set_true (hrd e he1 he2)
   ·rw[getD_set_ne false hij]at h2
    exact getD_set_true (hcl i oi h1 h2 e he1 he2)
  have hoL:ops.toList[j]?=some o:=by simpa using ho
  have hjlt:j<ops.size:=(Array.getElem?_eq_some_iff.1 ho).1
  by_cases hjm:j<m
  ·rcases hi with⟨hm,hA⟩|⟨k,as,k1,k2,k3,k4,hr,lk,lt⟩
   ·have hop:pre[j]?=some o:=by rw[←hpg j hjm];exact hoL
    have st1:=Q0r (Q:=Q) hD hn hB hdep hgd hP (λj o ho=>hall j o (Nat.zero_le _) ho) hsr hsb hal hun hop hrd hA
    have hyd:Region.wanted o (yielded ops a.tmps)=Region.wanted o (yielded (J5 pre).toArray a.tmps):=by
     unfold Region.wanted
     cases hg:o.guard with
     |none=>rfl
     |some p =>
      obtain⟨i,wv⟩:=p
      obtain⟨e,he1,he2,he3⟩:=P6 (hgd (m00 o) (List.mem_of_getElem? (i:=j) (by rw[a8,hop];rfl)) i wv (by rw[g0j];exact hg))
      rw[f0j]at he1
      have hlt:=hBB j o hoL e he1 he2
      rw[he3]at hlt
      have hig:=hpg i (by omega)
      have:yielded ops a.tmps i=yielded (J5 pre).toArray a.tmps i:=by
       unfold yielded
       have e1:ops[i]?=pre[i]?:=by rw[←hig];simp
       have e2:(J5 pre).toArray[i]?=(pre[i]?).map m00:=by simp[a8]
       rw[e1,e2]
       cases pre[i]? with
       |none=>rfl
       |some o0=>simp[Z7]
      simp only[this]
    rw[hyd]
    have up:∀ a' w',A0b P h0 w0 pre st h A (listed.setIfInBounds j true) a' w'->Inv (listed.setIfInBounds j true) a' w':=λa' w' hx=>⟨hcl',.inl ⟨λk hk=>by rw[getD_set_ne false (by omega)];exact hm k hk,hx⟩⟩
    exact⟨λhw=>Oper.wp_mono up (st1.1 hw),λhw=>up _ _ (st1.2 hw)⟩
   ·have hop:pre[j]?=some o:=by rw[←hpg j hjm];exact hoL
    have hjml:j ∉ ml:=by
     rcases k3 j (by omega)with h|h
     ·rw[hjf]at h;cases h
     ·exact h.2
    obtain⟨t,d,y1,y2,y3,y5,y6⟩:=lateOf (by omega) j o hop hjml
    have hg:=(L03 y1).1
    refine⟨λ_=>?_,λhw=>by unfold Region.wanted at hw;rw[hg]at hw;cases hw⟩
    unfold Oper.wp
    rw[X0d y1 (lt j o t d hop hjf y1 y2) w]
    refine⟨hcl',.inr ⟨k,as,k1,k2,λi hi=>?_,λi hi=>?_,hr,⟨by rw[y2];simp[Act.put,lk.1],by rw[y2];exact lk.2.1,λu hu=>?_⟩,λi o' t' d' q1 q2 q3 q4=>?_⟩⟩
    ·rcases k3 i hi with h|h
     ·exact .inl (getD_set_true h)
     ·exact .inr h
    ·rw[getD_set_ne false (by omega)];exact k4 i hi
    ·rw[y2,M03]
     by_cases e:d=u
     ·subst e
      by_cases hlt:d<a.tmps.size
      ·rw[if_pos ⟨rfl,hlt⟩]
      ·rw[if_neg λh=>hlt h.2]
       have e1:∀(x:Act),¬ d<x.tmps.size->x.tmps.getD d undef=undef:=λx hx=>by
        simp[Array.getElem?_eq_none (Nat.le_of_not_lt hx)]
       rw[e1 a hlt,e1 as (by rw[lk.1];exact hlt)]
     ·rw[if_neg λh=>e h.1]
      refine lk.2.2 u λ⟨i,o',q1,q2,q3⟩=>?_
      by_cases e2:j=i
      ·subst e2
       rw[hop]at q1;cases q1
       rw[y2]at q3;cases q3
       exact e rfl
      ·exact hu ⟨i,o',q1,by rw[getD_set_ne false e2];exact q2,q3⟩
    ·have e2:j≠i:=λe2=>by subst e2;simp[hjs]at q2
     rw[getD_set_ne false e2]at q2
     have hi':=(List.getElem?_eq_some_iff.1 q1).1
     have himl:i ∉ ml:=by
      rcases k3 i (by omega)with h|h
      ·rw[q2]at h;cases h
      ·exact h.2
     obtain⟨t2,d2,x1,x2,x3,x5,x6⟩:=lateOf (by omega) i o' q1 himl
     rw[q3]at x1;cases x1
     rw[←lt i o' t' d' q1 q2 q3 q4]
     refine M07 q3 λx hx=>?_
     rw[y2,M03,if_neg λh=>?_]
     have:=I05 (x5 x hx).2 j o hop (by rw[y2,h.1])
     rw[Nat.zero_add]at this
     exact hjml this
  ·have hg:o.guard=none:=sq1 o (List.mem_of_getElem? (i:=j-m) (by rw[hdg];rw[show m+(j-m)=j by omega];exact hoL))
   have prev:m<j->listed.getD (j-1) false=true:=λhlt=>by
    have:=sq2 (j-m-1) o (by rw[hdg];rw[show m+(j-m-1+1)=j by omega];exact hoL)
    obtain⟨e,he1,he2,he3⟩:=P6 this
    have:=hrd e he1 he2
    rw[he3,show m+(j-m-1)=j-1 by omega]at this
    exact this
   refine⟨λ_=>?_,λhw=>by unfold Region.wanted at hw;rw[hg]at hw;cases hw⟩
   have hmt:o∈ops.toList.drop m:=List.mem_of_getElem? (i:=j-m) (by rw[hdg,show m+(j-m)=j by omega];exact hoL)
   have go:∀ as,(∀ i,i<j->listed.getD i false=true∨(i<m/\i ∉ ml))->(∀ i,j<=i->listed.getD i false=false)->Rest j as w->Y0d as a (Dl listed)->Lat listed as a->o.wp P a w (Inv (listed.setIfInBounds j true)) Q:=λas q1 q2 hr lk lt=>by
    have hjD:∀ u,Dl (listed.setIfInBounds j true) u↔Dl listed u:=λu=>by
     constructor
     ·rintro⟨i,o',p1,p2,p3⟩
      have:=(List.getElem?_eq_some_iff.1 p1).1
      rw[getD_set_ne false (by omega)]at p2
      exact⟨i,o',p1,p2,p3⟩
     ·rintro⟨i,o',p1,p2,p3⟩
      have:=(List.getElem?_eq_some_iff.1 p1).1
      exact⟨i,o',p1,by rw[getD_set_ne false (by omega)];exact p2,p3⟩
    have lateU:∀(i:Nat) (o':Oper),pre[i]?=some o'->listed.getD i false=false->i ∉ ml:=λi o' p1 p2=>by
     have:=(List.getElem?_eq_some_iff.1 p1).1
     rcases q1 i (by omega)with h|h
     ·rw[p2]at h;cases h
     ·exact h.2
    refine Oper.wp_mono (λa' w' hx=>?_) (Y0q (Q:=Q) lk (W0d (noselT (by omega)) o hmt) (λu hu ⟨i,o',p1,p2,p3⟩=>?_) (tail (Q:=λ_ _ _=>False) ho hr))
    ·obtain⟨as',hr',lk',⟨v1,hv1⟩,v2,hv2⟩:=hx
     have e1:∀ u,o.dst≠some u->as'.tmps.getD u undef=as.tmps.getD u undef:=λu hu=>by
      cases hd:o.dst with
      |none =>
       rw[hd]at hv1
       rcases hv1 with h|⟨x,h⟩<;>rw[h]<;>rfl
      |some d =>
       rw[hd]at hv1 hu
       rcases hv1 with h|⟨x,h⟩<;>rw[h,M03,if_neg λh=>hu (by rw[h.1])]
     have e2:∀ u,o.dst≠some u->a'.tmps.getD u undef=a.tmps.getD u undef:=λu hu=>by
      cases hd:o.dst with
      |none =>
       rw[hd]at hv2
       rcases hv2 with h|⟨x,h⟩<;>rw[h]<;>rfl
      |some d =>
       rw[hd]at hv2 hu
       rcases hv2 with h|⟨x,h⟩<;>rw[h,M03,if_neg λh=>hu (by rw[h.1])]
     refine⟨hcl',.inr ⟨j+1,as',by omega,by omega,λi hi=>?_,λi hi=>?_,hr',⟨lk'.1,lk'.2.1,λu hu=>lk'.2.2 u λh=>hu ((hjD u).2 h)⟩,λi o' t d p1 p2 p3 p4=>?_⟩⟩
     ·by_cases e:j=i
      ·subst e;left;simp[hjs]
      ·rw[getD_set_ne false e];exact q1 i (by omega)
     ·rw[getD_set_ne false (by omega)];exact q2 i (by omega)
     ·have hi':=(List.getElem?_eq_some_iff.1 p1).1
      rw[getD_set_ne false (by omega)]at p2
      obtain⟨t2,d2,x1,x2,x3,x5,x6⟩:=lateOf (by omega) i o' p1 (lateU i o' p1 p2)
      rw[p3]at x1;cases x1
      rw[p4]at x2;cases x2
      rw[e1 d (p09 x3 o hmt),M07 p3 λx hx=>e2 x (p09 (x5 x hx).1 o hmt)]
      exact lt i o' t d p1 p2 p3 p4
    ·obtain⟨t2,d2,x1,x2,x3,x5,x6⟩:=lateOf (by omega) i o' p1 (lateU i o' p1 p2)
     rw[p3]at x2;cases x2
     obtain⟨e,he1,he2,he3⟩:=P6 (a09 x6 o hmt hu)
     have:=hrd e he1 he2
     rw[he3,p2]at this;cases this
   rcases hi with⟨hm,hA⟩|⟨k,as,k1,k2,k3,k4,hr,lk,lt⟩
   ·have hjm':j=m:=by
     rcases Nat.lt_or_ge m j with h|h
     ·have:=prev h
      rw[hm (j-1) (by omega)]at this;cases this
     ·omega
    subst hjm'
    have hml:∀ i,i<j->i∈ml->listed.getD i false=true:=λi hi hmi=>by
     have:=o09 (G:=λi=>i=j∨listed.getD i false=true) (ops:=ops.toList) (λi' j' o' hG ho' he'=>?_) j [j] (λx hx => .inl (by simpa using hx)) i hmi
     ·rcases this with h|h
      ·omega
      ·exact h
     ·obtain⟨e,he1,he2,he3⟩:=P6 he'
      rw[←he3]
      right
      rcases hG with rfl|hG
      ·rw[hoL]at ho';cases ho'
       exact hrd e he1 he2
      ·exact hcl j' o' (by simpa using ho') hG e he1 he2
    obtain⟨l2,as,z1,z2,z3,z4,z5,z6⟩:=virt hjlt (by assumption) hml hA pre.length (Nat.le_refl _)
    refine go as (λi hi=>?_) hm (allpre (λi hi=>z2 i hi) z4) ⟨z5.1,z5.2.1,λu hu=>z5.2.2 u λ⟨i,o',p1,p2⟩=>hu ⟨i,o',p2⟩⟩ (λi o' t d p1 p2 p3 p4=>z6 i o' t d (List.getElem?_eq_some_iff.1 p1).1 p1 p2 p3 p4)
    by_cases h:i∈ml
    ·exact .inl (hml i hi h)
    ·exact .inr ⟨hi,h⟩
   ·have hjk:j=k:=by
     have h1:k<=j:=by
      rcases Nat.lt_or_ge j k with h|h
      ·rcases k3 j h with h2|h2
       ·rw[hjf]at h2;cases h2
       ·omega
      ·exact h
     rcases Nat.lt_or_ge k j with h|h
     ·have:=prev (by omega)
      rw[k4 (j-1) (by omega)]at this;cases this
     ·omega
    subst hjk
    exact go as k3 k4 hr lk lt
end
section
variable {P:Program} {h0:Hp} {w0:World} {Q:Exit->Act->World->Prop} {ops:Array Oper} {K:RS->Prop}
theorem j0j{be:Nat->Nat}{oe:Nat->Value}{H:Hp}{rs:RS}{a:Act}{w:World}{o:Oper}{i:Nat}{f:RS->Prop}(s:Sim P h0 w0 be oe H rs.st rs.h a w)(r:I07 ops be oe rs a i)(m:ops[i]?=some o)
  {ch:List (Nat×Bool)} {c:Bool} (j:W9 rs.bs o.guard=some ch) (d:cB rs.bs ch=some c) (k:evG P o ch c rs λav=>z0d o.dst i ch av rs f) :
  ∃ v b,f b/\I07 ops be oe b (a.put o.dst v) (i+1)/\Sim P h0 w0 be oe H b.st b.h (a.put o.dst v) w/\Region.wanted o (yielded ops a.tmps)=c /\
   (c=true->∀ g,CW H w g->o.quietAt P a (CW H w) g v)/\(c=false->v=undef):=by
 obtain⟨av,l,n⟩:=s0n s r d k
 have p:=r0n r j d
 cases c with
 |true =>
  grind[M04]
 |false =>
  obtain⟨b,q,_,t,u⟩:=M04 (v:=undef) s r m d (λh=>by cases h) (λ_=>rfl) l
  grind
theorem q05(d:∀ rs a w be oe H,K rs->Sim P h0 w0 be oe H rs.st rs.h a w->Q .normal a w):∀(l:List Oper) (i:Nat) (rs:RS) (a:Act) (w:World) (be:Nat->Nat) (oe:Nat->Value) (H:Hp),
  (∀ j,l[j]?=ops[i+j]?)->Sim P h0 w0 be oe H rs.st rs.h a w->I07 ops be oe rs a i->o0c P l i rs K->wpList P ops Q l a w
 | [],i,rs,a,w,be,oe,H,_,s,_,b=>d rs a w be oe H b s
 |o::l,i,rs,a,w,be,oe,H,y,s,r,b=>by
  have z:ops[i]?=some o:=by simpa using (y 0).symm
  have q:∀ j,l[j]?=ops[i+1+j]?:=λj=>by have:=y (j+1);grind
  have gen:∀ ch c,W9 rs.bs o.guard=some ch->cB rs.bs ch=some c->(evG P o ch c rs λav=>z0d o.dst i ch av rs λrs=>o0c P l (i+1) rs K)->wpList P ops Q (o::l) a w:=by
   intro ch c I G b
   obtain⟨v,n,f,A,k,u,M,t⟩:=j0j s r z I G b
   unfold wpList
   rw[u]
   cases c with
   |false =>
    rw[if_neg (by simp),←t rfl]
    exact q05 d l (i+1) n _ w be oe H q k A f
   |true =>
    rw[if_pos rfl]
    refine .inl (Oper.wp_of_quiet (C:=CW H w) (K:=λp=>p=a.put o.dst v) (T2.refl s.mv.vis) (λp x m e=>?_) ⟨v,M rfl,rfl⟩)
    subst e
    exact q05 d l (i+1) n _ x be oe H q (k.still (hf:=H) (λ_ _ h=>h) m) A f
  simp only[o0c]at b
  split at b
  ·rename_i J R
   have u:Region.wanted o (yielded ops a.tmps)=true:=by unfold Region.wanted;rw[J]
   unfold wpList
   rw[if_pos u]
   refine .inl (Oper.wp_mono (λp x t=>?_) (J9 (Q:=Q) s b))
   obtain⟨av,st',F,v,be',oe',D,L,rfl,O,g,E⟩:=t
   obtain⟨n,f,_,k,N⟩:=M04 (rs := { rs with st:=st',h:=F }) (ch:=[]) (c:=true) (v:=v) O (r.grow E) z rfl (λ_=>g) (λh=>by cases h) L
   exact q05 d l (i+1) n _ x be' oe' D q N k f
  grind
theorem f0g{be:Nat->Nat}{oe:Nat->Value}{H:Hp}{w:World}(f:∀ rs a w be oe H,K rs->Sim P h0 w0 be oe H rs.st rs.h a w->Q .normal a w):∀(l:List Oper) (i:Nat) (rs:RS) (a:Act),
  (∀ j,l[j]?=ops[i+j]?)->Sim P h0 w0 be oe H rs.st rs.h a w->I07 ops be oe rs a i->evQ P l i rs K->wpQuiet P ops (CW H w) (λk=>∀ d,CW H w d->Q .normal k d) l a
 | [],i,rs,a,_,s,_,b=>λd m=>f rs a d be oe H b (s.still (hf:=H) (λ_ _ h=>h) m)
 |o::l,i,rs,a,g,s,r,b=>by
  have t:ops[i]?=some o:=by simpa using (g 0).symm
  have q:∀ j,l[j]?=ops[i+1+j]?:=λj=>by have:=g (j+1);grind
  simp only[evQ]at b
  split at b
  ·rename_i ch p
   split at b
   ·rename_i c n
    obtain⟨v,D,z,A,C,x,u,E⟩:=j0j s r t p n b
    have y:=f0g f l (i+1) D _ q C A z
    unfold wpQuiet
    rw[x]
    cases c with
    |false=>grind
    |true=>rw[if_pos rfl];exact⟨v,u rfl,y⟩
   ·exact b.elim
  ·exact b.elim
theorem I07.init{be:Nat->Nat}{oe:Nat->Value}{st:St}{h:Hp}{a:Act}:I07 ops be oe ⟨st,h,[],[]⟩ a 0 :=
 ⟨(λx b=>nomatch b),(λx b=>nomatch b),(λd ch av c=>nomatch c)⟩
def H0h(P:Program)(h0:Hp)(w0:World)(Q:Ex->St->Hp->Prop):Exit->Act->World->Prop
 | .normal,a,w=>∃ st h be oe H,Q .normal st h/\Sim P h0 w0 be oe H st h a w
 | .exit i,a,w=>∃ st h be oe H,Q (.exit i) st h/\Sim P h0 w0 be oe H st h a w
 | .ret,a,w=>∃ st h be oe H,Q .ret st h/\Sim P h0 w0 be oe H st h a w
 |_,_,_=>False
variable {be:Nat->Nat} {oe:Nat->Value} {H:Hp} {st:St} {h:Hp} {a:Act} {w:World}
theorem I0h{Q:Ex->St->Hp->Prop}{id:Nat}{d:Bool}(s:Sim P h0 w0 be oe H st h a w)(b:ev P (.region id ops d) Q st h):(Code.region id ops d).wp P (H0h P h0 w0 Q) a w:=by
 cases d with
 |false =>
  simp only[ev]at b
  split at b
  ·exact wp_region_list ((c0j (h0:=h0) (w0:=w0) b.1 b.2 λa w st h be oe H f s=>⟨st,h,be,oe,H,f,s⟩).2 s)
  ·exact wp_region_list (q05 (K:=λrs=>Q .normal rs.st rs.h) (λrs a w be oe H f s=>⟨rs.st,rs.h,be,oe,H,f,s⟩) _ 0 ⟨st,h,[],[]⟩ a w be oe H (λj=>by simp) s I07.init b)
 |true =>
  rcases b with⟨⟨n,l⟩,b⟩|b|b|⟨⟨n,l⟩,b⟩|⟨m,⟨n,l⟩,b⟩
  ·refine wp_region_quiet (C:=CW H w) n l (T2.drawn s.mv.vis _ (by grind)) ?_
   exact f0g (K:=λrs=>Q .normal rs.st rs.h) (λrs a w be oe H f s=>⟨rs.st,rs.h,be,oe,H,f,s⟩) _ 0 ⟨st,h,[],[]⟩ a (λj=>by simp) s I07.init b
  ·exact b.elim
  ·split at b
   ·obtain⟨⟨n,l⟩,b⟩:=b
    exact wp_region_any n (v0n (s.still (hf:=H) (λ_ _ h=>h) (T2.drawn s.mv.vis _ (by grind))) l b λa w st h be oe H f s=>⟨st,h,be,oe,H,f,s⟩)
   ·rename_i o L
    obtain⟨⟨n,l⟩,b⟩:=b
    simp only[Bool.and_eq_true]at l
    obtain⟨A,I,E⟩:=x0n L
    have q:=s.still (hf:=H) (λ_ _ h=>h) (T2.drawn s.mv.vis (w.drawn+1) (by grind))
    obtain⟨Inv,t,u,x,p⟩:=Y0i (ops:=(W00 ops.toList).toArray) (Q:=H0h P h0 w0 Q) (R:=λa w=>o.wp P a w (λa w=>H0h P h0 w0 Q .normal a w) (H0h P h0 w0 Q)) q (by simpa using l.1) (by simpa using b) λa w st h be oe H f s=>by
     refine Oper.wp_mono (λM O J=>?_) (J9 (Q:=H0h P h0 w0 Q) s f)
     obtain⟨av,st',D,v,be',oe',z,f,rfl,q,g,N⟩:=J
     obtain⟨y,t,u,x,p⟩:=M04 (ops := #[o]) (i:=0) (rs:=⟨st',D,[],[]⟩) (ch:=[]) (c:=true) (v:=v) q I07.init (by rfl) rfl (λ_=>g) (λh=>by cases h) f
     exact⟨y.st,y.h,be',oe',z,t,p⟩
    exact wp_region_any n (f0t (ops0:=(W00 ops.toList).toArray) (o:=o) (Inv:=Inv) (by simpa using A) (λk o f e G F=>by
     have:=s03 l.2 k o f e G F
     omega) I (λk f=>Z08 E k (by simpa using f) (by simp at f;omega)) u x p)
  ·exact wp_region_any n ((c0j (h0:=h0) (w0:=w0) l b λa w st h be oe H f s=>⟨st,h,be,oe,H,f,s⟩).1 (s.still (hf:=H) (λ_ _ h=>h) (T2.drawn s.mv.vis _ (by grind))))
  ·exact wp_region_any n (z0n l b (λa w st h be oe H f s=>⟨st,h,be,oe,H,f,s⟩) (s.still (hf:=H) (λ_ _ h=>h) (T2.drawn s.mv.vis _ (by grind))))
end
theorem N03(x:Nat):∀ l:List Nat,F08 x l=true↔x∈l
 | []=>by simp[F08]
 |y::r=>by
  simp only[F08]
  cases h:Nat.beq x y with
  |true=>simp_all
  |false=>simp[N03 x r,Nat.ne_of_beq_eq_false h]
theorem J06{x:Nat}{l:List Nat}(h:F08 x l=false):x ∉ l:=λa=>by grind[N03]
theorem g0g:∀(l:List Nat) (K:List Nat->Prop),p0b l K=K l
 | [],K=>rfl
 |x::r,K=>by simp only[p0b,g0g r]
theorem r0a:∀(n:Nat) {K:List Value->Prop},a0a n K->∀ vs:List Value,vs.length=n->K vs
 |0,K,h,vs,a=>by rw[List.length_eq_zero_iff.1 a];exact h
 |n+1,K,h,[],a=>by cases a
 |n+1,K,h,v::vs,a=>r0a n (h v) vs (by simpa using a)
theorem s0a:∀(n:Nat) {K:List (List (List Value))->Prop},b0a n K->∀ os:List (List (List Value)),os.length=n->K os
 |0,K,h,vs,a=>by rw[List.length_eq_zero_iff.1 a];exact h
 |n+1,K,h,[],a=>by cases a
 |n+1,K,h,v::vs,a=>s0a n (h v) vs (by simpa using a)
theorem q09{c:Type}:∀(a b:List c) (K:List c->List c->Prop),B07 a.length (a++b) K=K a b
 | [],b,K=>rfl
 |x::a,b,K=>by simp only[List.length_cons,List.cons_append,B07,q09 a b]
theorem C0b(e:St):∀(l:List Nat) {K:List Value->Prop},L0q l e K->∃ vs,vs.length=l.length/\K vs /\
  ∀ acc t,(j3 (q0b l vs acc) t=j3 acc t/\t ∉ l)∨(∃ v,j3 (q0b l vs acc) t = .val v/\rdA e (j3 e.fr t) = .val v)
 | [],K,h=>⟨[],rfl,h,λacc t => .inl ⟨rfl,by simp⟩⟩
 |s::r,K,h=>by
  simp only[L0q]at h
  split at h
  ·rename_i v hv
   obtain⟨vs,b,c,d⟩:=C0b e r h
   refine⟨v::vs,by simp[b],c,λacc t=>?_⟩
   rcases d ((s,.val v)::acc) t with⟨a,f⟩|a
   ·by_cases e':s=t
    ·simp_all[q0b,U3,if_true]
    simp_all[q0b,U3,if_neg,Ne.symm]
   ·exact .inr a
  ·exact h.elim
def R04(B:Nat->Nat->Prop):List A5->Prop
 | []=>True
 | .val _::r=>R04 B r
 | .own i k::r=>B i k/\R04 B r
def ShC(e:St):List A5->List A5->Prop
 | [],[]=>True
 | .val _::r,.val _::a=>ShC e r a
 | .own i _::r,.own j c::a=>i=j/\(∃ b,rdA e (.own j c) = .own j b)/\ShC e r a
 |_,_=>False
def EqC(e:St):List A5->List A5->Prop
 | [],[]=>True
 | .val v::r,.val d::a=>v=d/\EqC e r a
 | .own i _::r,.own j c::a=>i=j/\(∃ b,rdA e (.own j c) = .own j b)/\EqC e r a
 |_,_=>False
theorem EqC.sh{e:St}:∀ {cs cs':List A5},EqC e cs cs'->ShC e cs cs'
 | [],[],_=>trivial
 | .val _::r,.val _::a,h=>EqC.sh (cs:=r) (cs':=a) h.2
 | .own i _::r,.own j b::a,h=>⟨h.1,h.2.1,EqC.sh (cs:=r) (cs':=a) h.2.2⟩
 | [],_::_,h=>h.elim
 | .val _::_,[],h=>h.elim
 | .own _ _::_,[],h=>h.elim
 | .val _::_,.own _ _::_,h=>h.elim
 | .own _ _::_,.val _::_,h=>h.elim
theorem t0a{e:St}{i k a b:Nat}(h:rdA e (.own i k) = .own a b):a=i/\b=k:=by
 grind[rdA]
theorem K06{g e:St}:∀(cs cs':List A5),W05 g e cs cs'=true->ShC e cs cs'
 | [],[],_=>trivial
 | .val _::r,.val _::c,h=>K06 r c h
 | .own i _::r,.own j k::c,h=>by
  simp only[W05]at h
  split at h
  ·rename_i a b f d
   obtain⟨rfl,_⟩:=t0a d
   exact⟨Nat.eq_of_beq_eq_true f,⟨_,d⟩,K06 r c h⟩
  ·cases h
 | [],_::_,h=>by cases h
 | .val _::_,[],h=>by cases h
 | .own _ _::_,[],h=>by cases h
 | .val _::_,.own _ _::_,h=>by cases h
 | .own _ _::_,.val _::_,h=>by cases h
theorem D0b(e:St):∀(cs cs':List A5),ShC e cs cs'->∀ {K:List Value->Prop},J0i cs' e K->∃ vs,K vs/\∃ a,(∀(f:List Value) (c:List A5->List Value->Prop),D03 cs (vs++f) c=c a f)/\EqC e a cs' /\
  (∀ B,R04 B cs->R04 B a)
 | [],[],_,K,h=>⟨[],h,[],λ_ _=>rfl,trivial,λ_ h=>h⟩
 | .val _::r,.val v::n,b,K,h=>by
  obtain⟨vs,g,a,o,l,m⟩:=D0b e r n b (K:=λvs=>K (v::vs)) h
  exact⟨v::vs,g,.val v::a,λf c=>by grind[D03],⟨rfl,l⟩,λB d=>m B d⟩
 | .own i k::r,.own j p::n,b,K,h=>by
  obtain⟨vs,g,a,o,l,m⟩:=D0b e r n b.2.2 (K:=K) h
  exact⟨vs,g,.own i k::a,λf c=>by simp only[D03,o],⟨b.1,b.2.1,l⟩,λB d=>⟨d.1,m B d.2⟩⟩
 | [],_::_,h,_,_=>h.elim
 | .val _::_,[],h,_,_=>h.elim
 | .own _ _::_,[],h,_,_=>h.elim
 | .val _::_,.own _ _::_,h,_,_=>h.elim
 | .own _ _::_,.val _::_,h,_,_=>h.elim
theorem E0b(e:St):∀(cs:List A5) {K:List Value->Prop},J0i cs e K->∃ vs,K vs/\∀(b:List Value) (a:List A5->List Value->Prop),D03 cs (vs++b) a=a cs b
 | [],K,h=>⟨[],h,λ_ _=>rfl⟩
 | .val v::r,K,h=>by
  obtain⟨vs,c,d⟩:=E0b e r (K:=λvs=>K (v::vs)) h
  grind[D03]
 | .own i k::r,K,h=>by
  obtain⟨vs,c,d⟩:=E0b e r (K:=K) h
  grind[D03]
theorem i0g{a:Type}(l:List a)(i:Nat)(x:a)(h:nth l i=some x):w00 l i x=l:=by
 grind[G04,List.getElem?_eq_some_iff,d0a,List.set_getElem_self]
theorem b0m(e:St):∀(is:List Nat) {K:List Value->Prop},G0d is e K->∃ a,K a/\∀ b,T05 is a e.bx b=b e.bx
 | [],K,h=>⟨[],h,λ_=>rfl⟩
 |i::r,K,h=>by
  simp only[G0d]at h
  split at h
  ·rename_i cs ty j
   obtain⟨vs,c,d⟩:=E0b e cs h
   obtain⟨a,f,g⟩:=b0m e r c
   grind[T05,i0g]
  ·exact h.elim
theorem c0m(e:St):∀(is:List Nat) {K:List (List (List Value))->Prop},R0f is e K->∃ os,os.length=is.length/\K os/\∀ a,U05 is os e.ow a=a e.ow
 | [],K,h=>⟨[],rfl,h,λ_=>rfl⟩
 |i::r,K,h=>by
  simp only[R0f]at h
  split at h
  ·rename_i s ty sz by_ nn xs f
   obtain⟨g,b,c,d⟩:=c0m e r h
   grind[U05,i0g]
  ·exact h.elim
theorem d0m(e:St):∀(is:List Nat) (bx:List BSt),(∀ i∈is,∃ cs ty cs',nth bx i=some (.live cs ty)/\nth e.bx i=some (.live cs' ty)/\ShC e cs cs')->∀ {K:List Value->Prop},G0d is e K ->
  ∃ d,K d/\∃ b,(∀ f,T05 is d bx f=f b)/\b.length=bx.length/\(∀ i,i ∉ is->nth b i=nth bx i) /\
   (∀ i∈is,∃ c ty cs',nth b i=some (.live c ty)/\nth e.bx i=some (.live cs' ty)/\EqC e c cs') /\
   (∀ B,(∀ i cs ty,nth bx i=some (.live cs ty)->R04 B cs)->(∀ i cs ty,nth b i=some (.live cs ty)->R04 B cs))
 | [],bx,_,K,h=>⟨[],h,bx,λ_=>rfl,rfl,λ_ _=>rfl,by simp,λ_ h=>h⟩
 |i::r,bx,t,K,h=>by
  obtain⟨cs,ty,cs',q,g,s⟩:=t i mS
  simp only[G0d,g]at h
  obtain⟨vs,v,c,D,n,E⟩:=D0b e cs cs' s h
  have k:=I01 q
  have u:∀ j∈r,∃ l p m,nth (w00 bx i (.live c ty)) j=some (.live l p)/\nth e.bx j=some (.live m p)/\ShC e l m:=λj a=>by
   rw[r7 _ _ _ k]
   by_cases ej:j=i
   ·subst ej
    rw[if_pos rfl]
    exact⟨c,ty,cs',rfl,g,n.sh⟩
   grind
  obtain⟨d,w,b,F,x,o,y,z⟩:=d0m e r _ u v
  refine⟨vs++d,w,b,λf=>by grind[T05],by rw[x,h05],λj a=>?_,λj a=>?_,λB C=>z B λj A G a=>?_⟩
  ·simp only[List.mem_cons,not_or]at a
   rw[o j a.2,r7 _ _ _ k,if_neg a.1]
  ·by_cases hr:j∈r
   ·exact y j hr
   ·rcases List.mem_cons.1 a with rfl|a
    ·refine⟨c,ty,cs',?_,g,n⟩
     rw[o j hr,r7 _ _ _ k,if_pos rfl]
    ·exact absurd a hr
  grind[r7]
theorem e0m(f:St):∀(is:List Nat) (ow:List Own),(∀ i∈is,∃ s e sz by_ nn g c a xs,nth ow i=some ⟨s,.live e sz by_ nn g⟩/\nth f.ow i=some ⟨c,.live e sz by_ a xs⟩/\(nn=true->a=true)) ->
  ∀ {K:List (List (List Value))->Prop},R0f is f K->∃ os,os.length=is.length/\K os/\∃ d,(∀ k,U05 is os ow k=k d)/\(∀ i,i ∉ is->nth d i=nth ow i) /\
   (∀ i∈is,∃ s e sz by_ nn c a xs,nth d i=some ⟨s,.live e sz by_ nn xs⟩/\nth f.ow i=some ⟨c,.live e sz by_ a xs⟩/\(nn=true->a=true)) /\
   (∀ i,(nth d i).map (·.stamp)=(nth ow i).map (·.stamp))
 | [],ow,_,K,h=>⟨[],rfl,h,ow,λ_=>rfl,λ_ _=>rfl,by simp,λ_=>rfl⟩
 |i::r,ow,w,K,h=>by
  obtain⟨s,e,sz,by_,nn,g,c,a,xs,o,p,v⟩:=w i mS
  simp only[R0f,p]at h
  have l:=I01 o
  have x:∀ j∈r,∃ D n u m t g c a E,nth (w00 ow i ⟨s,.live e sz by_ nn xs⟩) j=some ⟨D,.live n u m t g⟩/\nth f.ow j=some ⟨c,.live n u m a E⟩/\(t=true->a=true):=λj b=>by
   rw[r7 _ _ _ l]
   grind
  obtain⟨os,y,z,d,A,q,C,F⟩:=e0m f r _ x h
  refine⟨xs::os,by simp[y],z,d,λk=>by simp only[U05,o,A],λj b=>?_,λj b=>?_,λj=>?_⟩
  ·simp only[List.mem_cons,not_or]at b
   rw[q j b.2,r7 _ _ _ l,if_neg b.1]
  ·by_cases hr:j∈r
   ·exact C j hr
   ·rcases List.mem_cons.1 b with rfl|b
    ·refine⟨s,e,sz,by_,nn,c,a,xs,?_,p,v⟩
     rw[q j hr,r7 _ _ _ l,if_pos rfl]
    ·exact absurd b hr
  grind[r7]
theorem N07{A:Ann}{m e:St}:∀(i:Nat) (bx c:List BSt),r0b A m e i bx c->∀ k b,nth bx k=some b ->
  (i+k∈A.boxes/\∃ cs ty cs',b = .live cs ty/\nth c k=some (.live cs' ty)/\ShC e cs cs')∨(i+k ∉ A.boxes/\nth c k=some b/\R0k A.owns b=true)
 |i,[],_,_,k,b,a=>by cases k<;>cases a
 |i,x::r,[],h,_,_,_=>by cases h
 |i,x::r,o::f,h,k,b,a=>by
  simp only[r0b]at h
  split at h
  ·rename_i d
   split at h
   ·rename_i cs ty cs' n
    split at h
    ·rename_i g j
     have:=Nat.eq_of_beq_eq_true g
     subst this
     cases k with
     |zero=>cases a;exact .inl ⟨(N03 _ _).1 d,cs,ty,cs',rfl,rfl,K06 _ _ j⟩
     |succ k=>have:=N07 (i+1) r f h k b a;rwa [show i+1+k=i+(k+1) from by omega]at this
    ·exact h.elim
   ·exact h.elim
  ·rename_i d
   split at h
   ·rename_i l
    obtain⟨rfl,h⟩:=h
    cases k with
    |zero=>cases a;exact .inr ⟨J06 d,rfl,l⟩
    |succ k=>have:=N07 (i+1) r f h k b a;rwa [show i+1+k=i+(k+1) from by omega]at this
   ·exact h.elim
theorem O07{A:Ann}:∀(i:Nat) (ow f:List Own),s0b A i ow f->∀ k b,nth ow k=some b ->
  (i+k∈A.owns/\∃ s e sz by_ nn m g d xs,b=⟨s,.live e sz by_ nn m⟩/\nth f k=some ⟨g,.live e sz by_ d xs⟩/\(nn=true->d=true)/\(i+k∈A.kept->s=g))∨(i+k ∉ A.owns/\nth f k=some b)
 |i,[],_,_,k,b,a=>by cases k<;>cases a
 |i,x::r,[],h,_,_,_=>by cases h
 |i,x::r,w::l,h,k,b,a=>by
  simp only[s0b]at h
  split at h
  ·rename_i c
   split at h
   ·rename_i s e sz by_ nn m g u v t d xs
    split at h
    ·rename_i n o p q j
     have:=Nat.eq_of_beq_eq_true n
     subst this
     have:=Nat.eq_of_beq_eq_true o
     subst this
     have:=Nat.eq_of_beq_eq_true p
     subst this
     cases k with
     |zero=>cases a;exact .inl ⟨(N03 _ _).1 c,_,_,_,_,_,_,_,_,_,rfl,rfl,(λh=>by subst h;exact q),λh=>by rw[show F08 i A.kept=true from(N03 _ _).2 h]at j;exact Nat.eq_of_beq_eq_true j⟩
     |succ k=>have:=O07 (i+1) r l h k b a;rwa [show i+1+k=i+(k+1) from by omega]at this
    ·exact h.elim
   ·exact h.elim
  ·rename_i c
   obtain⟨rfl,h⟩:=h
   cases k with
   |zero=>cases a;exact .inr ⟨J06 c,rfl⟩
   |succ k=>have:=O07 (i+1) r l h k b a;rwa [show i+1+k=i+(k+1) from by omega]at this
def u0a(A:Ann)(st:St):AV->Prop
 | .val _ | .hel _ _ _ _ | .dead=>True
 | .agg cs=>T0l cs=true
 | .box i _=>i<st.bx.length
 | .own i k=>(i ∉ A.owns∨i∈A.kept)/\stamp st i=some k
 | .oel _ _ _ _ _=>False
theorem f0m{st:St}{av:AV}{i off:Nat}(h:rdA st av = .box i off):i<st.bx.length:=by
 cases av with
 |box j o =>
  simp only[rdA]at h
  split at h
  all_goals simp_all[I01]
 |own j k =>
  grind[rdA]
 |oel j s idx sz k =>
  grind[rdA]
 |_=>cases h
theorem F0b{st:St}{av:AV}{i k:Nat}(h:rdA st av = .own i k):stamp st i=some k:=by
 grind[y06,stamp]
theorem r09(A:Ann)(ds:List Nat)(st:St):∀(l:List (Nat×AV)) {K:List (Nat×AV)->Prop},V05 A ds st l K->∃ a,K a/\∀ t,t ∉ ds ->
  j3 a t = .dead∨(j3 a t=rdA st (j3 l t)/\u0a A st (j3 a t))
 | [],K,h=>⟨[],h,λt _ => .inl rfl⟩
 |(s,av)::r,K,h=>by
  have put:∀ f,(f = .dead∨(f=rdA st av/\u0a A st f))->(V05 A (s::ds) st r λl=>K ((s,f)::l))->∃ a,K a/\∀ t,t ∉ ds ->
    j3 a t = .dead∨(j3 a t=rdA st (j3 ((s,av)::r) t)/\u0a A st (j3 a t)):=by
   intro f p h
   obtain⟨a,c,d⟩:=r09 A (s::ds) st r h
   refine⟨_,c,λt j=>?_⟩
   rw[U3,U3]
   by_cases e:s=t
   ·rw[if_pos e,if_pos e];exact p
   ·rw[if_neg e,if_neg e];exact d t λg=>by
     rcases List.mem_cons.1 g with k|k
     ·exact e k.symm
     ·exact j k
  simp only[V05]at h
  split at h
  ·rename_i g
   obtain⟨a,c,d⟩:=r09 A ds st r h
   refine⟨a,c,λt j=>?_⟩
   rw[U3,if_neg (λe=>j (by rw[←e];exact(N03 _ _).1 g))]
   exact d t j
  ·split at h
   ·rename_i i k b
    split at h
    ·exact put _ (.inl rfl) h
    ·rename_i g
     refine put _ (.inr ⟨b.symm,?_,F0b b⟩) h
     cases c:F08 i A.owns with
     |false=>exact .inl (J06 c)
     |true =>
      cases d:F08 i A.kept with
      |true=>exact .inr ((N03 _ _).1 d)
      |false=>exact absurd d (g c)
   ·exact put _ (.inl rfl) h
   ·rename_i cs b
    split at h
    ·rename_i q
     exact put _ (.inr ⟨b.symm,q⟩) h
    ·exact put _ (.inl rfl) h
   ·rename_i c d n
    refine put _ (.inr ⟨rfl,?_⟩) h
    cases b:rdA st av with
    |own i k=>exact absurd b (c i k)
    |oel i m idx sz k=>exact absurd b (d i m idx sz k)
    |agg cs=>exact absurd b (n cs)
    |box i o=>exact f0m b
    |val v=>trivial
    |hel m idx sz k=>trivial
    |dead=>trivial
def k0j(st:St)(t:Nat)(av:AV):Prop :=
 av = .dead∨(∃ i k,av = .own i k/\stamp st i=some k/\rdA st (j3 st.fr t) = .own i k)∨(∃ i o,av = .box i o/\i<st.bx.length/\rdA st (j3 st.fr t) = .box i o)
theorem s09(A:Ann)(st:St):∀(l:List Nat) (acc:List (Nat×AV)) {K:List (Nat×AV)->Prop},headD A st l acc K->(∀ p∈acc,k0j st p.1 p.2) ->
  ∃ a,K a/\(∀ p∈a,p.1∈l∨p∈acc)/\(∀ p∈a,k0j st p.1 p.2)/\(∀ t∈l,t ∉ A.vars->∃ av,(t,av)∈a)/\(∀ p∈acc,p∈a)
 | [],acc,K,h,f=>⟨acc,h,λp c => .inr c,f,by simp,λ_ h=>h⟩
 |s::r,acc,K,h,f=>by
  have put:∀ d,k0j st s d->headD A st r ((s,d)::acc) K->∃ a,K a/\(∀ p∈a,p.1∈s::r∨p∈acc)/\(∀ p∈a,k0j st p.1 p.2)/\(∀ t∈s::r,t ∉ A.vars->∃ av,(t,av)∈a)/\(∀ p∈acc,p∈a):=by
   intro d u h
   obtain⟨a,g,j,m,q,n⟩:=s09 A st r _ h (λp c=>by
    grind)
   grind
  simp only[headD]at h
  split at h
  ·rename_i v
   obtain⟨a,g,j,m,q,n⟩:=s09 A st r _ h f
   refine⟨a,g,λp c=>(j p c).imp (mC _) id,m,λt w hv=>?_,n⟩
   grind[absurd,N03]
  ·split at h
   ·rename_i i k b
    exact put _ (.inr (.inl ⟨i,k,rfl,F0b b,b⟩)) h
   ·rename_i i o b
    exact put _ (.inr (.inr ⟨i,o,rfl,f0m b,b⟩)) h
   ·exact put _ (.inl rfl) h
theorem a0e:∀(b a:List (Nat×AV)) (t:Nat),(∃ av,(t,av)∈b/\j3 (b++a) t=av)∨((∀ av,(t,av) ∉ b)/\j3 (b++a) t=j3 a t)
 | [],a,t => .inr ⟨by simp,rfl⟩
 |(s,av)::r,a,t=>by
  simp only[List.cons_append]
  rw[U3]
  by_cases e:s=t
  ·grind
  ·rw[if_neg e]
   rcases a0e r a t with⟨f,c,d⟩|⟨c,d⟩
   all_goals grind
theorem b0e{c e:St}:∀(b:List (Nat×AV)),r0c c e b=true->∀ t av,(t,av)∈b->(∀ i k,av = .own i k->∃ a,rdA e (j3 e.fr t) = .own i a)/\(∀ i o,av = .box i o->rdA e (j3 e.fr t) = .box i o)
 | [],_,t,av,h=>by cases h
 |(s,x)::r,f,t,av,h=>by
  have d:r0c c e r=true/\(∀ i k,x = .own i k->∃ a,rdA e (j3 e.fr s) = .own i a)/\(∀ i o,x = .box i o->rdA e (j3 e.fr s) = .box i o):=by
   simp only[r0c]at f
   grind[Nat.eq_of_beq_eq_true,absurd]
  rcases List.mem_cons.1 h with h|h
  ·cases h;exact d.2
  ·exact b0e r d.1 t av h
theorem t09{fr:List (Nat×AV)}:∀(a:List (Nat×AV)),S0f fr a=l0n a->∀ t,j3 a t = .dead∨j3 fr t=j3 a t
 | [],_,t => .inl rfl
 |(s,av)::r,h,t=>by
  rw[U3]
  simp only[S0f,l0n]at h
  cases hd:Q0k av with
  |true =>
   rw[hd]at h
   by_cases e:s=t
   ·rw[if_pos e]
    left
    cases av<;>first|rfl|cases hd
   ·rw[if_neg e]
    exact t09 r h t
  |false =>
   rw[hd]at h
   simp only[List.cons.injEq]at h
   by_cases e:s=t
   ·grind
   ·rw[if_neg e]
    exact t09 r h.2 t
theorem G0b{e f:St}{be:Nat->Nat}{oe:Nat->Value}:∀ {c cs':List A5} {vs:List Value},EqC e c cs'->R04 (λj k=>∃ s,stamp f j=some s/\k<=s) c->Z1 e oe cs' vs->Z1 f oe c vs
 | [],[],[],_,_,_=>trivial
 | .val v::r,.val p::n,x::vs,h,a,g=>⟨by rw[show x=p from g.1,h.1];rfl,G0b (be:=be) h.2 a g.2⟩
 | .own i k::r,.own j q::n,x::vs,h,a,g=>by
  obtain⟨m,⟨b,d⟩,h⟩:=h
  subst m
  obtain⟨⟨s,s1,s2⟩,a⟩:=a
  refine⟨⟨s,s1,s2,λ_=>?_⟩,G0b (be:=be) h a g.2⟩
  obtain⟨_,l⟩:=t0a d
  subst l
  obtain⟨t,o,u,w⟩:=g.1
  rw[F0b d]at o
  grind
 | [],_::_,_,h,_,_=>h.elim
 | .val _::_,[],_,h,_,_=>h.elim
 | .own _ _::_,[],_,h,_,_=>h.elim
 | .val _::_,.own _ _::_,_,h,_,_=>h.elim
 | .own _ _::_,.val _::_,_,h,_,_=>h.elim
 |_,_::_,[],_,_,g=>g.elim
 |_,[],_::_,_,_,g=>g.elim
theorem L06{os:List Nat}{e b:St}{oe:Nat->Value}(c:∀ j,j ∉ os->∀ s,stamp b j=some s->stamp e j=some s):∀ {cs:List A5} {vs:List Value},Z09 os cs=true ->
  R04 (λj k=>∃ s,stamp b j=some s/\k<=s) cs->Z1 e oe cs vs->Z1 b oe cs vs
 | [],[],_,_,_=>trivial
 | .val v::r,x::vs,h,a,g=>⟨g.1,L06 c h a g.2⟩
 | .own i k::r,x::vs,h,a,g=>by
  simp only[Z09]at h
  split at h
  ·cases h
  ·rename_i f
   obtain⟨⟨s,s1,s2⟩,a⟩:=a
   refine⟨⟨s,s1,s2,λd=>?_⟩,L06 c h a g.2⟩
   obtain⟨l,m,n,o⟩:=g.1
   grind[J06]
 | [],_::_,_,_,g=>g.elim
 |_::_,[],_,_,g=>g.elim
section
variable {P:Program} {h0:Hp} {w0:World} {be:Nat->Nat} {oe:Nat->Value} {H:Hp} {h:Hp} {a:Act} {w:World}
theorem Y0o{A:Ann}{e f:St}(s:Sim P h0 w0 be oe H e h a w)(N:e.n=f.n)
  (I:∀ i b,nth f.bx i=some b->(∃ D ty cs',b = .live D ty/\nth e.bx i=some (.live cs' ty)/\EqC e D cs')∨(nth e.bx i=some b/\R0k A.owns b=true))
  (O:∀ i o,nth f.ow i=some o->(∃ s t sz by_ nn C p xs,o=⟨s,.live t sz by_ nn xs⟩/\nth e.ow i=some ⟨C,.live t sz by_ p xs⟩/\(nn=true->p=true))/\i∈A.owns∨(nth e.ow i=some o/\i ∉ A.owns))
  (bd:∀ i cs ty,nth f.bx i=some (.live cs ty)->R04 (λj k=>∃ s,stamp f j=some s/\k<=s) cs)
  (hf:∀ t,A2 f be oe (j3 f.fr t) (a.tmps.getD t undef)):Sim P h0 w0 be oe H f h a w:=by
 have Q:∀ j,j ∉ A.owns->∀ s,stamp f j=some s->stamp e j=some s:=λj q l Z=>by
  grind[stamp,nth,absurd]
 have F:∀ i cs ty,nth f.bx i=some (.live cs ty)->∃ cs',nth e.bx i=some (.live cs' ty):=λi cs ty d=>by
  grind
 have E:∀ i l t sz by_ nn xs,nth f.ow i=some ⟨l,.live t sz by_ nn xs⟩->∃ C p,nth e.ow i=some ⟨C,.live t sz by_ p xs⟩/\(nn=true->p=true):=λi l t sz by_ nn xs d=>by
  grind
 refine⟨s.mv,s.sub,λi cs ty d=>?_,λi b d=>?_,λi l t sz by_ nn xs d=>?_,λi l v d=>?_,λi j cs ty cs' U d q=>?_,λi j l t sz by_ nn xs s1 T S L R W g d q=>?_,λi cs ty j l t sz by_ nn xs d q=>?_,s.dfr,by rw[s.siz,N],hf⟩
 ·rcases I i _ d with⟨D,V,cs',x,c,m⟩|⟨c,m⟩
  ·cases x
   obtain⟨y,vs,z,G⟩:=s.box i cs' ty c
   exact⟨y,vs,G0b (be:=be) m (bd i _ _ d) z,G⟩
  ·obtain⟨y,vs,z,G⟩:=s.box i cs ty c
   exact⟨y,vs,L06 Q m (bd i _ _ d) z,G⟩
 ·rcases I i _ d with⟨D,V,cs',x,c,m⟩|⟨c,m⟩
  ·cases x
  ·exact s.pub i b c
 ·obtain⟨C,p,c,m⟩:=E i _ _ _ _ _ _ d
  obtain⟨y,z⟩:=s.own i _ _ _ _ _ _ c
  refine⟨y,z.imp (λ⟨J,K,X⟩=>⟨J,K,?_⟩) id⟩
  grind
 ·rcases O i _ d with⟨⟨s1,T,S,L,R,C,p,W,x,c,m⟩,_⟩|⟨c,_⟩
  ·cases x
  ·exact s.frz i l v c
 ·obtain⟨M,u⟩:=F i cs ty d
  obtain⟨Y,c⟩:=F j cs' U q
  exact s.bb i j _ _ _ _ u c
 ·obtain⟨_,_,u,_⟩:=E i _ _ _ _ _ _ d
  obtain⟨_,_,c,_⟩:=E j _ _ _ _ _ _ q
  exact s.oo i j _ _ _ _ _ _ _ _ _ _ _ _ g u c
 ·obtain⟨M,u⟩:=F i cs ty d
  obtain⟨_,_,c,_⟩:=E j _ _ _ _ _ _ q
  exact s.bo i _ _ j _ _ _ _ _ _ u c
end
section
variable {P:Program} {h0:Hp} {w0:World} {be:Nat->Nat} {oe:Nat->Value} {H:Hp} {st:St} {h:Hp} {a:Act} {w:World}
theorem Z0o(s:Sim P h0 w0 be oe H st h a w):∀ i cs ty,nth st.bx i=some (.live cs ty)->R04 (λj k=>∃ s,stamp st j=some s/\k<=s) cs:=by
 intro i cs ty l
 obtain⟨_,vs,g,_⟩:=s.box i cs ty l
 have:∀(cs:List A5) (vs:List Value),Z1 st oe cs vs->R04 (λj k=>∃ s,stamp st j=some s/\k<=s) cs:=by
  intro cs
  induction cs with
  |nil=>intro vs _;trivial
  |cons c r b =>
   intro vs g
   cases vs with
   |nil=>exact g.elim
   |cons v vs =>
    cases c with
    |val x=>exact b vs g.2
    |own j k =>
     obtain⟨m,d,f,_⟩:=g.1
     exact⟨⟨m,d,f⟩,b vs g.2⟩
 exact this cs vs g
theorem l0j(p:Nat->Prop)(h:∃ n,p n):∃ n,p n/\∀ m,p m->n<=m:=by
 obtain⟨n,a⟩:=h
 induction n using Nat.strongRecOn with
 |_ n b =>
  grind
theorem g0m:∀(a b:List Value),M0q a b=true->a.length=b.length
 | [],[],_=>rfl
 |_::r,_::c,h=>by simp[g0m r c h]
 | [],_::_,h=>by cases h
 |_::_,[],h=>by cases h
theorem p0s{A:Ann}{ds:List Nat}{st e m:St}{f l:List (Nat×AV)}{z:List Value}{av1:∀ t,(j3 (q0b A.vars z (f++l)) t=j3 (f++l) t/\t ∉ A.vars)∨(∃ v,j3 (q0b A.vars z (f++l)) t = .val v/\rdA e (j3 e.fr t) = .val v)}
  (s:Sim P h0 w0 be oe H e h a w) (Q:m.fr=q0b A.vars z (f++l)) (E:m.bx.length=st.bx.length) (F:∀ i,stamp m i=stamp st i)
  (ae:∀ i k,(i ∉ A.owns∨i∈A.kept)->stamp st i=some k->stamp e i=stamp m i)
  (ab:∀ p∈f,p.1∈ds) (L:∀ p∈f,k0j st p.1 p.2) (ac:∀ t∈ds,t ∉ A.vars->∃ av,(t,av)∈f)
  (s1:∀ t,t ∉ ds->u0a A st (j3 l t)) (T:∀ t av,(t,av)∈f->(∀ i k,av = .own i k->∃ I,rdA e (j3 e.fr t) = .own i I)/\(∀ i o,av = .box i o->rdA e (j3 e.fr t) = .box i o))
  (U:∀ t,j3 l t = .dead∨j3 e.fr t=j3 l t):∀ t,A2 m be oe (j3 m.fr t) (a.tmps.getD t undef):=by
 intro t
 rw[Q]
 have b:=s.fr t
 have n:=s.rdA b
 rcases av1 t with⟨q,hv⟩|⟨v,q,M⟩
 ·rw[q]
  rcases a0e f l t with⟨av,u,y⟩|⟨u,y⟩
  ·rw[y]
   obtain⟨X,Y⟩:=T t av u
   rcases L _ u with rfl|⟨i,k,rfl,d,_⟩|⟨i,o,rfl,N,_⟩
   ·trivial
   ·obtain⟨I,D⟩:=X i k rfl
    rw[D]at n
    refine⟨k,by rw[F,d],Nat.le_refl _,λ_=>?_⟩
    obtain⟨C,aj,aa,ah,ak,R⟩:=y06 D
    exact n.own_cur R
   ·rw[Y i o rfl]at n
    exact⟨by rw[E];exact N,n.2⟩
  ·rw[y]
   have V:t ∉ ds:=λad=>by
    grind
   rcases U t with O|C
   ·rw[O];trivial
   have d:=s1 t V
   rw[C]at b
   cases hl:j3 l t with
   |val v=>rw[hl]at b;exact b
   |hel Z idx sz k=>rw[hl]at b;exact b
   |dead=>trivial
   |agg cs =>
    rw[hl]at b d
    obtain⟨vs,J,K⟩:=b
    refine⟨vs,J,?_⟩
    have:∀(cs:List A5) (vs:List Value),T0l cs=true->Z1 e oe cs vs->Z1 m oe cs vs:=by
     intro cs
     induction cs with
     |nil=>intro vs _ g;cases vs<;>exact g
     |cons c r W =>
      intro vs G g
      cases vs with
      |nil=>exact g.elim
      |cons v vs =>
       cases c with
       |val x=>exact⟨g.1,W vs G g.2⟩
       |own j k=>cases G
    exact this cs vs d K
   |box i o =>
    rw[hl]at b d
    exact⟨by rw[E];exact d,b.2⟩
   |own i k =>
    rw[hl]at b d
    obtain⟨af,S⟩:=d
    obtain⟨ai,J,K,ag⟩:=b
    refine⟨k,by rw[F,S],Nat.le_refl _,λ_=>?_⟩
    grind
   |oel i Z idx sz k=>rw[hl]at d;exact d.elim
 ·rw[q]
  rw[M]at n
  exact n
theorem z0c:∀(l:List (Nat×Nat×Nat×Nat)) (st:St) (oe:Nat->Value) {K:St->Prop},Sim P h0 w0 be oe H st h a w->H0i l st K->∃ st' oe',K st'/\Sim P h0 w0 be oe' H st' h a w
 | [],st,oe,K,s,c=>⟨st,oe,c,s⟩
 |(t,e,sz,by_)::r,⟨n,fr,bx,ow⟩,oe,K,s,c=>by
  simp only[H0i]at c
  split at c
  ·rename_i i k
   rw[V09]at c
   have d:=s.rdA (s.fr t)
   have hv:a.tmps.getD t undef = .slice none 0 0:=by
    have:rdA ⟨n,fr,bx,ow⟩ (j3 fr t) = .val (.slice none 0 0):=i
    rw[show rdA ⟨n,fr,bx,ow⟩ (j3 (St.mk n fr bx ow).fr t) = .val (.slice none 0 0) from this]at d
    exact d
   have f:X05 h H (.slice none 0 0) e sz false []:=⟨by simp,.inl ⟨rfl,rfl,rfl⟩⟩
   obtain⟨s1,j⟩:=s.newOwn (by_:=by_) (λb o g=>g) (T2.refl s.mv.vis) f (by simp[Value.ownBlock])
   refine z0c r _ _ (s1.refr (fr:=(t,.own ow.length 0)::fr) λu=>?_) c
   rw[U3]
   by_cases eu:t=u
   ·subst eu
    rw[if_pos rfl,hv]
    exact⟨0,by simp[stamp,v02],Nat.le_refl _,λ_=>by simp⟩
   ·rw[if_neg eu]
    exact s1.fr u
  ·exact c.elim
theorem v0a:∀(l:List (Nat×Nat×Nat×Nat×Nat)) (st:St) (oe:Nat->Value) {K:St->Prop},Sim P h0 w0 be oe H st h a w->F0d l st K->∃ st' oe',K st'/\Sim P h0 w0 be oe' H st' h a w
 | [],st,oe,K,s,f=>⟨st,oe,f,s⟩
 |(i,k,e,sz,by_)::r,⟨n,fr,bx,ow⟩,oe,K,s,f=>by
  simp only[F0d]at f
  split at f
  rotate_left
  ·exact f.elim
  rename_i cs ty C
  split at f
  rotate_left
  ·exact f.elim
  rename_i O
  rw[V09]at f
  have L:X05 h H (.slice none 0 0) e sz false []:=⟨by simp,.inl ⟨rfl,rfl,rfl⟩⟩
  obtain⟨s1,W⟩:=s.newOwn (by_:=by_) (λb o M=>M) (T2.refl s.mv.vis) L (by simp[Value.ownBlock])
  have A:=I01 C
  refine v0a r _ (λj=>if j=ow.length then .slice none 0 0 else oe j) ?_ f
  have p:J6 ⟨n,fr,bx,ow ++ [⟨0,.live e sz by_ false []⟩]⟩ be (λj=>if j=ow.length then .slice none 0 0 else oe j) ⟨n,fr,w00 bx i (.live (w00 cs k (.own ow.length 0)) ty),ow ++ [⟨0,.live e sz by_ false []⟩]⟩ be (λj=>if j=ow.length then .slice none 0 0 else oe j) :=
   ⟨by simp[h05],λ_ _=>rfl,λi s h=>⟨s,h,Nat.le_refl _,λ_=>rfl⟩⟩
  have u:∀ j cs' g,nth (w00 bx i (.live (w00 cs k (.own ow.length 0)) ty)) j=some (.live cs' g)->∃ E,nth bx j=some (.live E g):=λj cs' g d=>by
   grind[r7]
  refine⟨s1.mv,s1.sub,λj cs' g d=>?_,λj b d=>?_,s1.own,s1.frz,λj x S Z T aa G I=>?_,s1.oo,λj cs' g x X V Y R nn xs d N=>?_,s1.dfr,s1.siz,λt=>(s1.fr t).grow p⟩
  ·rw[r7 _ _ _ A]at d
   split at d
   ·rename_i F
    subst F
    cases d
    obtain⟨y,vs,m,z⟩:=s1.box j cs ty C
    refine⟨y,vs,?_,z⟩
    obtain⟨v,ab,Q⟩:=m.nth O
    have hv:v = .slice none 0 0:=Q
    have:=(m.grow p).upd (k:=k) (c := .own ow.length 0) (v:=v) (by rw[hv];exact⟨0,by simp[stamp,v02],Nat.le_refl _,λ_=>by simp⟩)
    rwa [show vs.set k v=vs from by
     grind[List.getElem?_eq_some_iff,List.set_getElem_self]]at this
   ·obtain⟨y,vs,m,z⟩:=s1.box j cs' g d
    exact⟨y,vs,m.grow p,z⟩
  ·rw[r7 _ _ _ A]at d
   split at d
   ·cases d
   ·exact s1.pub j b d
  ·obtain⟨D,q⟩:=u _ _ _ G
   obtain⟨U,J⟩:=u _ _ _ I
   exact s1.bb j x _ _ _ _ q J
  ·obtain⟨D,q⟩:=u _ _ _ d
   exact s1.bo j _ _ x _ _ _ _ _ _ q N
theorem u09:∀(l:List Nat) {st:St} {h:Hp} {K:St->Hp->Prop},Sim P h0 w0 be oe H st h a w->I0i l st h K->∃ st' d,K st' d/\Sim P h0 w0 be oe H st' d a w
 | [],st,h,K,s,b=>⟨st,h,b,s⟩
 |t::r,st,h,K,s,b=>by
  simp only[I0i]at b
  obtain⟨⟨n,fr,bx,ow⟩,d,c,s1,_⟩:=J02 s (s.rdA (s.fr t)) b
  dsimp only at c
  split at c
  ·refine u09 r (s1.refr (fr:=(t,.val (a.tmps.getD t undef))::fr) λu=>?_) c
   rw[U3]
   by_cases eu:t=u
   ·subst eu
    rw[if_pos rfl]
    rfl
   ·rw[if_neg eu]
    exact s1.fr u
  ·exact c.elim
set_option maxHeartbeats 1000000 in
theorem Y0k{Z:Code}{R:List Nat}{Q:Ex->St->Hp->Prop}
  (D:∀(Q:Ex->St->Hp->Prop) (st:St) (h:Hp) (a:Act) (w:World) (be:Nat->Nat) (oe:Nat->Value) (H:Hp),Sim P h0 w0 be oe H st h a w->ev P Z Q st h->Z.wp P (H0h P h0 w0 Q) a w)
  (s:Sim P h0 w0 be oe H st h a w) (f:U0l (λQ=>ev P Z Q) R Q st h):(Code.loop Z).wp P (H0h P h0 w0 Q) a w:=by
 obtain⟨A,aO,μ,f⟩:=f
 obtain⟨st,oe,f,s⟩:=z0c _ _ _ s f
 obtain⟨st,oe,f,s⟩:=v0a _ _ _ s f
 obtain⟨st,h,f,s⟩:=u09 _ s f
 unfold P0k at f
 obtain⟨E,bt,f,bu⟩:=C0b st _ f
 obtain⟨ad,f,aE⟩:=b0m st _ f
 obtain⟨ac,bh,⟨aa,f⟩,aF⟩:=c0m st _ f
 rw[g0g]at f
 obtain⟨F,f,aS,aC,aD,_⟩:=s09 A st _ _ f (by simp)
 obtain⟨W,a4,s1⟩:=r09 A R st _ f
 have aU:∀ p∈F,p.1∈R:=λp S=>(aS p S).resolve_right (by simp)
 have bG:∀ t,t ∉ R->u0a A st (j3 W t):=λt bq=>by
  rcases s1 t bq with h|⟨_,h⟩
  ·rw[h];trivial
  ·exact h
 have bj:=λ(vs:List Value) (af:vs.length=(E++ad).length) (os:List (List (List Value))) (ap:os.length=ac.length)=>s0a _ (r0a _ a4 vs af) os ap
 let z:List Value->List BSt->List Own->St:=λE bx ow=>⟨st.n,q0b A.vars E (F++W),bx,ow⟩
 let Inv:Nat->Act->World->Prop:=λm a w=>∃(vs:List Value) (os:List (List (List Value))) (ah aA:List Value) (bx:List BSt) (ow:List Own) (ak:Hp) (be:Nat->Nat) (oe:Nat->Value) (H:Hp),
  vs.length=(E++ad).length/\os.length=ac.length/\vs=ah++aA/\ah.length=A.vars.length/\(∀ X,T05 A.boxes aA st.bx X=X bx)/\(∀ X,U05 A.owns os st.ow X=X ow) /\
   atI A aO μ m vs os ak/\Sim P h0 w0 be oe H (z ah bx ow) ak a w
 have aP:=Z0o s
 have a2:∀ m a w,Inv m a w->Z.wp P (Exit.then (λa w=>∃ U,Inv U a w/\U<m) (H0h P h0 w0 Q)) a w:=by
  rintro m a w ⟨vs,os,ah,aA,bx,ow,ak,be,oe,H,af,ap,rfl,bs,bk,bm,aa,a0⟩
  have T:=H0o (bj _ af os ap) aa
  rw[←bs,q09,bk,bm]at T
  refine Code.wp_mono (λe aj aB S=>?_) (D _ _ _ _ _ _ _ _ a0 T)
  cases e with
  |normal =>
   obtain⟨e,g,aQ,bE,aN,J,s2⟩:=S
   dsimp only at J
   obtain⟨e,g,J,s2⟩:=u09 _ s2 J
   unfold I0o at J
   split at J
   ·rename_i a3 bl
    obtain⟨bi,bp,bo,q⟩:=J
    have L:=Nat.eq_of_beq_eq_true a3
    have C:=N07 0 _ _ bp
    have ag:=O07 0 _ _ bo
    simp only[Nat.zero_add]at C ag
    unfold P0k at q
    obtain⟨ae,aH,q,bv⟩:=C0b e _ q
    have bc:∀(is:List Nat) {K:List Value->Prop},G0d is e K->(∀ i∈is,i∈A.boxes)->(∀ i∈is,(nth st.bx i).isSome=true) ->
      ∀ i∈is,∃ cs ty cs',nth st.bx i=some (.live cs ty)/\nth e.bx i=some (.live cs' ty)/\ShC e cs cs':=by
     intro is K _ bL aq i d
     cases hb:nth st.bx i with
     |none=>have:=aq i d;rw[hb]at this;cases this
     |some b =>
      grind
    have aq:∀ i∈A.boxes,(nth st.bx i).isSome=true:=by
     have gen:∀(is:List Nat) (vs:List Value) (bx:List BSt),(T05 is vs bx λ_=>True)->∀ i∈is,(nth bx i).isSome=true:=by
      intro is
      induction is with
      |nil=>intro vs bx _ i d;cases d
      |cons j r D =>
       intro vs bx u i d
       simp only[T05]at u
       split at u
       ·rename_i cs ty L
        rcases List.mem_cons.1 d with rfl|d
        ·rw[L];rfl
        ·have ba:∀(cs:List A5) (vs:List Value) (K:List A5->List Value->Prop),D03 cs vs K->∃ a b,K a b:=by
          intro cs
          induction cs with
          |nil=>intro vs K h;exact⟨_,_,h⟩
          |cons c r D =>
           intro vs K h
           cases c with
           |val v =>
            cases vs with
            |nil=>exact h.elim
            |cons bM vs=>obtain⟨a,b,h⟩:=D _ _ h;exact⟨_,_,h⟩
           |own i k=>obtain⟨a,b,h⟩:=D _ _ h;exact⟨_,_,h⟩
         obtain⟨a,b,u⟩:=ba _ _ _ u
         have:=D _ _ u i d
         rw[r7 _ _ _ (I01 L)]at this
         grind
       ·exact u.elim
     exact gen A.boxes ad st.bx (by rw[aE];trivial)
    have bn:∀ i∈A.owns,(nth st.ow i).isSome=true:=by
     have gen:∀(is:List Nat) (vs:List (List (List Value))) (ow:List Own),(U05 is vs ow λ_=>True)->∀ i∈is,(nth ow i).isSome=true:=by
      intro is
      induction is with
      |nil=>intro vs bx _ i d;cases d
      |cons j r D =>
       intro vs ow u i d
       cases vs with
       |nil=>exact u.elim
       |cons x vs =>
        simp only[U05]at u
        split at u
        ·rename_i L
         rcases List.mem_cons.1 d with rfl|d
         ·rw[L];rfl
         ·have:=D _ _ u i d
          rw[r7 _ _ _ (I01 L)]at this
          grind
        ·exact u.elim
     exact gen A.owns ac st.ow (by rw[aF];trivial)
    obtain⟨aM,q,O,aL,bH,bI,bJ,bK⟩:=d0m e A.boxes st.bx (bc _ q (λ_ h=>h) aq) q
    have bf:∀ i∈A.owns,∃ s G sz by_ nn ai V M xs,nth st.ow i=some ⟨s,.live G sz by_ nn ai⟩/\nth e.ow i=some ⟨V,.live G sz by_ M xs⟩/\(nn=true->M=true):=λi d=>by
     cases hb:nth st.ow i with
     |none=>have:=bn i d;rw[hb]at this;cases this
     |some b =>
      rcases ag i b hb with⟨_,s,G,sz,by_,nn,ai,V,M,xs,rfl,g,al,_⟩|⟨l,_⟩
      ·exact⟨s,G,sz,by_,nn,ai,V,M,xs,rfl,g,al⟩
      ·exact absurd d l
    obtain⟨bF,bA,q,N,aJ,bB,bC,bD⟩:=e0m e A.owns st.ow bf q
    split at q
    rotate_left
    ·exact q.elim
    rename_i bg
    rw[←aH,q09,aL,aJ]at q
    obtain⟨ab,aY,an⟩:=O0q q
    have ar:∀ i,stamp (z ae O N) i=stamp st i:=λi=>by
     have:=bD i
     unfold stamp
     simp only[z]
     cases l:nth N i<;>cases g:nth st.ow i<;>rw[l,g]at this<;>simp at this<;>simp[this]
    refine⟨ab,⟨ae++aM,bF,ae,aM,O,N,g,aQ,bE,aN,?_,?_,rfl,aH,aL,aJ,aY,?_⟩,an⟩
    ·rw[←af];exact g0m _ _ bg
    ·rw[bA]
     have:ac.length=A.owns.length:=bh
     rw[this]
    ·refine Y0o (A:=A) s2 L ?_ ?_ ?_ ?_
     ·intro i b d
      by_cases y:i∈A.boxes
      ·obtain⟨aR,ty,cs',aw,ax,ay⟩:=bJ i y
       have:nth O i=some b:=d
       rw[aw]at this
       cases this
       exact .inl ⟨aR,ty,cs',rfl,ax,ay⟩
      ·have:nth O i=some b:=d
       rw[bI i y]at this
       rcases C i b this with⟨l,_⟩|⟨_,g,al⟩
       ·exact absurd l y
       ·exact .inr ⟨g,al⟩
     ·intro i o d
      by_cases y:i∈A.owns
      ·obtain⟨aK,G,sz,by_,nn,V,M,xs,aw,ax,ay⟩:=bC i y
       have:nth N i=some o:=d
       rw[aw]at this
       cases this
       exact .inl ⟨⟨aK,G,sz,by_,nn,V,M,xs,rfl,ax,ay⟩,y⟩
      ·have:nth N i=some o:=d
       rw[bB i y]at this
       rcases ag i o this with⟨l,_⟩|⟨_,g⟩
       ·exact absurd l y
       ·exact .inr ⟨g,y⟩
     ·intro i cs ty d
      have:=bK _ aP i cs ty d
      have bb:(λj k=>∃ s,stamp (z ae O N) j=some s/\k<=s)=(λj k=>∃ s,stamp st j=some s/\k<=s):=by
       funext j k;rw[ar]
      rw[bb]
      exact this
     ·refine p0s (A:=A) (ds:=R) (st:=st) (av1:=λt=>bv (F++W) t) s2 rfl bH ar ?_ aU aC aD bG (b0e F bl) (t09 _ bi)
      intro i k d am
      show stamp e i=stamp (z ae O N) i
      rw[ar i]
      cases hb:nth st.ow i with
      |none=>unfold stamp at am;rw[hb]at am;cases am
      |some b =>
       rcases ag i b hb with⟨l,aK,G,sz,by_,nn,ai,V,M,xs,rfl,g,_,aW⟩|⟨_,g⟩
       ·have:=aW (d.resolve_left (λh=>h l))
        simp[stamp,hb,g,this]
       ·unfold stamp
        rw[hb,g]
   ·exact J.elim
  |exit i=>exact S
  |ret=>exact S
  |_=>exact S
 have a1:Sim P h0 w0 be oe H (z E st.bx st.ow) h a w:=by
  refine s.refr (fr:=q0b A.vars E (F++W)) λt=>?_
  have aV:=s.fr t
  have I:=s.rdA aV
  rcases bu (F++W) t with⟨l,hv⟩|⟨v,l,g⟩
  ·rw[l]
   rcases a0e F W t with⟨av,az,ab⟩|⟨az,ab⟩
   ·rw[ab]
    rcases aC _ az with rfl|⟨i,k,rfl,_,T⟩|⟨i,o,rfl,_,T⟩
    ·trivial
    ·rw[T]at I;exact I
    ·rw[T]at I;exact I
   ·rw[ab]
    have br:t ∉ R:=λz=>by
     obtain⟨av,y⟩:=aD t z hv
     exact az av y
    rcases s1 t br with h|⟨h,_⟩
    ·rw[h];trivial
    ·rw[h];exact I
  ·rw[l]
   rw[g]at I
   exact I
 obtain⟨bz,aa⟩:=G0o (μ:=μ) aa
 have aX:Inv bz a w:=⟨E++ad,ac,E,ad,st.bx,st.ow,h,be,oe,H,rfl,rfl,rfl,bt,aE,aF,aa,a1⟩
 classical
 let Y:Act->World->Nat:=λa w=>if C:∃ m,Inv m a w then Classical.choose (l0j _ C)else 0
 refine wp_loop (λa w=>∃ m,Inv m a w) Y ⟨_,aX⟩ λa w C=>?_
 have aZ:Y a w=Classical.choose (l0j _ C):=by simp only[Y,dif_pos C]
 refine Code.wp_mono (λe aj aB aG=>?_) (a2 _ a w (Classical.choose_spec (l0j _ C)).1)
 cases e with
 |normal =>
  obtain⟨U,ao,an⟩:=aG
  refine⟨⟨U,ao⟩,?_⟩
  have au:∃ m,Inv m aj aB:=⟨U,ao⟩
  have:Y aj aB=Classical.choose (l0j _ au):=by simp only[Y,dif_pos au]
  rw[aZ,this]
  exact Nat.lt_of_le_of_lt ((Classical.choose_spec (l0j _ au)).2 U ao) an
 |_=>exact aG
end
section
variable {P:Program} {h0:Hp} {w0:World} {be:Nat->Nat} {oe:Nat->Value} {H:Hp} {st:St} {h:Hp} {a:Act} {w:World}
theorem a0p(c:Code):∀(Q:Ex->St->Hp->Prop) (st:St) (h:Hp) (a:Act) (w:World) (be:Nat->Nat) (oe:Nat->Value) (H:Hp),Sim P h0 w0 be oe H st h a w->ev P c Q st h->c.wp P (H0h P h0 w0 Q) a w:=by
 induction c with
 |skip=>exact λQ st h a w be oe H s f=>wp_skip ⟨st,h,be,oe,H,f,s⟩
 |region id ops d=>grind[I0h]
 |seq x p n o =>
  intro Q st h a w be oe H s f
  refine wp_seq (Code.wp_mono (λe a w j=>?_) (n _ _ _ _ _ _ _ _ s f))
  cases e with
  |normal=>obtain⟨st,h,be,oe,H,k,s⟩:=j;exact o _ _ _ _ _ _ _ _ s k
  |exit i=>exact j
  |ret=>exact j
  |_=>exact j
 |cond c x p n o =>
  intro Q st h a w be oe H s f
  simp only[ev]at f
  split at f
  ·rename_i b l
   have g:=s.rdO c
   rw[l]at g
   exact wp_cond_split g (λe=>n _ _ _ _ _ _ _ _ s (f.1 e)) (λe=>o _ _ _ _ _ _ _ _ s (f.2 e))
  ·exact f.elim
 |block id c m =>
  intro Q st h a w be oe H s f
  refine wp_block (Code.wp_mono (λe a w j=>?_) (m _ _ _ _ _ _ _ _ s f))
  cases e with
  |normal=>exact j
  |exit i =>
   obtain⟨st,h,be,oe,H,k,s⟩:=j
   simp only[Exit.inBlock]
   dsimp only at k
   cases l:Nat.beq i id with
   |true =>
    rw[l]at k
    rw[if_pos (Nat.eq_of_beq_eq_true l)]
    exact⟨st,h,be,oe,H,k,s⟩
   |false =>
    rw[l]at k
    rw[if_neg (Nat.ne_of_beq_eq_false l)]
    exact⟨st,h,be,oe,H,k,s⟩
  |ret=>exact j
  |_=>exact j
 |loop c m=>exact λQ st h a w be oe H s f=>Y0k m s f
 |exit i=>exact λQ st h a w be oe H s f=>wp_exit ⟨st,h,be,oe,H,f,s⟩
 |ret=>exact λQ st h a w be oe H s f=>wp_ret ⟨st,h,be,oe,H,f,s⟩
 |_=>exact λQ st h a w be oe H s f=>f.elim
def Z0q(tmps:Array Value):ResultVar->Sem Value
 | .tmp t=>pure (tmps.getD t undef)
 | .cell a t=>do loadVar t (←asAddr (tmps.getD a undef))
theorem v09:∀(l:List ResultVar) (st:St) (h:Hp) {K:List Value->St->Hp->Prop},Sim P h0 w0 be oe H st h a w->S0k P l st h K ->
  ∃ vs st' p,K vs st' p/\Sim P h0 w0 be oe H st' p a w/\(l.mapM (Z0q a.tmps)).run P w = .ok vs w
 | [],st,h,K,s,c=>⟨[],st,h,c,s,rfl⟩
 | .tmp t::r,st,h,K,s,c=>by
  obtain⟨m,d,k,s1,_⟩:=J02 s (s.rdA (s.fr t)) c
  obtain⟨vs,y,q,n,s2,u⟩:=v09 r m d s1 k
  grind[Sem.run_bind,Z0q,Sem.run_pure,Result.andThen_ok]
 | .cell t ty::r,st,h,K,s,c=>by
  simp only[S0k]at c
  split at c
  ·rename_i i off u
   split at c
   ·rename_i cs L E
    have g:=s.rdA (s.fr t)
    rw[u]at g
    obtain⟨d,vs,q,A⟩:=s.box i cs L E
    obtain⟨av,v,G,I,J⟩:=R.load_row (H:=H) (b:=be i) (o:=0) (be:=be) c q (λj v C=>by simp[Hp.cell,A,C])
    obtain⟨m,d,k,s1,_⟩:=J02 s I G
    obtain⟨M,y,z,n,s2,F⟩:=v09 r m d s1 k
    refine⟨_,y,z,n,s2,?_⟩
    have D:(loadVar ty ⟨be i,off,none⟩).run P w = .ok v w:=by
     obtain⟨x,f,e⟩:=R.wpR_sound _ _ w s.mv.vis (J (λx _=>x=v) rfl)
     rw[Nat.zero_add]at f
     rw[f,e]
    have f:a.tmps.getD t undef=ptr (be i) off:=g.2
    simp only[List.mapM_cons,Sem.run_bind,Z0q,f,ptr,asAddr,Sem.run_pure,Result.andThen_ok,D,F]
   ·exact c.elim
  ·exact c.elim
theorem j0g:∀(args:List Value) (i s:Nat),j3 (c0a i args) s = .dead∨j3 (c0a i args) s = .val (if i<=s then args.getD (s-i) undef else undef)
 | [],i,s => .inl rfl
 |v::r,i,s=>by
  simp only[c0a]
  rw[U3]
  by_cases e:i=s
  ·subst e;right;simp
  ·rw[if_neg e]
   rcases j0g r (i+1) s with a|a
   all_goals grind
theorem T2.less{h a H:Hp}{w f:World}(m:T2 h w H f)(d:∀ b o,a b=some o->H b=some o):T2 h w a f:=by
 refine⟨m.os,m.tape,m.output,m.size,m.keep,λb o c=>m.vis b o (d b o c),λb c=>?_,m.fz,m.dn⟩
 cases hc:a b with
 |none=>exact absurd hc c
 |some o=>exact m.fresh b (by rw[d b o hc];simp)
theorem Z0k{f:FuncId}{fn:Func}{args:List Value}{n:Value->Hp->Prop}(hf:P.funcs[f]?=some fn)(l:h0s P fn args h n):Tr P f args.toArray h n:=by
 refine⟨λw hv=>?_⟩
 unfold h0s at l
 split at l
 ·rename_i c z
  split at l
  ·rename_i q
   have q:=Nat.le_of_ble_eq_true q
   have D:Sim P h w (λ_=>0) (λ_=>undef) h ⟨fn.ntmps,c0a 0 args,[],[]⟩ h { tmps:=args.toArray++Array.replicate (fn.ntmps-args.toArray.size) undef,defers:=[] } w:=by
    refine⟨T2.refl hv,λ_ _ h=>h,(λi cs ty a=>nomatch a),(λi b a=>nomatch a),(λi s e sz by_ nn xs a=>nomatch a),(λi s v a=>nomatch a),(λi j cs ty cs' L a=>nomatch a),
     (λi j s e sz by_ nn xs I F K E G M g a=>nomatch a),(λi cs ty j s e sz by_ nn xs a=>nomatch a),rfl,by simp;omega,λs=>?_⟩
    rcases j0g args 0 s with d|d
    ·grind[A2,j3,c0a]
    show A2 _ _ _ (j3 (c0a 0 args) s) _
    rw[d]
    simp only[Nat.zero_le,if_true,Nat.sub_zero]
    show _=_
    simp only[Array.getD_eq_getD_getElem?]
    grind
   refine calls_of_wp hf z (Code.wp_mono (λe m p o=>?_) (a0p c _ _ _ _ _ _ _ _ D l))
   have fin:∀ {st d be oe H},S0k P fn.results.toList st d (λvs _ h=>n (M0i vs) h)->Sim P h w be oe H st d m p->m.defers = []/\∃ v,(results fn m.tmps).run P p = .ok v p/\∃ t d,Ending.returned v = .returned t/\n t d/\T2 h w d p:=by
    intro st d be oe H k s
    obtain⟨vs,J,y,u,s2,A⟩:=v09 _ _ _ s k
    refine⟨s.dfr,M0i vs,?_,M0i vs,y,rfl,u,s2.mv.less s2.sub⟩
    have C:results fn m.tmps=(fn.results.mapM (Z0q m.tmps) >>= λvs=>pure (if h:vs.size=1 then vs[0]else .tuple vs)):=by
     unfold results
     congr 1
    rw[C,Array.mapM_eq_mapM_toList]
    simp only[Sem.run_bind,Sem.run_map,A,Result.andThen_ok,Sem.run_pure]
    cases vs with
    |nil=>rfl
    |cons x r=>cases r<;>rfl
   cases e with
   |normal=>obtain⟨st,d,be,oe,H,k,s⟩:=o;exact fin k s
   |ret=>obtain⟨st,d,be,oe,H,k,s⟩:=o;exact fin k s
   |exit i=>obtain⟨st,d,be,oe,H,k,s⟩:=o;exact k.elim
   |_=>exact o.elim
  ·exact l.elim
 ·exact l.elim
end
open Go.RowKit Go.ChangeShapes Go.WideShapes Go.ChangeAt
theorem Tr.val{P:Program}{f:FuncId}{args:Array Value}{h:Hp}{x:Value}{a:Value->Hp->Prop}(t:Tr P f args h λv d=>v=x/\d=h)(g:a x h):Tr P f args h a :=
 t.mono λ_ _ ⟨b,c⟩=>by rw[b,c];exact g
theorem Tr.calls{P:Program}{f:FuncId}{args:Array Value}{c:World}{x:Value}(t:Tr P f args (λb=>c.heap[b]?) λv g=>v=x/\∀ b o,c.heap[b]?=some o->g b=some o):
  Calls P f args c λe d=>e = .returned x/\Below c.heap.size c d/\∀ a:Addr,a.block<c.heap.size->d.frozen? a=c.frozen? a:=by
 refine(t.run c (λb o h=>h)).mono ?_
 rintro e d ⟨v,g,rfl,⟨rfl,i⟩,m⟩
 refine⟨rfl,⟨m.os,m.tape,m.output,m.size,λk j=>?_⟩,m.fz⟩
 have:c.heap[k]?=some c.heap[k]:=by simp[j]
 rw[this]
 exact m.vis _ _ (i k _ this)
theorem w64{x:Int}(a : -9223372036854775808<=x)(b:x<=9223372036854775807):IntKind.i64.wrap x=x:=by
 simp[IntKind.wrap,IntKind.signed,IntKind.bits]
 omega
theorem A0n{n:Nat}(h:n<=maxLen):n<=9223372036854775807:=by
 grind[maxLen]
def K0(x:Int):Prop := -9223372036854775808<=x/\x<=9223372036854775807
theorem C0t{x:Int}(h:(Lit.int .i64 x).wf=true):K0 x:=by
 simpa [Lit.wf,IntKind.min,IntKind.max,IntKind.signed,IntKind.bits,K0] using h
section
variable {H:Type} {enc:TypeId×Value->H} {P:Program}
theorem b09(i:laidOutB P=true){b f:World}(g:Below b.heap.size b f){m:Nat->Bool}:∀ {c:List TypeId} {vs:List Value} {ds:List (DataW H)} {ps:List MemPlace},
  (∀ t∈c,P.readableRec t=true/\t<P.types.size)->DataW.TrodAll enc P b 0 (λ_=>true) true c vs ds ps->(∀ p∈ps,p.block<b.heap.size)->(∀ p∈ps,m p.block=true) ->
  DataW.TrodAll enc P f 0 m true c vs ds ps
 | [],vs,ds,ps,_,h,_,_=>by
  obtain⟨rfl,rfl,rfl⟩:=trodAll_nil h
  exact rfl
 |t::c,vs,ds,ps,l,h,j,k=>by
  obtain⟨v,z,d,y,p,q,rfl,rfl,rfl,n,o⟩:=trodAll_cons h
  obtain⟨u,w⟩:=l t mS
  refine⟨p,q,WideElems.Trod_stays i u w n (λx a=>g.same (j x (List.mem_append_left _ a))) (λx a=>k x (List.mem_append_left _ a)),?_,rfl⟩
  exact b09 i g (λt s=>l t (mC _ s)) o (λx a=>j x (List.mem_append_right _ a)) (λx a=>k x (List.mem_append_right _ a))
theorem R0c{f:Func}{s:ChangeSpec}{m fresh y x:Bool}{i d:World}{args:Array Value}{v:Value}{ds gs:List (DataW H)}{g pa pv:List MemPlace}
  (k:DataW.Whole enc P f.params.toList s.vars m i args.toList ds gs g)
  (u:∀(b:Nat) (h:Nat->Bool) (z:Bool),DataW.TrodAll enc P d b h z f.resultTypes.toList (v.resultList f.resultTypes.size) (s.fn H (ds++gs)).results [])
  (n:∀ h:Nat->Bool,(∀ p∈g,h p.block=true)->DataW.TrodAll enc P d 0 h true f.params.toList args.toList (s.fn H (ds++gs)).args pa)
  (w:∀ h:Nat->Bool,(∀ p∈g,h p.block=true)->DataW.TrodVars enc P d h s.vars (s.fn H (ds++gs)).vars pv)
  (o:g=pa++pv) (C:i.keptBut d (·∈g)) (A:∀ a:Addr,a.block<i.heap.size->d.frozen? a=i.frozen? a)
  (D:∀(j:Nat) (t:TypeId) (r:Value),f.resultTypes[j]?=some t->(v.resultList f.resultTypes.size)[j]?=some r->Value.okWide P d .any 0 t r) :
  s.post enc P f m fresh y x i args v d:=by
 have l:=λp c=>k.lt (p:=p) c
 refine⟨ds,gs,g,[],pa,pv,k,u _ _ _,n _ (λp c=>by simpa using l p c),w _ (λp c=>by simpa using l p c),World.keptBut_mono (λp c=>⟨c,.inr (by rwa [o,List.mem_append]at c)⟩) C,λ_=>?_⟩
 obtain⟨_,_,_,_,_,E,F⟩:=k
 have q:([]++pa)++pv=g:=by simp[o]
 refine⟨D,_,_,([]++pa)++pv,⟨[]++pa,pv,trodAll_append (n _ (λ_ _=>rfl)) (u _ _ _),w _ (λ_ _=>rfl),rfl,?_,?_⟩,λp c _=>by rwa [q]at c⟩
 ·intro b off c
  rw[q]at c
  rw[A _ (l _ c)]
  exact E b off c
 grind
theorem b0p{f:Func}{s:ChangeSpec}{g fresh v m:Bool}{b c:World}{args:Array Value}{ds gs:List (DataW H)}{n:List MemPlace}{l:TypeId}
  (C:laidOutB P=true) (E:∀ t∈f.params.toList,P.readableRec t=true/\t<P.types.size) (hv:s.vars = []) (i:s.fn H (ds++gs) = { results:=[.lit (.bool true)],args:=ds })
  (j:f.resultTypes = #[l]) (k:P.underlying l=some .bool) (d:DataW.Whole enc P f.params.toList s.vars g b args.toList ds gs n)
  (o:Below b.heap.size b c) (w:∀ a:Addr,a.block<b.heap.size->c.frozen? a=b.frozen? a):s.post enc P f g fresh v m b args (.bool true) c:=by
 have D:=λp x=>d.lt (p:=p) x
 have u:=d
 obtain⟨p,q,A,h,rfl,_,_⟩:=d
 rw[hv]at h
 obtain⟨rfl,rfl⟩:=trodVars_none h
 refine R0c (pa:=p) (pv:=[]) u (λ_ _ _=>?_) (λz y=>?_) (λz y=>?_) rfl (o.frame _) w (ok_one j rfl (okWide_bool_mk k _))
 ·rw[i,j]
  exact trodAll_mk1 (shut_bool k _)
 ·grind[b09,List.mem_append_left]
 ·rw[i,hv]
  exact rfl
end
end Go.H
