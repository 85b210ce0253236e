/- The library of the walks, part HD: plain laws over the model. -/
import Derived.Test.YtmgikbbmpnbbjaaGreatHC
import Derived.ProofKit
namespace Go.H
set_option linter.unusedVariables false
set_option linter.unusedSimpArgs false
theorem K7{i:Nat}{o:Oper}(h:Q8 i o=true):∃ e∈o.after,Region.binds .any e=true/\e.on=i:=by
 unfold Q8 at h
 rw[List.any_eq_true]at h
 simp_all
theorem Z08{o:Oper}{t:Nat}:∀ {l:List Oper} {i:Nat},k03 o t l i=true->∀ k x,l[k]?=some x->x.dst=some t->Q8 (i+k) o=true
 | [],i,h,k,x,a,b=>by simp at a
 |y::r,i,h,0,x,a,b=>by
  simp_all[k03,Nat.beq_refl,Bool.and_eq_true]
 |y::r,i,h,k+1,x,a,b=>by
  simp only[List.getElem?_cons_succ]at a
  have c:k03 o t r (i+1)=true:=by
   simp only[k03]at h
   grind
  have:=Z08 c k x a b
  rwa [show i+1+k=i+(k+1) from by omega]at this
theorem l04{o:Oper}{ops:List Oper}:∀ {l:List Operand},g0b o ops l=true->∀ t,Operand.tmp t∈l->k03 o t ops 0=true
 | [],h,t,a=>by cases a
 | .tmp u::r,h,t,a=>by
  simp only[g0b,Bool.and_eq_true]at h
  rcases List.mem_cons.1 a with e|a
  ·cases e;exact h.1
  ·exact l04 h.2 t a
 | .const v::r,h,t,a=>by
  rcases List.mem_cons.1 a with e|a
  ·cases e
  ·exact l04 (l:=r) h t a
 | .global v::r,h,t,a=>by
  rcases List.mem_cons.1 a with e|a
  ·cases e
  ·exact l04 (l:=r) h t a
 | .func v::r,h,t,a=>by
  rcases List.mem_cons.1 a with e|a
  ·cases e
  ·exact l04 (l:=r) h t a
theorem U07{ops:List Oper}:∀ {l:List Oper},P0n ops l=true->∀ o∈l,∀ t,Operand.tmp t∈o.op.operands->∀ k x,ops[k]?=some x->x.dst=some t->∃ e∈o.after,Region.binds .any e=true/\e.on=k
 | [],h,o,a=>by cases a
 |y::r,h,o,a=>by
  simp only[P0n,Bool.and_eq_true]at h
  rcases List.mem_cons.1 a with rfl|a
  ·intro t d k x c b
   have:=Z08 (l04 h.1 t (by simpa using d)) k x c b
   simp_all[Nat.zero_add,K7]
  ·exact U07 h.2 o a
theorem T06{d:Nat}:∀ {l:List Oper},M08 d l=true->∀ o∈l,o.dst≠some d
 | [],h,o,a=>by cases a
 |y::r,h,o,a=>by
  simp only[M08]at h
  split at h
  ·rename_i c b
   simp only[Bool.and_eq_true,Bool.not_eq_true']at h
   rcases List.mem_cons.1 a with rfl|a
   ·grind[Nat.ne_of_beq_eq_false]
   ·exact T06 h.2 o a
  ·rename_i b
   rcases List.mem_cons.1 a with rfl|a
   ·grind
   ·exact T06 h o a
theorem e06{n:Nat}:∀ {l:List Oper},g0k n l=true->(∀ o∈l,∀ d,o.dst=some d->d<n) /\
  ∀(i j:Nat) (a b:Oper) (d:Nat),l[i]?=some a->l[j]?=some b->a.dst=some d->b.dst=some d->i=j
 | [],h=>⟨by simp,λi j a b d f=>by simp at f⟩
 |y::r,h=>by
  simp only[g0k]at h
  split at h
  ·rename_i d p
   simp only[Bool.and_eq_true]at h
   obtain⟨⟨v,k⟩,m⟩:=h
   obtain⟨g,s⟩:=e06 m
   have x:=T06 k
   refine⟨λo c e q=>?_,λi j a b e f w t u=>?_⟩
   ·rcases List.mem_cons.1 c with rfl|c
    ·simp_all
    ·exact g o c e q
   grind
  ·rename_i p
   obtain⟨g,s⟩:=e06 h
   grind
theorem I04:∀ {l:List Oper} {j:Nat},I0d l j=true->∀ k o,l[k]?=some o->∀ e∈o.after,Region.binds .any e=true->e.on<j+k
 | [],j,h,k,o,a=>by simp at a
 |y::r,j,h,k,o,a=>by
  simp only[I0d,Bool.and_eq_true,List.all_eq_true]at h
  cases k with
  |zero =>
   simp at a
   subst a
   intro e b c
   have:=h.1 e (by simpa using b)
   simp_all
  |succ k =>
   simp at a
   intro e b c
   have:=I04 h.2 k o a e b c
   omega
def K4:List Oper->List (Nat×AV)->List (Nat×AV)
 | [],fr=>fr
 |o::r,fr=>match o.dst with
  |some d=>(d,.dead)::K4 r fr
  |none=>K4 r fr
theorem m02{t:Nat}:∀ {l:List Oper} {fr:List (Nat×AV)},(∀ o∈l,o.dst≠some t)->O3 (K4 l fr) t=O3 fr t
 | [],fr,h=>rfl
 |o::r,fr,h=>by
  have c:=m02 (fr:=fr) λb a=>h b (mC _ a)
  simp only[K4]
  split
  all_goals simp_all[i4,if_neg,List.mem_cons_self]
theorem n03{t:Nat}:∀ {l:List Oper} {fr:List (Nat×AV)} {o:Oper},o∈l->o.dst=some t->O3 (K4 l fr) t = .dead
 | [],fr,o,h,_=>by cases h
 |y::r,fr,o,h,a=>by
  simp only[K4]
  split
  ·rename_i d b
   rw[i4]
   split
   ·rfl
   ·rename_i c
    rcases List.mem_cons.1 h with rfl|h
    ·grind
    ·exact n03 h a
  ·rename_i b
   rcases List.mem_cons.1 h with rfl|h
   ·rw[a]at b;cases b
   ·exact n03 h a
theorem G01(d:Nat)(f:H6)(r:List (Nat×H6))(s:Nat):W3 ((d,f)::r) s=if d=s then some f else W3 r s:=by
 simp only[W3]
 cases h:Nat.beq d s with
 |true=>rw[if_pos (Nat.eq_of_beq_eq_true h)]
 |false=>rw[if_neg (Nat.ne_of_beq_eq_false h)]
section
variable {P:Program} {h0:Hp} {w0:World} {be:Nat->Nat} {oe:Nat->Value} {H:Hp} {h:Hp} {a:Act} {w:World}
theorem Sim.refr{st:St}(s:Sim P h0 w0 be oe H st h a w){fr:List (Nat×AV)}(hf:∀ t,C3 st be oe (O3 fr t) (a.tmps.getD t undef)):Sim P h0 w0 be oe H { st with fr:=fr } h a w:=by
 have b:F7 st be oe { st with fr:=fr } be oe:=⟨Nat.le_refl _,λ_ _=>rfl,λi s h=>⟨s,h,Nat.le_refl _,λ_=>rfl⟩⟩
 refine⟨s.mv,s.sub,λi cs ty f=>?_,s.pub,s.own,s.frz,s.bb,s.oo,s.bo,s.dfr,s.siz,λt=>(hf t).grow b⟩
 obtain⟨c,vs,d,e⟩:=s.box i cs ty f
 exact⟨c,vs,d.grow b,e⟩
def U06(st:St)(be:Nat->Nat)(oe:Nat->Value)(h:Hp):H6->Value->Prop
 | .pu av,v=>C3 st be oe av v
 | .ef F,v=>F v h
theorem S03{L:List (Nat×H6)}{st:St}{h:Hp}{val:Nat->Value}{K:List (Nat×AV)->Prop}:∀ {l:List Operand} {acc:List (Nat×AV)},
  (∀ t,C3 st be oe (O3 acc t) (val t))->(∀ t,Operand.tmp t∈l->(∀ f,W3 L t=some f->U06 st be oe h f (val t))/\(W3 L t=none->C3 st be oe (O3 st.fr t) (val t))) ->
  U0e L st h l acc K->∃ fr,K fr/\∀ t,C3 st be oe (O3 fr t) (val t)
 | [],acc,c,b,a=>⟨acc,a,c⟩
 | .tmp t::r,acc,c,b,a=>by
  have i:∀ u,Operand.tmp u∈r->_:=λu d=>b u (mC _ d)
  have j:=b t mS
  have put:∀ av,C3 st be oe av (val t)->∀ u,C3 st be oe (O3 ((t,av)::acc) u) (val u):=λav g u=>by
   grind[i4]
  simp only[U0e]at a
  split at a
  ·rename_i av e
   exact S03 (put av (j.1 _ e)) i a
  ·rename_i F e
   exact S03 (put (.val (val t)) rfl) i (a _ (j.1 _ e))
  ·rename_i e
   exact S03 (put _ (j.2 e)) i a
 | .const v::r,acc,c,b,a=>S03 (l:=r) c (λu d=>b u (mC _ d)) a
 | .global v::r,acc,c,b,a=>S03 (l:=r) c (λu d=>b u (mC _ d)) a
 | .func v::r,acc,c,b,a=>S03 (l:=r) c (λu d=>b u (mC _ d)) a
def v0v(P:Program)(st:St)(h:Hp)(L:List (Nat×H6))(o:Oper):Prop :=
 o.guard=none/\∃ f,(∀ d,o.dst=some d->W3 L d=some f)/\match f with
  | .pu av=>y0m P L o st=some av
  | .ef F=>(∀ v a b,Sub a b->F v a->F v b)/\∀ h',Sub h h'->U0e L st h' o.op.operands.toList [] λfr=>Z8 P o { st with fr:=fr } h' (Z0u { st with fr:=fr } h' F)
theorem R0c:∀ {L:List (Nat×H6)} {t:Nat} {f:H6},W3 L t=some f->(t,f)∈L
 | [],t,f,h=>by cases h
 |(d,a)::r,t,f,h=>by
  rw[G01]at h
  split at h
  ·grind
  ·exact mC _ (R0c h)
theorem Z0s{st:St}{L:List (Nat×H6)}{o:Oper}{av:AV}{val:Nat->Value}(a:y0m P L o st=some av)
  (k:∀ t,Operand.tmp t∈o.op.operands->(∀ f,W3 L t=some f->U06 st be oe h f (val t))/\(W3 L t=none->C3 st be oe (O3 st.fr t) (val t))) :
  ∃ fr,(∀ t,C3 st be oe (O3 fr t) (val t))/\Z8 P o { st with fr:=fr } h λi st' h'=>i=av/\st' = { st with fr:=fr }/\h'=h:=by
 have one:∀ x:Operand,(∀ t,x = .tmp t->Operand.tmp t∈o.op.operands)->rdS L st x ≠ .dead->∃ fr,(∀ t,C3 st be oe (O3 fr t) (val t))/\rdO { st with fr:=fr } x=rdS L st x:=by
  intro x b c
  cases x with
  |tmp t =>
   obtain⟨j,l⟩:=k t (b t rfl)
   have mk:∀ A,C3 st be oe A (val t)->∀ u,C3 st be oe (O3 [(t,A)] u) (val u):=λA g u=>by
    rw[i4]
    split
    ·grind
    ·trivial
   have rd:∀ A,rdO { st with fr:=[(t,A)] } (.tmp t)=rdA st A:=λA=>by
    show Go.H.rdA _ (O3 [(t,A)] t)=_
    rw[i4,if_pos rfl]
    obtain⟨n,fr,bx,ow⟩:=st
    cases A<;>rfl
   cases hL:W3 L t with
   |none=>grind[rdS]
   |some f =>
    cases f with
    |pu A=>exact⟨_,mk _ (j _ hL),by grind[rdS]⟩
    |ef F=>grind[absurd,rdS]
  |const v=>exact⟨[],λt=>trivial,rfl⟩
  |global v=>exact⟨[],λt=>trivial,rfl⟩
  |func v=>exact⟨[],λt=>trivial,rfl⟩
 unfold y0m at a
 split at a
 ·rename_i x b
  have c:rdS L st x ≠ .dead:=λe=>by rw[e]at a;cases a
  obtain⟨fr,g,e⟩:=one x (λt d=>by grind[Op.operands]) c
  refine⟨fr,g,?_⟩
  simp only[Z8,b,e]
  revert a
  cases rdS L st x<;>intro a<;>first|(cases a;done)|(cases a;simp;done)
 ·rename_i x b
  have c:rdS L st x ≠ .dead:=λe=>by rw[e]at a;cases a
  obtain⟨fr,g,e⟩:=one x (λt d=>by grind[Op.operands]) c
  refine⟨fr,g,?_⟩
  simp only[Z8,b,e]
  revert a
  cases rdS L st x<;>intro a<;>first|(cases a;done)|(cases a;simp;done)
 ·rename_i t x b
  have c:rdS L st x ≠ .dead:=λe=>by rw[e]at a;cases a
  obtain⟨fr,g,e⟩:=one x (λt d=>by grind[Op.operands]) c
  refine⟨fr,g,?_⟩
  simp only[Z8,b,e]
  split at a
  all_goals grind[T0e,P05,N0e,d6]
 ·cases a
def q0u(P:Program)(h0:Hp)(w0:World)(ops:Array Oper)(st:St)(h:Hp)(L:List (Nat×H6))(listed:Array Bool)(a:Act)(w:World):Prop :=
 ∃ be oe H h',Sub h h'/\Sim P h0 w0 be oe H { st with fr:=K4 ops.toList st.fr } h' a w /\
  ∀ j o d f,ops[j]?=some o->o.dst=some d->listed.getD j false=true->W3 L d=some f->U06 st be oe h' f (a.tmps.getD d undef)
theorem C3.fr{st:St}{fr:List (Nat×AV)}{av:AV}{v:Value}(g:C3 st be oe av v):C3 { st with fr:=fr } be oe av v:=by
 obtain⟨n,a,bx,ow⟩:=st
 show C3 ⟨n,fr,bx,ow⟩ be oe av v
 exact C3.grow (st:=⟨n,a,bx,ow⟩) (st':=⟨n,fr,bx,ow⟩) (be:=be) (oe:=oe) (be':=be) (oe':=oe) (av:=av) (x:=v) ⟨Nat.le_refl _,λ_ _=>rfl,λi s h=>⟨s,h,Nat.le_refl _,λ_=>rfl⟩⟩ g
theorem y03{ops:Array Oper}{st:St}{L:List (Nat×H6)}{listed:Array Bool}{j:Nat}{o:Oper}{Q:Exit->Act->World->Prop}
  (aC:∀(i j:Nat) (c ae:Oper) (d:Nat),ops.toList[i]?=some c->ops.toList[j]?=some ae->c.dst=some d->ae.dst=some d->i=j)
  (X:∀ o∈ops.toList,∀ d,o.dst=some d->d<st.n)
  (T:∀ t f,(t,f)∈L->∃(i:Nat) (c:Oper),ops.toList[i]?=some c/\c.dst=some t)
  (aj:∀(i:Nat) (c:Oper) (d:Nat),ops.toList[i]?=some c->c.dst=some d->∃ f,W3 L d=some f)
  (Y:ops[j]?=some o) (U:∀(j:Nat) (o:Oper),ops.toList[j]?=some o->v0v P st h L o) (al:∀ t,Operand.tmp t∈o.op.operands->∀(i:Nat) (c:Oper),ops.toList[i]?=some c->c.dst=some t->listed.getD i false=true)
  (J:q0u P h0 w0 ops st h L listed a w):o.wp P a w (q0u P h0 w0 ops st h L (listed.setIfInBounds j true)) Q:=by
 obtain⟨be,oe,H,h',ac,s,R⟩:=J
 have Z:ops.toList[j]?=some o:=by simpa using Y
 have W:o∈ops.toList:=List.mem_of_getElem? Z
 obtain⟨aE,f,hf,aa⟩:=U j o Z
 have ax:∀ d F,W3 L d=some (.ef F)->∀ v l k,Sub l k->F v l->F v k:=λd F G=>by
  obtain⟨i,c,l,k⟩:=T d _ (R0c G)
  obtain⟨_,aB,am,aw⟩:=U i c l
  rw[am d k]at G
  cases G
  exact aw.1
 have ag:∀ t,Operand.tmp t∈o.op.operands->(∀ f,W3 L t=some f->U06 st be oe h' f (a.tmps.getD t undef))/\(W3 L t=none->C3 st be oe (O3 st.fr t) (a.tmps.getD t undef)):=λt K=>by
  refine⟨λf hf=>?_,λar=>?_⟩
  ·obtain⟨i,c,l,k⟩:=T t f (R0c hf)
   exact R i c t f (by simpa using l) k (al t K i c l k) hf
  ·have g:=s.fr t
   have ap:O3 (K4 ops.toList st.fr) t=O3 st.fr t:=m02 λaA au C=>by
    obtain⟨i,J,e⟩:=List.getElem_of_mem au
    obtain⟨f,hf⟩:=aj i aA t (by rw[List.getElem?_eq_getElem J,e]) C
    rw[ar]at hf;cases hf
   rw[←ap]
   exact C3.fr (st := { st with fr:=K4 ops.toList st.fr }) (fr:=st.fr) g
 have fin:∀ {fr:List (Nat×AV)} {z:Act} {y:World} {p:Hp} {be':Nat->Nat} {oe':Nat->Value} {q:Hp} {v:Value},Sub h' p->z=a.put o.dst v->Sim P h0 w0 be' oe' q { st with fr:=fr } p a y ->
   F7 { st with fr:=fr } be oe { st with fr:=fr } be' oe'->U06 st be' oe' p f v->q0u P h0 w0 ops st h L (listed.setIfInBounds j true) z y:=by
  intro fr z y p be' oe' q v ad B s' m M
  subst B
  have ah:F7 { st with fr:=K4 ops.toList st.fr } be oe { st with fr:=K4 ops.toList st.fr } be' oe':=⟨m.bl,m.be,m.sm⟩
  have ai:F7 st be oe st be' oe':=⟨m.bl,m.be,m.sm⟩
  have s1:Sim P h0 w0 be' oe' q { st with fr:=K4 ops.toList st.fr } p a y :=
   s'.refr (fr:=K4 ops.toList st.fr) λt=>C3.fr (st := { st with fr:=K4 ops.toList st.fr }) ((s.fr t).grow ah)
  have s2:Sim P h0 w0 be' oe' q { st with fr:=K4 ops.toList st.fr } p (a.put o.dst v) y:=by
   cases C:o.dst with
   |none=>exact s1
   |some d =>
    have ab:=s1.put (d:=d) (av := .dead) (v:=v) (X o W d C) trivial
    refine ab.refr (fr:=K4 ops.toList st.fr) λt=>?_
    have g:=ab.fr t
    grind[i4,n03]
  refine⟨be',oe',q,p,λb x ak=>ad b x (ac b x ak),s2,λi c d g l k S D=>?_⟩
  by_cases hij:j=i
  ·subst hij
   rw[Y]at l;cases l
   rw[hf d k]at D;cases D
   have ao:d<a.tmps.size:=by rw[s.siz];exact X o W d k
   have:(a.put o.dst v).tmps.getD d undef=v:=by
    rw[k]
    simp[Act.put,ao]
   rw[this]
   exact M
  ·have an:listed.getD i false=true:=by rw[getD_set_ne false hij]at S;exact S
   have aq:∀ A,o.dst=some A->A≠d:=λA aD e=>by
    grind
   have:(a.put o.dst v).tmps.getD d undef=a.tmps.getD d undef:=by
    cases C:o.dst with
    |none=>rfl
    |some A=>simp[Act.put,Array.getElem?_setIfInBounds_ne (aq A C)]
   rw[this]
   have af:=R i c d g l k an D
   cases g with
   |pu av=>exact C3.grow ai af
   |ef F=>exact ax d F D _ _ _ ad af
 cases f with
 |pu av =>
  obtain⟨fr,g,I⟩:=Z0s (h:=h') aa ag
  have s':Sim P h0 w0 be oe H { st with fr:=fr } h' a w:=s.refr (fr:=fr) λt=>C3.fr (g t)
  refine Oper.wp_mono (λz y N=>?_) (Q00 s' I)
  obtain⟨O,st',p,v,be',oe',q,⟨rfl,rfl,rfl⟩,B,s2,E,m⟩:=N
  exact fin (λ_ _ h=>h) B s2 m (C3.fr (st := { st with fr:=fr }) (fr:=st.fr) E)
 |ef F =>
  obtain⟨fr,I,g⟩:=S03 (acc:=[]) (be:=be) (oe:=oe) (val:=λt=>a.tmps.getD t undef) (λt=>trivial) (λt K=>ag t (by simpa using K)) (aa.2 h' ac)
  have s':Sim P h0 w0 be oe H { st with fr:=fr } h' a w:=s.refr (fr:=fr) λt=>C3.fr (g t)
  refine Oper.wp_mono (λz y N=>?_) (Q00 s' I)
  obtain⟨O,st',p,v,be',oe',q,V,B,s2,E,m⟩:=N
  cases O with
  |val u =>
   obtain⟨rfl,ay,az⟩:=V
   have M:v=u:=E
   subst M
   exact fin ay B s2 m az
  |_=>exact V.elim
theorem S0c{ops:Array Oper}(b:∀(k:Nat) (o:Oper),ops.toList[k]?=some o->∀ e∈o.after,Region.binds .any e=true->e.on<k){listed:Array Bool}(h:listed.size=ops.size)(g:Region.ready .any ops listed = []):
  ∀ j,j<ops.size->listed.getD j false=true:=by
 intro j
 induction j using Nat.strongRecOn with
 |_ j i =>
  intro a
  cases hl:listed.getD j false with
  |true=>rfl
  |false =>
   have f:j<listed.size:=by omega
   have:j∈Region.ready .any ops listed:=by
    refine mem_ready.2 ⟨?_,ops[j],by simp[a],λe d c=>?_⟩
    all_goals grind
   grind
theorem count_set{listed:Array Bool}{j:Nat}(a:listed.getD j true=false):(listed.setIfInBounds j true).toList.count true=listed.toList.count true+1:=by
 have b:j<listed.size:=by
  grind
 simp_all[Array.toList_setIfInBounds,List.count_set]
end
theorem a0t{P:Program}{t:TypeId}{cs:List c6}{off:Nat}{av:AV}(h:T0e P t cs off=some av):P05 P t cs off λa=>a=av:=by
 grind[T0e,P05,N0e,d6]
section
variable {P:Program} {h0:Hp} {w0:World} {be:Nat->Nat} {oe:Nat->Value} {H:Hp} {h:Hp} {a:Act} {w:World}
theorem m07{L:List (Nat×H6)}{st stX:St}{x:Operand}
  (b:∀ t,x = .tmp t->(∀ av,W3 L t=some (.pu av)->C3 stX be oe av (a.tmps.getD t undef))/\(W3 L t=none->C3 stX be oe (O3 st.fr t) (a.tmps.getD t undef))):C3 stX be oe (S06 L st x) (a.eval x):=by
 cases x with
 |tmp t =>
  obtain⟨c,d⟩:=b t rfl
  show C3 stX be oe (S06 L st (.tmp t)) (a.tmps.getD t undef)
  simp only[S06]
  split
  ·grind
  ·trivial
  grind
 |const v=>exact rfl
 |global g=>trivial
 |func f=>trivial
theorem V07{L:List (Nat×H6)}{st stX:St}:∀(l:List Operand) {vs:List (Nat×Value)},(∀ t,Operand.tmp t∈l->C3 stX be oe (S06 L st (.tmp t)) (a.tmps.getD t undef))->J0d L st l=some vs ->
  (∀ p∈vs,p.2=a.eval (.tmp p.1))/\(∀ x∈l,(∃ t v,x = .tmp t/\(t,v)∈vs)∨(∀ m,rho m x=a.eval x))
 | [],vs,G,h=>by cases h;simp
 | .tmp t::r,vs,G,h=>by
  simp only[J0d]at h
  split at h
  ·rename_i v k
   split at h
   ·rename_i n j
    cases h
    obtain⟨c,e⟩:=V07 r (λu d=>G u (mC _ d)) j
    have g:=G t mS
    rw[k]at g
    have g:a.tmps.getD t undef=v:=g
    refine⟨λp i=>?_,λx b=>?_⟩
    ·rcases List.mem_cons.1 i with rfl|i
     ·exact g.symm
     ·exact c p i
    grind
   ·cases h
  ·cases h
 | .global _::r,vs,G,h=>by cases h
 | .const v::r,vs,G,h=>by
  obtain⟨c,e⟩:=V07 r (vs:=vs) (λu d=>G u (mC _ d)) h
  exact⟨c,λx b=>by
   rcases List.mem_cons.1 b with rfl|b
   ·exact .inr λ_=>rfl
   ·exact e x b⟩
 | .func f::r,vs,G,h=>by
  obtain⟨c,e⟩:=V07 r (vs:=vs) (λu d=>G u (mC _ d)) h
  exact⟨c,λx b=>by
   rcases List.mem_cons.1 b with rfl|b
   ·exact .inr λ_=>rfl
   ·exact e x b⟩
theorem x0k{L:List (Nat×H6)}{st stX:St}{o:Oper}{av:AV}(b:z0m P L o st=some av)
  (j:∀ t,Operand.tmp t∈o.op.operands->(∀ av,W3 L t=some (.pu av)->C3 stX be oe av (a.tmps.getD t undef))/\(W3 L t=none->C3 stX be oe (O3 st.fr t) (a.tmps.getD t undef))) :
  ∃ v,(execOp a.eval o).run P w = .ok (.value v) w/\C3 stX be oe av v:=by
 unfold z0m at b
 split at b
 ·rename_i vs f g
  obtain⟨d,e⟩:=V07 (a:=a) (stX:=stX) (be:=be) (oe:=oe) _ (λt h=>m07 (x := .tmp t) λu i=>by grind) g
  split at b
  ·cases b
  ·split at b
   ·rename_i v c
    cases b
    rw[p0b,B09 f d e]at c
    exact⟨v,W0n _ c w,rfl⟩
   ·cases b
 ·cases b
theorem F06{L b:List (Nat×H6)}{st:St}:∀ {l:List Operand},(∀ t,Operand.tmp t∈l->W3 L t=W3 b t)->J0d L st l=J0d b st l
 | [],h=>rfl
 | .tmp t::r,h=>by simp only[J0d,S06,h t mS,F06 λu a=>h u (mC _ a)]
 | .global _::r,h=>rfl
 | .const _::r,h=>F06 (l:=r) λu a=>h u (mC _ a)
 | .func _::r,h=>F06 (l:=r) λu a=>h u (mC _ a)
theorem l0f{L:List (Nat×H6)}{st:St}{o:Oper}{t:TypeId}{x:Operand}{i off:Nat}(b:o.op = .load t x)(a:S06 L st x = .box i off):∀ {l:List Oper},o∈l->i∈B00 L st l
 | [],h=>nomatch h
 |y::r,h=>by
  rcases List.mem_cons.1 h with rfl|h
  ·grind[B00,List.mem_cons_self]
  ·have:=l0f b a h
   grind[B00,mC]
theorem A0h{bx a:List BSt}{i:Nat}:∀ {l:List Nat},e0a bx l=e0a a l->i∈l->nth bx i=nth a i
 | [],_,h=>nomatch h
 |y::r,e,h=>by
  simp only[e0a,List.cons.injEq]at e
  rcases List.mem_cons.1 h with rfl|h
  ·exact e.1
  ·exact A0h e.2 h
theorem K0p{L:List (Nat×H6)}{st stX:St}{o:Oper}{av:AV}(s:Sim P h0 w0 be oe H stX h a w)(E:∀ t x i off,o.op = .load t x->S06 L st x = .box i off->nth stX.bx i=nth st.bx i)(c:d0a P L o st=some av)
  (f:∀ t,Operand.tmp t∈o.op.operands->(∀ av,W3 L t=some (.pu av)->C3 stX be oe av (a.tmps.getD t undef))/\(W3 L t=none->C3 stX be oe (O3 st.fr t) (a.tmps.getD t undef))) :
  ∃ v,(execOp a.eval o).run P w = .ok (.value v) w/\C3 stX be oe av v:=by
 unfold d0a at c
 split at c
 ·rename_i x d
  split at c
  ·cases c
   simp_all[m07,Op.operands,execOp]
  ·cases c
 ·rename_i x d
  split at c
  ·cases c
   simp_all[m07,Op.operands,execOp]
  ·cases c
 ·rename_i t x d
  have g:=m07 (L:=L) (st:=st) (stX:=stX) (be:=be) (oe:=oe) (a:=a) (x:=x) λt e=>f t (by rw[d];simp[Op.operands,e])
  split at c
  ·rename_i i off l
   rw[l]at g
   split at c
   ·rename_i cs ty F
    split at c
    ·rename_i B q
     split at c
     ·cases c
      obtain⟨D,vs,n,p⟩:=s.box i cs ty (by grind)
      obtain⟨C,v,y,z,A⟩:=R.load_row (H:=H) (b:=be i) (o:=0) (be:=be) (a0t q) n (λj v u=>by simp[Hp.cell,p,u])
      subst y
      exact⟨v,R.run_of (R.exec_load d g.2 (by simpa using A)) w (S0q s),z⟩
     ·cases c
    ·cases c
   ·cases c
  ·cases c
 ·rename_i t x k d
  have g:=m07 (L:=L) (st:=st) (stX:=stX) (be:=be) (oe:=oe) (a:=a) (x:=x) λt e=>f t (by rw[d];simp[Op.operands,e])
  split at c
  ·rename_i i off m l e
   rw[l]at g
   cases c
   exact⟨ptr (be i) (off+m),R.run_of (R.exec_fieldAddr d e g.2) w (S0q s),g.1,rfl⟩
  ·cases c
 ·split at c
  ·exact x0k c f
  ·cases c
 ·split at c
  ·split at c
   ·exact x0k c f
   ·cases c
  ·cases c
 ·cases c
theorem U02{L:List (Nat×H6)}{st stX:St}{val:Nat->Value}{K:List (Nat×AV)->Prop}:∀ {l:List Operand} {acc:List (Nat×AV)},
  (∀ t,C3 stX be oe (O3 acc t) (val t))->(∀ t,Operand.tmp t∈l->(∀ av,W3 L t=some (.pu av)->C3 stX be oe av (val t))/\(W3 L t=none->C3 stX be oe (O3 st.fr t) (val t))) ->
  t05 L st.fr l acc K->∃ fr,K fr/\∀ t,C3 stX be oe (O3 fr t) (val t)
 | [],acc,c,b,a=>⟨acc,a,c⟩
 | .tmp t::r,acc,c,b,a=>by
  have f:∀ u,Operand.tmp u∈r->_:=λu d=>b u (mC _ d)
  have h:=b t mS
  have put:∀ av,C3 stX be oe av (val t)->∀ u,C3 stX be oe (O3 ((t,av)::acc) u) (val u):=λav g u=>by
   grind[i4]
  simp only[t05]at a
  split at a
  ·rename_i av e
   exact U02 (put av (h.1 _ e)) f a
  ·rename_i F e
   exact U02 (put .dead trivial) f a
  ·rename_i e
   exact U02 (put _ (h.2 e)) f a
 | .const v::r,acc,c,b,a=>U02 (l:=r) c (λu d=>b u (mC _ d)) a
 | .global v::r,acc,c,b,a=>U02 (l:=r) c (λu d=>b u (mC _ d)) a
 | .func v::r,acc,c,b,a=>U02 (l:=r) c (λu d=>b u (mC _ d)) a
theorem T0c:∀(L:List (Nat×H6)) (fr:List (Nat×AV)) (t:Nat),O3 (h0k L fr) t=match W3 L t with
  |some (.pu av)=>av
  |some (.ef _) => .dead
  |none=>O3 fr t
 | [],fr,t=>rfl
 |(d,.pu av)::r,fr,t=>by
  simp only[h0k]
  rw[i4,G01]
  split
  ·rfl
  ·exact T0c r fr t
 |(d,.ef F)::r,fr,t=>by
  simp only[h0k]
  rw[i4,G01]
  split
  ·rfl
  ·exact T0c r fr t
theorem y0k{L a:List (Nat×H6)}{o:Oper}{st:St}(h:∀ t,Operand.tmp t∈o.op.operands->W3 L t=W3 a t):d0a P L o st=d0a P a o st:=by
 have d:∀ x:Operand,(∀ t,x = .tmp t->Operand.tmp t∈o.op.operands)->S06 L st x=S06 a st x:=λx c=>by
  cases x with
  |tmp t=>grind[S06]
  |_=>rfl
 have e:z0m P L o st=z0m P a o st:=by
  unfold z0m
  rw[F06 (l:=o.op.operands.toList) λt b=>h t (by simpa using b)]
 unfold d0a
 split
 ·rename_i x c;rw[d x λt b=>by grind[Op.operands]]
 ·rename_i x c;rw[d x λt b=>by grind[Op.operands]]
 ·rename_i t x c;rw[d x λt b=>by grind[Op.operands]]
 all_goals grind[Op.operands,List.mem_cons_self,Call.operands]
theorem V02{L c:List (Nat×H6)}{f:List (Nat×AV)}{K:List (Nat×AV)->Prop}:∀ {l:List Operand} {acc:List (Nat×AV)},(∀ t,Operand.tmp t∈l->W3 L t=W3 c t)->t05 L f l acc K->t05 c f l acc K
 | [],acc,a,h=>h
 | .tmp t::r,acc,a,h=>by
  have e:=a t mS
  have d:∀ u,Operand.tmp u∈r->W3 L u=W3 c u:=λu b=>a u (mC _ b)
  simp only[t05]at h ⊢
  rw[←e]
  split at h
  ·exact V02 d h
  ·exact V02 d h
  ·exact V02 d h
 | .const _::r,acc,a,h=>V02 (l:=r) (λu b=>a u (mC _ b)) h
 | .func _::r,acc,a,h=>V02 (l:=r) (λu b=>a u (mC _ b)) h
 | .global _::r,acc,a,h=>V02 (l:=r) (λu b=>a u (mC _ b)) h
structure G06 (P:Program) (st:St) (h:Hp) (ops:List Oper) (k:Nat) (L:List (Nat×H6)) (X E:List (Nat×Oper)):Prop where
 key:∀ t f,W3 L t=some f->∃(i:Nat) (oi:Oper),i<k/\ops[i]?=some oi/\oi.dst=some t
 cov:∀(i:Nat) (oi:Oper) (d:Nat),i<k->ops[i]?=some oi->oi.dst=some d->∃ f,W3 L d=some f
 each:∀(j:Nat) (o:Oper),j<k->ops[j]?=some o->o.guard=none/\((j,o)∈E∨((∀ p∈E,p.1≠j)/\∃ av,(d0a P L o st=some av∨((j,o)∈X/\i0k P st h L o av))/\∀ d,o.dst=some d->W3 L d=some (.pu av)))
 eff:∀ p∈E,p.1<k/\ops[p.1]?=some p.2/\∀ d,p.2.dst=some d->∃ F,W3 L d=some (.ef F)
 nd:(E.map λp=>p.1).Nodup
 xx:∀ p∈X,p.1<k/\ops[p.1]?=some p.2
theorem G06.add{st:St}{h:Hp}{ops:List Oper}{k:Nat}{L:List (Nat×H6)}{X w E A:List (Nat×Oper)}{o:Oper}{f:H6}
  (W:∀(i j:Nat) (m b:Oper) (d:Nat),ops[i]?=some m->ops[j]?=some b->m.dst=some d->b.dst=some d->i=j)
  (Y:∀(j:Nat) (o:Oper) (t i:Nat) (m:Oper),ops[j]?=some o->Operand.tmp t∈o.op.operands->ops[i]?=some m->m.dst=some t->i<j)
  (s:G06 P st h ops k L X E) (K:ops[k]?=some o) (B:o.guard=none) (N:w=X∨w=X ++ [(k,o)])
  (I:(A=E/\∃ av,f = .pu av/\(d0a P L o st=some av∨((k,o)∈w/\i0k P st h L o av)))∨(A=E ++ [(k,o)]/\∃ F,f = .ef F)):G06 P st h ops (k+1) (L07 o.dst f L) w A:=by
 have no:∀ d,o.dst=some d->W3 L d=none:=λd c=>by
  cases h:W3 L d with
  |none=>rfl
  |some g =>
   obtain⟨i,m,u,q,H⟩:=s.key d g h
   grind
 have up:∀ t g,W3 L t=some g->W3 (L07 o.dst f L) t=some g:=λt g l=>by
  cases c:o.dst with
  |none=>exact l
  |some d =>
   show W3 ((d,f)::L) t=some g
   grind[G01]
 have U:∀ d,o.dst=some d->W3 (L07 o.dst f L) d=some f:=λd c=>by
  rw[c];show W3 ((d,f)::L) d=some f;rw[G01,if_pos rfl]
 have dn:∀ t g,W3 (L07 o.dst f L) t=some g->W3 L t=some g∨(o.dst=some t/\g=f):=λt g l=>by
  cases c:o.dst with
  |none=>rw[c]at l;exact .inl l
  |some d =>
   rw[c]at l
   change W3 ((d,f)::L) t=some g at l
   grind[G01]
 have V:∀(j:Nat) (b:Oper),j<=k->ops[j]?=some b->d0a P L b st=d0a P (L07 o.dst f L) b st:=λj b J v=>y0k λt l=>by
  cases c:o.dst with
  |none=>rfl
  |some d =>
   show W3 L t=W3 ((d,f)::L) t
   rw[G01]
   grind
 have G:∀(j:Nat) (b:Oper) (av:AV),j<=k->ops[j]?=some b->i0k P st h L b av->i0k P st h (L07 o.dst f L) b av:=λj b av J v C=>by
  obtain⟨n,fr,bx,ow⟩:=st
  intro h' O
  refine V02 (λt l=>?_) (C h' O)
  cases c:o.dst with
  |none=>rfl
  |some d =>
   show W3 L t=W3 ((d,f)::L) t
   rw[G01]
   split
   all_goals grind
 have R:∀ p,p∈X->p∈w:=λp a=>by
  grind
 refine⟨λt g l=>?_,λi m d Z u q=>?_,λj b J v=>?_,λp a=>?_,?_,λp a=>?_⟩
 rotate_left 5
 ·rcases N with rfl|rfl
  ·obtain⟨u,q⟩:=s.xx p a
   grind
  ·rcases List.mem_append.1 a with a|a
   ·obtain⟨u,q⟩:=s.xx p a
    grind
   grind
 rotate_left 4
 ·rcases I with⟨rfl,_⟩|⟨rfl,_⟩
  ·exact s.nd
  ·rw[List.map_append,List.nodup_append]
   refine⟨s.nd,by simp,λx C y Q e=>?_⟩
   obtain⟨p,a,rfl⟩:=List.mem_map.1 C
   have:=(s.eff p a).1
   simp at Q
   omega
 ·rcases dn t g l with h|⟨h,_⟩
  ·obtain⟨i,m,u,q⟩:=s.key t g h
   exact⟨i,m,by omega,q⟩
  grind
 ·rcases Nat.lt_or_ge i k with h|h
  ·obtain⟨g,B⟩:=s.cov i m d h u q
   exact⟨g,up d g B⟩
  grind
 ·rcases Nat.lt_or_ge j k with h|h
  ·obtain⟨S,D⟩:=s.each j b h v
   refine⟨S,?_⟩
   rcases D with D|⟨D,av,z,T⟩
   ·grind
   ·right
    refine⟨λp a=>?_,av,z.imp (λz=>by grind) (λz=>⟨R _ z.1,G j b av (by omega) v z.2⟩),λd c=>up d _ (T d c)⟩
    grind
  ·have:j=k:=by omega
   subst this
   rw[K]at v;cases v
   refine⟨B,?_⟩
   rcases I with⟨rfl,av,rfl,a⟩|⟨rfl,F,rfl⟩
   ·right
    exact⟨λp a=>by have:=(s.eff p a).1;omega,av,a.imp (λa=>by grind) (λa=>⟨a.1,G _ o av (Nat.le_refl _) K a.2⟩),U⟩
   grind
 ·have aa:p∈E->p.1<k+1/\ops[p.1]?=some p.2/\∀ d,p.2.dst=some d->∃ F,W3 (L07 o.dst f L) d=some (.ef F):=λa=>by
   obtain⟨u,q,H⟩:=s.eff p a
   exact⟨by omega,q,λd c=>by obtain⟨F,M⟩:=H d c;exact⟨F,up d _ M⟩⟩
  grind
theorem H06{ops:List Oper}{st:St}{h:Hp}{K:List (Nat×H6)->List (Nat×Oper)->List (Nat×Oper)->Prop}
  (c:∀(i j:Nat) (b z:Oper) (d:Nat),ops[i]?=some b->ops[j]?=some z->b.dst=some d->z.dst=some d->i=j)
  (e:∀(j:Nat) (o:Oper) (t i:Nat) (b:Oper),ops[j]?=some o->Operand.tmp t∈o.op.operands->ops[i]?=some b->b.dst=some t->i<j) :
  ∀(l:List Oper) (k:Nat) (L:List (Nat×H6)) (X E:List (Nat×Oper)),(∀ j,l[j]?=ops[k+j]?)->G06 P st h ops k L X E->G04 P st h l k L X E K->∃ w x v,K w x v/\G06 P st h ops ops.length w x v
 | [],k,L,X,E,g,s,a=>by
  refine⟨L,X,E,a,?_⟩
  have G:ops.length<=k:=by
   have:=g 0
   simpa using this
  have lt:∀(i:Nat) (b:Oper),ops[i]?=some b->i<ops.length:=λi b h=>(List.getElem?_eq_some_iff.1 h).1
  exact⟨λt f h=>by obtain⟨i,b,_,y,A⟩:=s.key t f h;grind,λi b d D=>s.cov i b d (by omega),λj o F=>s.each j o (by omega),
   λp u=>by obtain⟨_,y,A⟩:=s.eff p u;grind,s.nd,λp u=>by obtain⟨_,y⟩:=s.xx p u;grind⟩
 |o::l,k,L,X,E,g,s,a=>by
  have q:ops[k]?=some o:=by simpa using (g 0).symm
  have n:∀ j,l[j]?=ops[k+1+j]?:=λj=>by have:=g (j+1);grind
  simp only[G04]at a
  split at a
  ·exact a.elim
  ·rename_i m
   split at a
   ·rename_i av B
    rw[W03]at a
    exact H06 c e l (k+1) _ _ _ n (s.add c e q m (.inl rfl) (.inl ⟨rfl,av,rfl,.inl B⟩)) a
   ·rcases a with⟨av,C,a⟩|a
    ·rw[W03]at a
     exact H06 c e l (k+1) _ _ _ n (s.add c e q m (.inr rfl) (.inl ⟨rfl,av,rfl,.inr ⟨by simp,C⟩⟩)) a
    ·exact H06 c e l (k+1) _ _ _ n (s.add c e q m (.inl rfl) (.inr ⟨rfl,_,rfl⟩)) a
theorem m0f:∀(r:List (Nat×Oper)) (q:Nat×Oper),T05 r=true->q∈r.tail->∃ p∈r,Q8 p.1 q.2=true
 | [],q,_,h=>by cases h
 | [x],q,_,h=>by cases h
 |(i,o)::(j,b)::r,q,a,h=>by
  simp only[T05,Bool.and_eq_true]at a
  rcases List.mem_cons.1 h with rfl|h
  ·simp_all
  ·obtain⟨p,d,c⟩:=m0f ((j,b)::r) q a.2 h
   grind
theorem m04:∀(d r:List (Nat×Oper)),T05 (d++r)=true->T05 r=true
 | [],r,h=>h
 | [x],[],h=>rfl
 | [(i,o)],(j,a)::r,h=>by simp_all[List.singleton_append,T05,Bool.and_eq_true]
 |(i,o)::(j,a)::d,r,h=>by
  simp only[List.cons_append,T05,Bool.and_eq_true]at h
  exact m04 ((j,a)::d) r h.2
theorem z0k{k:Nat}:∀ {r:List Nat},inK k r=true->k∈r
 |x::r,h=>by
  simp only[inK,Bool.or_eq_true]at h
  rw[List.mem_cons]
  exact h.imp (λe=>Nat.eq_of_beq_eq_true e) z0k
theorem f06{k:Nat}:∀ {l:List (Nat×Oper)},k∈V09 l->∃ p∈l,p.1=k
 |x::r,h=>by
  rcases List.mem_cons.1 h with h|h
  ·exact⟨x,mS,h.symm⟩
  ·obtain⟨p,a,b⟩:=f06 h
   exact⟨p,mC _ a,b⟩
theorem o0a{es:List Nat}{i:Nat}{o:Oper}:∀ {N:Nat},P08 es N i o=true->∀ k,k<N->k≠i->(∃ e∈o.after,Region.binds .any e=true/\e.on=k)∨k∈es
 |0,_,k,b,_=>by omega
 |N+1,h,k,b,a=>by
  simp only[P08,Bool.and_eq_true,Bool.or_eq_true]at h
  by_cases e:k=N
  ·subst e
   rcases h.1 with(g|g)|g
   ·exact absurd (Nat.eq_of_beq_eq_true g) a
   ·exact .inl (K7 g)
   ·exact .inr (z0k g)
  ·exact o0a h.2 k (by omega) a
theorem p0a{i:Nat}{o:Oper}:∀ {N:Nat},N08 N i o=true->∀ k,k<N->k≠i->∃ e∈o.after,Region.binds .any e=true/\e.on=k
 |0,_,k,a,_=>by omega
 |N+1,h,k,a,b=>by
  simp only[N08,Bool.and_eq_true,Bool.or_eq_true]at h
  by_cases e:k=N
  ·grind[absurd,Nat.eq_of_beq_eq_true,K7]
  ·exact p0a h.2 k (by omega) b
def I0m(P:Program)(h0:Hp)(w0:World)(ops:Array Oper)(i:List Nat)(n:Nat)(fr:List (Nat×AV))(f:List BSt)(g:List Own)(l:Hp)(c:Nat)(F:List (Nat×Oper))(b:List (Nat×H6))(EV:List (Nat×Oper)->List (Nat×Oper)->List (Nat×H6)->St->Hp->Prop)(listed:Array Bool)(a:Act)(w:World):Prop :=
 ∃(dn r:List (Nat×Oper)) (L:List (Nat×H6)) (bx:List BSt) (ow:List Own) (h:Hp) (be:Nat->Nat) (oe:Nat->Value) (H:Hp),F=dn++r/\(dn.length<=c->ow=g/\Sub l h/\(bx=f∨∀ k,k<ops.size->listed.getD k false=true∨k∈i))/\(∀(j:Nat) (o:Oper),ops[j]?=some o->listed.getD j false=true->∀ e∈o.after,Region.binds .any e=true->listed.getD e.on false=true)/\(∀ p∈r,listed.getD p.1 true=false)/\(∀ p∈dn,listed.getD p.1 false=true) /\
  (e0a bx (B00 b ⟨n,fr,f,g⟩ ops.toList)=e0a f (B00 b ⟨n,fr,f,g⟩ ops.toList)∨∀ k,k<ops.size->listed.getD k false=true∨k∈i)/\Sim P h0 w0 be oe H ⟨n,K4 ops.toList fr,bx,ow⟩ h a w/\EV dn r L ⟨n,fr,bx,ow⟩ h /\
  (∀ t,(W3 b t=none->W3 L t=none)/\∀ av,W3 b t=some (.pu av)->W3 L t=some (.pu av)) /\
  ∀(j:Nat) (o:Oper) (d:Nat),ops[j]?=some o->o.dst=some d->listed.getD j false=true->∃ av,W3 L d=some (.pu av)/\C3 ⟨n,fr,bx,ow⟩ be oe av (a.tmps.getD d undef)
abbrev L0p(P:Program)(h0:Hp)(w0:World)(ops:Array Oper)(b:List Nat)(n:Nat)(fr:List (Nat×AV))(e:List BSt)(f:List Own)(g:Hp)(c:Nat)(E:List (Nat×Oper))(d:List (Nat×H6))(K:St->Hp->Prop)(listed:Array Bool)(a:Act)(w:World):Prop :=
 I0m P h0 w0 ops b n fr e f g c E d (λdn r L st h=>evC (B00 d ⟨n,fr,e,f⟩ ops.toList) (ops.size,b) P (c-dn.length) r L st h K) listed a w
theorem r0u{ops:Array Oper}{Q:Exit->Act->World->Prop}{Inv:Array Bool->Act->World->Prop}(i:∀(k:Nat) (o:Oper),ops.toList[k]?=some o->∀ e∈o.after,Region.binds .any e=true->e.on<k)
  (n:∀ listed a w j o,listed.size=ops.size->listed.getD j true=false->ops[j]?=some o->(∀ e∈o.after,Region.binds .any e=true->listed.getD e.on false=true)->Inv listed a w->o.guard=none/\o.wp P a w (Inv (listed.setIfInBounds j true)) Q)
  (g:∀ listed a w,(∀ j,j<ops.size->listed.getD j false=true)->Inv listed a w->Q .normal a w) :
  ∀(fuel:Nat) (listed:Array Bool) (a:Act) (w:World),listed.size=ops.size->listed.toList.count true+fuel=ops.size->Inv listed a w->wpAny P .any ops Q fuel listed a w
 |0,listed,a,w,f,t,d=>by
  have s:∀ j,j<ops.size->listed.getD j false=true:=λj l=>by
   have c:∀ b∈listed.toList,true=b:=List.count_eq_length.1 (by grind)
   have x:j<listed.size:=by omega
   have:=c listed[j] (by simp)
   simp[x,←this]
  refine⟨?_,g listed a w s d⟩
  cases m:Region.ready .any ops listed with
  |nil=>rfl
  |cons j r =>
   grind[Region.ready,List.mem_cons_self,mem_ready,Array.getElem?_eq_some_iff]
 |fuel+1,listed,a,w,f,t,d=>by
  refine⟨λm=>g listed a w (S0c i f m) d,λj l=>?_⟩
  obtain⟨c,o,h,q⟩:=mem_ready.1 l
  unfold wpOp
  simp only[h]
  obtain⟨u,z⟩:=n listed a w j o f c h q d
  have y:Region.wanted o (yielded ops a.tmps)=true:=by unfold Region.wanted;rw[u]
  rw[if_pos y]
  exact .inl (Oper.wp_mono (λp A v=>r0u i n g fuel _ p A (by simpa using f) (by rw[count_set c];omega) v) z)
theorem w0b{ops:Array Oper}{listed:Array Bool}{X:List (Nat×Oper)}
  (f:∀(k:Nat) (o:Oper),ops[k]?=some o->listed.getD k false=true->∀ e∈o.after,Region.binds .any e=true->listed.getD e.on false=true)
  (p:∀ y∈X,ops[y.1]?=some y.2):∀(n i a:Nat) (q:Oper),ops[a]?=some q->listed.getD a false=true->Q0i X n i q=true->listed.getD i false=true
 |0,i,a,q,h,g,j=>by
  obtain⟨e,b,c,d⟩:=K7 j
  have:=f a q h g e b c
  rwa [d]at this
 |n+1,i,a,q,h,g,j=>by
  simp only[Q0i,Bool.or_eq_true,List.any_eq_true,Bool.and_eq_true]at j
  rcases j with l|⟨y,t,l,s⟩
  ·obtain⟨e,b,c,d⟩:=K7 l
   have:=f a q h g e b c
   rwa [d]at this
  ·obtain⟨e,b,c,d⟩:=K7 l
   have m:=f a q h g e b c
   rw[d]at m
   exact w0b f p n i y.1 y.2 (p y t) m s
theorem U0c{E:List (Nat×Oper)}{listed:Array Bool}{j:Nat}{o:Oper}(h:∀ e∈o.after,Region.binds .any e=true->listed.getD e.on false=true)
  (d:∀ dn r,E=dn++r->T05 r=true) {dn r:List (Nat×Oper)} (c:E=dn++r) (k:∀ p∈r,listed.getD p.1 true=false) (b:(j,o)∈r):∃ a,r=(j,o)::a:=by
 obtain⟨q,a,rfl⟩:∃ q a,r=q::a:=by
  cases r with
  |nil=>cases b
  |cons q a=>exact⟨q,a,rfl⟩
 rcases List.mem_cons.1 b with e|f
 ·grind
 ·exfalso
  obtain⟨p,i,g⟩:=m0f (q::a) (j,o) (d dn _ c) f
  grind[K7,Nat.lt_or_ge,Array.getElem?_eq_none]
theorem B0h{ops:Array Oper}{n:Nat}{fr:List (Nat×AV)}{Z:List BSt}{ak:List Own}{aZ:Hp}{c:Nat}{M:List Nat}{X E F:List (Nat×Oper)}{ad:List (Nat×H6)}{EV:List (Nat×Oper)->List (Nat×Oper)->List (Nat×H6)->St->Hp->Prop}{Q:Exit->Act->World->Prop}{listed:Array Bool}{j:Nat}{o:Oper}
  (bb:∀(i j:Nat) (m br:Oper) (d:Nat),ops.toList[i]?=some m->ops.toList[j]?=some br->m.dst=some d->br.dst=some d->i=j)
  (bj:∀ o∈ops.toList,∀ d,o.dst=some d->d<n) (ap:G06 P ⟨n,fr,Z,ak⟩ aZ ops.toList ops.toList.length ad X E) (bA:∀ k∈M,∃ p∈E,p.1=k) (aS:∀ x∈F,x∈E) (bz:(j,o)∈E->(j,o)∈F) (bB:(F.map λp=>p.1).Nodup)
  (bV:∀ dn r,F=dn++r->(∀ p∈dn,listed.getD p.1 false=true)->(∀ p∈r,listed.getD p.1 true=false)->(j,o)∈r->∃ ac,r=(j,o)::ac)
  (aX:∀ dn ac L bx ow h,F=dn++(j,o)::ac->(∀ p∈dn,listed.getD p.1 false=true)->EV dn ((j,o)::ac) L ⟨n,fr,bx,ow⟩ h->t05 L fr o.op.operands.toList [] λV=>Z8 P o ⟨n,V,bx,ow⟩ h λav st' h'=>match st' with
   |⟨_,_,C,I⟩=>H0c (c-dn.length) ow I h h'/\s0h (c-dn.length) (h0b (ops.size,M) j o) (B00 ad ⟨n,fr,Z,ak⟩ ops.toList) bx C/\l02 av λav=>a9 C λC=>a9 I λI=>EV (dn ++ [(j,o)]) ac (L07 o.dst (.pu av) L) ⟨n,fr,C,I⟩ h')
  (aW:V0e X (X++E) (F.drop c)=true)
  (aa:listed.getD j true=false) (aC:ops[j]?=some o) (b1:listed.size=ops.size)
  (bh:∀ t,Operand.tmp t∈o.op.operands->∀(i:Nat) (m:Oper),ops.toList[i]?=some m->m.dst=some t->listed.getD i false=true)
  (bi:∀ e∈o.after,Region.binds .any e=true->listed.getD e.on false=true)
  (aY:I0m P h0 w0 ops M n fr Z ak aZ c F ad EV listed a w):o.guard=none/\o.wp P a w (I0m P h0 w0 ops M n fr Z ak aZ c F ad EV (listed.setIfInBounds j true)) Q:=by
 obtain⟨dn,r,L,bx,ow,h',be,oe,H,O,aw,bg,ao,ae,am,s,af,R,aq⟩:=aY
 have aD:ops.toList[j]?=some o:=by simpa using aC
 have aL:o∈ops.toList:=List.mem_of_getElem? aD
 have aA:j<ops.toList.length:=(List.getElem?_eq_some_iff.1 aD).1
 have ay:j<listed.size:=by simpa [b1] using aA
 have a1:(∀ p∈E,p.1≠j) -> ¬ ∀ k,k<ops.size->listed.getD k false=true∨k∈M:=λbL e=>by
  rcases e j (by simpa using aA)with l|l
  ·simp[ay]at l aa
   rw[l]at aa;cases aa
  ·obtain⟨p,z,G⟩:=bA j l
   exact bL p z G
 have up:(∀ k,k<ops.size->listed.getD k false=true∨k∈M)->∀ k,k<ops.size->(listed.setIfInBounds j true).getD k false=true∨k∈M:=λe k an=>(e k an).imp (λh=>getD_set_true h) id
 obtain⟨bI,bP⟩:=ap.each j o aA aD
 refine⟨bI,?_⟩
 have bt:∀ t,W3 L t≠none->∃(i:Nat) (m:Oper),ops.toList[i]?=some m/\m.dst=some t:=λt A=>by
  cases h0':W3 ad t with
  |none=>exact absurd ((R t).1 h0') A
  |some f=>obtain⟨i,m,_,u,S⟩:=ap.key t f h0';exact⟨i,m,u,S⟩
 have frame:∀ t,(∀ aF∈ops.toList,aF.dst≠some t)->C3 ⟨n,fr,bx,ow⟩ be oe (O3 fr t) (a.tmps.getD t undef):=λt A=>by
  have g:=s.fr t
  change C3 _ be oe (O3 (K4 ops.toList fr) t) _ at g
  rw[m02 A]at g
  exact C3.fr (st:=⟨n,K4 ops.toList fr,bx,ow⟩) (fr:=fr) g
 have aG:∀ t,Operand.tmp t∈o.op.operands->(∀ av,W3 L t=some (.pu av)->C3 ⟨n,fr,bx,ow⟩ be oe av (a.tmps.getD t undef))/\(W3 L t=none->C3 ⟨n,fr,bx,ow⟩ be oe (O3 fr t) (a.tmps.getD t undef)):=λt A=>by
  refine⟨λav bd=>?_,λbU=>frame t λaF bW J=>?_⟩
  ·obtain⟨i,m,l,u⟩:=bt t (by rw[bd];simp)
   obtain⟨N,D,G⟩:=aq i m t (by simpa using l) u (bh t A i m l u)
   rw[bd]at D;cases D
   exact G
  ·obtain⟨i,aY,e⟩:=List.getElem_of_mem bW
   have l:ops.toList[i]?=some aF:=by rw[List.getElem?_eq_getElem aY,e]
   obtain⟨N,D,_⟩:=aq i aF t (by simpa using l) J (bh t A i aF l J)
   rw[bU]at D;cases D
 have ab:∀ i,i≠j->∀ d,(listed.setIfInBounds j true).getD i d=listed.getD i d:=λi B d=>getD_set_ne d (Ne.symm B)
 have a2:∀ {C:List BSt} {I:List Own} {W:Hp} {be':Nat->Nat} {oe':Nat->Value} {U:Hp} {v:Value} {al:World},Sim P h0 w0 be' oe' U ⟨n,K4 ops.toList fr,C,I⟩ W a al->Sim P h0 w0 be' oe' U ⟨n,K4 ops.toList fr,C,I⟩ W (a.put o.dst v) al:=by
  intro C I W be' oe' U v al s1
  cases J:o.dst with
  |none=>exact s1
  |some d =>
   have z:=s1.put (d:=d) (av := .dead) (v:=v) (bj o aL d J) trivial
   refine z.refr (fr:=K4 ops.toList fr) λt=>?_
   have g:=z.fr t
   change C3 _ _ _ (O3 ((d,.dead)::K4 ops.toList fr) t) _ at g
   rw[i4]at g
   split at g
   ·rename_i e
    subst e
    rw[n03 aL J]
    trivial
   ·exact g
 have a3:∀(v:Value) (i:Nat) (m:Oper) (d:Nat),ops[i]?=some m->m.dst=some d->i≠j->(a.put o.dst v).tmps.getD d undef=a.tmps.getD d undef:=λv i m d l u B=>by
  cases J:o.dst with
  |none=>rfl
  |some a5 =>
   have ah:a5≠d:=λe=>by subst e;exact B (bb i j m o a5 (by simpa using l) aD u J)
   simp[Act.put,Array.getElem?_setIfInBounds_ne ah]
 have a4:∀(v:Value) (d:Nat),o.dst=some d->(a.put o.dst v).tmps.getD d undef=v:=λv d J=>by
  have aA:d<a.tmps.size:=by rw[s.siz];exact bj o aL d J
  rw[J]
  simp[Act.put,aA]
 have aU:∀(i:Nat) (m:Oper),ops[i]?=some m->(listed.setIfInBounds j true).getD i false=true->∀ e∈m.after,Region.binds .any e=true->(listed.setIfInBounds j true).getD e.on false=true:=λi m l u e aJ aK=>by
  by_cases B:i=j
  ·subst B
   rw[aC]at l;cases l
   exact getD_set_true (bi e aJ aK)
  ·rw[ab i B]at u
   exact getD_set_true (bg i m l u e aJ aK)
 rcases bP with ax|⟨aB,av,bX|⟨bK,bQ⟩,bc⟩
 ·
  have bN:(j,o)∈r:=by
   have ax:=bz ax
   rw[O]at ax
   rcases List.mem_append.1 ax with ai|ai
   ·have l:=ae _ ai
    simp[ay]at l aa
    rw[l]at aa;cases aa
   ·exact ai
  obtain⟨ac,rfl⟩:=bV dn r O ae ao bN
  have af:=aX dn ac L bx ow h' O ae af
  obtain⟨V,af,aN⟩:=U02 (acc:=[]) (st:=⟨n,fr,bx,ow⟩) (stX:=⟨n,fr,bx,ow⟩) (be:=be) (oe:=oe) (val:=λt=>a.tmps.getD t undef) (λt=>trivial) (λt A=>aG t (by simpa using A)) af
  have s':Sim P h0 w0 be oe H ⟨n,V,bx,ow⟩ h' a w:=s.refr (fr:=V) λt=>C3.fr (st:=⟨n,fr,bx,ow⟩) (fr:=K4 ops.toList fr) (aN t)
  refine Oper.wp_mono (λbu al ai=>?_) (Q00 s' af)
  obtain⟨N,⟨Y,ba,C,I⟩,W,v,be',oe',U,an,rfl,s2,aO,K⟩:=ai
  obtain⟨aV,T,an⟩:=an
  rw[W03,j03,j03]at an
  have bT:Y=n:=by
   have D:a.tmps.size=Y:=s2.siz
   have G:a.tmps.size=n:=s.siz
   omega
  subst bT
  have aP:F7 ⟨Y,fr,bx,ow⟩ be oe ⟨Y,fr,C,I⟩ be' oe':=⟨K.bl,K.be,K.sm⟩
  have aQ:F7 ⟨Y,K4 ops.toList fr,bx,ow⟩ be oe ⟨Y,K4 ops.toList fr,C,I⟩ be' oe':=⟨K.bl,K.be,K.sm⟩
  have a0:Sim P h0 w0 be' oe' U ⟨Y,K4 ops.toList fr,C,I⟩ W a al :=
   s2.refr (fr:=K4 ops.toList fr) λt=>C3.fr (st:=⟨Y,K4 ops.toList fr,C,I⟩) (fr:=ba) ((s.fr t).grow aQ)
  have b2:∀ d,o.dst=some d->W3 (L07 o.dst (.pu N) L) d=some (.pu N):=λd J=>by
   rw[J];show W3 ((d,.pu N)::L) d=_;rw[G01,if_pos rfl]
  have bm:∀ t,o.dst≠some t->W3 (L07 o.dst (.pu N) L) t=W3 L t:=λt A=>by
   cases J:o.dst with
   |none=>rfl
   |some d =>
    show W3 ((d,.pu N)::L) t=_
    rw[G01,if_neg λe=>A (by rw[J,e])]
  have bq:h0b (ops.size,M) j o=true->∀ k,k<ops.size->(listed.setIfInBounds j true).getD k false=true∨k∈M:=λag k bO=>by
   by_cases hkj:k=j
   ·subst hkj;left;simp[ay]
   ·rw[ab k hkj]
    rcases o0a (show P08 M ops.size j o=true from ag) k bO hkj with⟨e,aJ,aK,rfl⟩|ao
    ·exact .inl (bi e aJ aK)
    ·exact .inr ao
  refine⟨dn ++ [(j,o)],ac,L07 o.dst (.pu N) L,C,I,W,be',oe',U,by rw[O];simp,λaz=>(by
   have b4:dn.length<c:=by simp only[List.length_append,List.length_singleton]at az;omega
   obtain⟨D,G,au⟩:=aw (by omega)
   obtain⟨aM,bE⟩:∃ aM,c-dn.length=aM+1:=⟨c-dn.length-1,by omega⟩
   rw[bE]at aV T
   refine⟨aV.1.trans D,λb o bC=>aV.2 b o (G b o bC),?_⟩
   cases ag:h0b (ops.size,M) j o with
   |true=>exact .inr (bq ag)
   |false =>
    rw[ag]at T
    rcases au with au|au
    ·exact .inl (T.trans au)
    ·exact .inr (up au)),aU,λp z=>?_,λp z=>?_,?_,a2 a0,an,λt=>?_,λi m d l u S=>?_⟩
  ·have ah:p.1≠j:=λe=>by
    have bk:=bB
    rw[O,List.map_append,List.nodup_append]at bk
    have u:=bk.2.1
    rw[List.map_cons,List.nodup_cons]at u
    exact u.1 (List.mem_map.2 ⟨p,z,e⟩)
   rw[ab _ ah]
   exact ao p (mC _ z)
  ·rcases List.mem_append.1 z with z|z
   ·exact getD_set_true (ae p z)
   ·simp at z
    subst z
    simp[ay]
  ·cases ag:h0b (ops.size,M) j o with
   |false =>
    rw[ag]at T
    rcases am with am|am
    ·left
     rw[←am]
     cases hc:c-dn.length with
     |zero=>rw[hc]at T;exact T
     |succ aM =>
      rw[hc]at T
      have T:C=bx:=T
      rw[T]
    ·exact .inr (up am)
   |true=>exact .inr (bq ag)
  ·by_cases A:o.dst=some t
   ·obtain⟨_,_,aH⟩:=ap.eff (j,o) ax
    obtain⟨F,aH⟩:=aH t A
    exact⟨λe=>(by rw[aH]at e;cases e),λav e=>(by rw[aH]at e;cases e)⟩
   ·rw[bm t A]
    exact R t
  ·by_cases B:i=j
   ·subst B
    rw[aC]at l;cases l
    exact⟨N,b2 d u,by rw[a4 v d u];exact C3.fr (st:=⟨Y,ba,C,I⟩) (fr:=fr) aO⟩
   ·rw[ab _ B]at S
    obtain⟨ar,D,G⟩:=aq i m d l u S
    have bF:o.dst≠some d:=λe=>B (bb i j m o d (by simpa using l) aD u e)
    exact⟨ar,by rw[bm d bF];exact D,by rw[a3 v i m d l u B];exact G.grow aP⟩
 ·
  have bf:e0a bx (B00 ad ⟨n,fr,Z,ak⟩ ops.toList)=e0a Z (B00 ad ⟨n,fr,Z,ak⟩ ops.toList):=am.resolve_right (a1 aB)
  have bs:∀ {av:AV} {x:Value},C3 ⟨n,fr,bx,ow⟩ be oe av x->C3 ⟨n,K4 ops.toList fr,bx,ow⟩ be oe av x:=λg=>C3.fr (st:=⟨n,fr,bx,ow⟩) (fr:=K4 ops.toList fr) g
  obtain⟨v,b0,bv⟩:=K0p (st:=⟨n,fr,Z,ak⟩) (stX:=⟨n,K4 ops.toList fr,bx,ow⟩) s (λb5 x i off D G=>A0h bf (l0f D G aL)) bX (λt A=>⟨λav e=>bs ((aG t A).1 av ((R t).2 av e)),λe=>bs ((aG t A).2 ((R t).1 e))⟩)
  refine w8 b0 ?_
  refine⟨dn,r,L,bx,ow,h',be,oe,H,O,(λaz=>⟨(aw az).1,(aw az).2.1,.inl ((aw az).2.2.resolve_right (a1 aB))⟩),aU,λp z=>?_,λp z=>getD_set_true (ae p z),.inl bf,a2 s,af,R,λi m d l u S=>?_⟩
  ·have ah:p.1≠j:=aB p (aS _ (by rw[O];exact List.mem_append_right _ z))
   rw[ab _ ah]
   exact ao p z
  ·by_cases B:i=j
   ·subst B
    rw[aC]at l;cases l
    exact⟨av,(R d).2 av (bc d u),by rw[a4 v d u];exact C3.fr (st:=⟨n,K4 ops.toList fr,bx,ow⟩) (fr:=fr) bv⟩
   ·rw[ab _ B]at S
    obtain⟨ar,D,G⟩:=aq i m d l u S
    exact⟨ar,D,by rw[a3 v i m d l u B];exact G⟩
 ·
  have bG:dn.length<=c:=by
   rcases Nat.lt_or_ge c dn.length with bR|bJ
   ·exfalso
    obtain⟨⟨aj,q⟩,bn⟩:∃ b3,dn[c]?=some b3:=⟨_,List.getElem?_eq_getElem bR⟩
    have bo:(aj,q)∈dn:=List.mem_of_getElem? bn
    have bH:∃ t,F.drop c=(aj,q)::t:=by
     obtain⟨bS,G⟩:=List.getElem?_eq_some_iff.1 bn
     refine⟨(dn++r).drop (c+1),?_⟩
     rw[O,List.drop_eq_getElem_cons (by simp;omega),List.getElem_append_left bS,G]
    have bM:listed.getD j false=false:=by simp[ay]at aa ⊢;exact aa
    have bY:listed.getD aj false=true:=ae (aj,q) bo
    have bZ:ops[aj]?=some q:=by
     have:=(ap.eff (aj,q) (aS _ (by rw[O];exact List.mem_append_left _ bo))).2.1
     simpa using this
    obtain⟨t,A⟩:=bH
    rw[A]at aW
    simp only[V0e,List.all_eq_true]at aW
    have:=w0b (X:=X++E) bg (λy aE=>by
     rcases List.mem_append.1 aE with aE|aE
     ·have aR:=(ap.xx y aE).2;simpa using aR
     ·have aR:=(ap.eff y aE).2.1;simpa using aR) 8 j aj q bZ bY (aW (j,o) bK)
    rw[bM]at this;cases this
   ·exact bJ
  obtain⟨rfl,bp,bD⟩:=aw bG
  obtain rfl:=bD.resolve_right (a1 aB)
  obtain⟨V,aX,aN⟩:=U02 (acc:=[]) (st:=⟨n,fr,bx,ow⟩) (stX:=⟨n,fr,bx,ow⟩) (be:=be) (oe:=oe) (val:=λt=>a.tmps.getD t undef) (λt=>trivial)
   (λt A=>⟨λav e=>(aG t (by simpa using A)).1 av ((R t).2 av e),λe=>(aG t (by simpa using A)).2 ((R t).1 e)⟩) (bQ h' bp)
  have s':Sim P h0 w0 be oe H ⟨n,V,bx,ow⟩ h' a w:=s.refr (fr:=V) λt=>C3.fr (st:=⟨n,fr,bx,ow⟩) (fr:=K4 ops.toList fr) (aN t)
  refine Oper.wp_mono (λbu al ai=>?_) (Q00 s' aX)
  obtain⟨N,st',W,v,be',oe',U,⟨rfl,rfl,rfl⟩,rfl,s2,aO,K⟩:=ai
  have aP:F7 ⟨n,fr,bx,ow⟩ be oe ⟨n,fr,bx,ow⟩ be' oe':=⟨K.bl,K.be,K.sm⟩
  have aQ:F7 ⟨n,K4 ops.toList fr,bx,ow⟩ be oe ⟨n,K4 ops.toList fr,bx,ow⟩ be' oe':=⟨K.bl,K.be,K.sm⟩
  have a0:Sim P h0 w0 be' oe' U ⟨n,K4 ops.toList fr,bx,ow⟩ W a al :=
   s2.refr (fr:=K4 ops.toList fr) λt=>C3.fr (st:=⟨n,K4 ops.toList fr,bx,ow⟩) (fr:=V) ((s.fr t).grow aQ)
  refine⟨dn,r,L,bx,ow,W,be',oe',U,O,λ_=>⟨rfl,bp,.inl rfl⟩,aU,λp z=>?_,λp z=>getD_set_true (ae p z),.inl rfl,a2 a0,af,R,λi m d l u S=>?_⟩
  ·have ah:p.1≠j:=aB p (aS _ (by rw[O];exact List.mem_append_right _ z))
   rw[ab _ ah]
   exact ao p z
  ·by_cases B:i=j
   ·subst B
    rw[aC]at l;cases l
    exact⟨N,(R d).2 N (bc d u),by rw[a4 v d u];exact C3.fr (st:=⟨n,V,bx,ow⟩) (fr:=fr) aO⟩
   ·rw[ab _ B]at S
    obtain⟨ar,D,G⟩:=aq i m d l u S
    exact⟨ar,D,by rw[a3 v i m d l u B];exact G.grow aP⟩
theorem d0v{ops:Array Oper}{n:Nat}{fr:List (Nat×AV)}{m:List BSt}{s:List Own}{q:Hp}{c:Nat}{g:List Nat}{X E:List (Nat×Oper)}{l:List (Nat×H6)}{K:St->Hp->Prop}{Q:Exit->Act->World->Prop}{listed:Array Bool}{j:Nat}{o:Oper}
  (A:∀(i j:Nat) (b y:Oper) (d:Nat),ops.toList[i]?=some b->ops.toList[j]?=some y->b.dst=some d->y.dst=some d->i=j)
  (M:∀ o∈ops.toList,∀ d,o.dst=some d->d<n) (z:G06 P ⟨n,fr,m,s⟩ q ops.toList ops.toList.length l X E) (B:∀ k∈g,∃ p∈E,p.1=k) (C:T05 E=true) (G:V0e X (X++E) (E.drop c)=true)
  (I:listed.getD j true=false) (N:ops[j]?=some o) (R:listed.size=ops.size)
  (D:∀ t,Operand.tmp t∈o.op.operands->∀(i:Nat) (b:Oper),ops.toList[i]?=some b->b.dst=some t->listed.getD i false=true)
  (v:∀ e∈o.after,Region.binds .any e=true->listed.getD e.on false=true)
  (H:L0p P h0 w0 ops g n fr m s q c E l K listed a w):o.guard=none/\o.wp P a w (L0p P h0 w0 ops g n fr m s q c E l K (listed.setIfInBounds j true)) Q:=by
 refine B0h A M z B (λx S=>S) id z.nd (λdn r f F O J=>?_) (λdn T L bx ow h f F u=>?_) G I N R D v H
 ·exact U0c v (λdn r f=>m04 dn r (by rw[←f];exact C)) f O J
 ·simp only[evC]at u
  have e:c-(dn ++ [(j,o)]).length=c-dn.length-1:=by simp;omega
  simp only[e]
  exact u
theorem n0f:∀ {k:Nat} {E:List (Nat×Oper)} {f:Nat×Oper} {a:List (Nat×Oper)},t0h k E=some (f,a)->∃ A B,E=A++f::B/\a=A++B
 |_,[],f,a,h=>by simp[t0h]at h
 |0,x::r,f,a,h=>by
  simp only[t0h,Option.some.injEq,Prod.mk.injEq]at h
  obtain⟨rfl,rfl⟩:=h
  exact⟨[],r,rfl,rfl⟩
 |k+1,x::r,f,a,h=>by
  simp only[t0h]at h
  split at h
  ·rename_i c d b
   simp only[Option.some.injEq,Prod.mk.injEq]at h
   obtain⟨rfl,rfl⟩:=h
   obtain⟨A,B,rfl,rfl⟩:=n0f b
   grind
  ·cases h
theorem C0h{f:Nat×Oper}:∀ {p:Nat} {E:List (Nat×Oper)},B0p f p E=true->∃ q,E[p]?=some q/\Q8 f.1 q.2=true
 |_,[],h=>by simp[B0p]at h
 |0,(i,q)::r,h=>⟨(i,q),rfl,by simpa [B0p] using h⟩
 |p+1,x::r,h=>by
  obtain⟨q,a,b⟩:=C0h (E:=r) (p:=p) (by simpa [B0p] using h)
  grind
theorem A0k:∀ {X:List (Nat×Oper)},noX X=true->X = []
 | [],_=>rfl
 |_::_,h=>by simp[noX]at h
theorem n07{Y:List (Nat×Oper)}:∀(E:List (Nat×Oper)),V0e [] Y E=true
 | []=>rfl
 |_::_=>rfl
theorem F05{l:Array Bool}{j:Nat}(h:l.getD j true=false):l.getD j false=false:=by
 grind
theorem o07{listed:Array Bool}:∀ {A B dn r:List (Nat×Oper)},A++B=dn++r->(∀ p∈A,listed.getD p.1 false=true)->(∀ p∈r,listed.getD p.1 true=false)->∃ C,dn=A++C/\B=C++r
 | [],B,dn,r,h,_,_=>⟨dn,rfl,by simpa using h⟩
 |x::A,B,[],r,h,a,b=>by
  grind
 |x::A,B,y::dn,r,h,a,b=>by
  simp only[List.cons_append,List.cons.injEq]at h
  obtain⟨rfl,h⟩:=h
  obtain⟨C,d,e⟩:=o07 h (λp c=>a p (mC _ c)) b
  grind
theorem B0k{rd:List Nat}{N:Nat×List Nat}{c:Nat}{L:List (Nat×H6)}{K:St->Hp->Prop}{dn d:List (Nat×Oper)}{j:Nat}{o:Oper}{n:Nat}{fr:List (Nat×AV)}{bx:List BSt}{ow:List Own}{h:Hp}
  (g:evC rd N P (c-dn.length) ((j,o)::d) L ⟨n,fr,bx,ow⟩ h K):t05 L fr o.op.operands.toList [] λf=>Z8 P o ⟨n,f,bx,ow⟩ h λav st' h'=>match st' with
   |⟨_,_,a,b⟩=>H0c (c-dn.length) ow b h h'/\s0h (c-dn.length) (h0b N j o) rd bx a/\l02 av λav=>a9 a λa=>a9 b λb=>evC rd N P (c-(dn ++ [(j,o)]).length) d (L07 o.dst (.pu av) L) ⟨n,fr,a,b⟩ h' K:=by
 simp only[evC]at g
 have e:c-(dn ++ [(j,o)]).length=c-dn.length-1:=by simp;omega
 simp_all
def Y0q(rd:List Nat)(N:Nat×List Nat)(P:Program)(m:Nat)(x:Nat×Oper)(r:List (Nat×Oper))(L:List (Nat×H6))(st:St)(h:Hp)(K:St->Hp->Prop):Prop:=match st with
 |⟨n,fr,bx,ow⟩=>t05 L fr x.2.op.operands.toList [] λc=>Z8 P x.2 ⟨n,c,bx,ow⟩ h λav st' h'=>match st' with
  |⟨_,_,a,b⟩=>H0c 0 ow b h h'/\s0h 0 (h0b N x.1 x.2) rd bx a/\l02 av λav=>a9 a λa=>a9 b λb=>j0k rd N P m r (L07 x.2.dst (.pu av) L) ⟨n,fr,a,b⟩ h' K
theorem P0d{x:Nat×Oper}:∀ {r:List (Nat×Oper)},(∀ y∈r,Q8 y.1 x.2=false)->R0i x r=true
 | [],_=>rfl
 |y::r,h=>by
  simp only[R0i,Bool.and_eq_true]
  exact⟨by rw[h y mS];rfl,P0d λz a=>h z (mC _ a)⟩
theorem a0o{f:(Nat×Oper)->List (Nat×Oper)->Prop}{x:Nat×Oper}:∀ {B C A:List (Nat×Oper)},(∀ y∈C++A++B,Q8 y.1 x.2=false)->A0m f (I0c C (A++x::B))->f x (C++A++B)
 |B,C,[],a,h=>by
  simp only[List.nil_append,I0c,A0m]at h
  rw[P0d (by simpa using a)]at h
  simpa using h.1
 |B,C,y::A,a,h=>by
  simp only[List.cons_append,I0c,A0m]at h
  have b:A0m f (I0c (C ++ [y]) (A++x::B)):=by
   split at h
   ·exact h.2
   ·exact h
  have:=a0o (A:=A) (C:=C ++ [y]) (by simpa using a) b
  simpa using this
theorem b0t{rd:List Nat}{N:Nat×List Nat}{m:Nat}{L:List (Nat×H6)}{st:St}{h:Hp}{K:St->Hp->Prop}{j:Nat}{o:Oper}{A B:List (Nat×Oper)}(b:∀ y∈A++B,Q8 y.1 o=false)
  (a:j0k rd N P (m+1) (A++(j,o)::B) L st h K):Y0q rd N P m (j,o) (A++B) L st h K:=by
 obtain⟨n,fr,bx,ow⟩:=st
 simp only[j0k]at a
 have:=a0o (C:=[]) (x:=(j,o)) (by simpa using b) a
 exact this
theorem Z0q{a b:Nat}(h:a≠b):Nat.beq a b=false:=by
 cases e:Nat.beq a b
 ·rfl
 ·exact absurd (Nat.eq_of_beq_eq_true e) h
theorem g0j:∀(l:List (Nat×Oper)),Z0g l=l.length
 | []=>rfl
 |_::r=>by rw[Z0g,g0j r];rfl
theorem a0r{f:Nat×Oper}{rd:List Nat}{N:Nat×List Nat}{K:St->Hp->Prop}{h:Hp}{st:St}{L:List (Nat×H6)}:∀ {p:Nat} {E:List (Nat×Oper)},R0s f rd N P p E L st h K->evC rd N P 0 (f::E) L st h K
 |0,_,h=>h
 |_+1,_,h=>h.1
theorem s0u{ops:Array Oper}{n:Nat}{fr:List (Nat×AV)}{bx:List BSt}{ow:List Own}{q:Hp}{c:Nat}{y:List Nat}{X E F:List (Nat×Oper)}{d:List (Nat×H6)}{K:St->Hp->Prop}{R:Act->World->Prop}{listed:Array Bool}
  (v:G06 P ⟨n,fr,bx,ow⟩ q ops.toList ops.toList.length d X E) (C:∀ x∈F,x∈E)
  (D:∀ a w st h be oe H,K st h->Sim P h0 w0 be oe H st h a w->R a w) (I:∀ j,j<ops.size->listed.getD j false=true)
  (G:L0p P h0 w0 ops y n fr bx ow q c F d K listed a w):R a w:=by
  obtain⟨dn,r,L,bx,N,h',be,oe,H,B,_,_,J,T,_,s,o,O,z⟩:=G
  have M:r = []:=by
   cases r with
   |nil=>rfl
   |cons p Y =>
    have e:=J p mS
    have k:=(v.eff p (C _ (by rw[B];simp))).1
    grind
  subst M
  simp only[evC,j03]at o
  refine D a w _ h' be oe H o (s.refr (fr:=h0k L fr) λt=>?_)
  rw[T0c]
  have key:∀ t,W3 L t≠none->∃(i:Nat) (b:Oper),ops[i]?=some b/\b.dst=some t/\i<ops.size:=λt W=>by
   cases h0':W3 d t with
   |none=>grind
   |some f =>
    obtain⟨i,b,e,k,m⟩:=v.key t f h0'
    grind
  cases hL:W3 L t with
  |none =>
   have U:∀ u∈ops.toList,u.dst≠some t:=λu V S=>by
    grind[List.getElem_of_mem]
   have g:=s.fr t
   grind[C3,O3,K4,m02]
  |some f =>
   cases f with
   |ef F=>trivial
   |pu av =>
    obtain⟨i,b,e,k,m⟩:=key t (by rw[hL];simp)
    obtain⟨Q,l,A⟩:=z i b t e k (I i m)
    rw[hL]at l;cases l
    exact C3.fr (st:=⟨n,fr,bx,N⟩) (fr:=K4 ops.toList fr) A
theorem C0k{ops:Array Oper}{st:St}{K:St->Hp->Prop}{Q:Exit->Act->World->Prop}{R:Act->World->Prop}(s:Sim P h0 w0 be oe H st h a w)(ar:M03 st.n ops.toList=true)
  (U:G04 P st h ops.toList 0 [] [] [] λL X E=>evD (B00 L st ops.toList) ops.size P X E L st h K)
  (a1:∀ a w st h be oe H,K st h->Sim P h0 w0 be oe H st h a w->R a w) :
  ∃ Inv:Array Bool->Act->World->Prop,(∀(k:Nat) (o:Oper),ops.toList[k]?=some o->∀ e∈o.after,Region.binds .any e=true->e.on<k) /\
   (∀ listed a w j o,listed.size=ops.size->listed.getD j true=false->ops[j]?=some o->(∀ e∈o.after,Region.binds .any e=true->listed.getD e.on false=true)->Inv listed a w->o.guard=none/\o.wp P a w (Inv (listed.setIfInBounds j true)) Q) /\
   (∀ listed a w,(∀ j,j<ops.size->listed.getD j false=true)->Inv listed a w->R a w)/\Inv (Array.replicate ops.size false) a w:=by
 simp only[M03,Bool.and_eq_true]at ar
 obtain⟨⟨bB,bC⟩,bD⟩:=ar
 obtain⟨ay,ai⟩:=e06 bB
 have aO:∀(k:Nat) (o:Oper),ops.toList[k]?=some o->∀ e∈o.after,Region.binds .any e=true->e.on<k:=λk o bb e a4 ar=>by
  have:=I04 bC k o bb e a4 ar
  omega
 have bk:=U07 bD
 obtain⟨V,X,E,aj,O⟩:=H06 (ops:=ops.toList) ai (λj o t i an v D G bG=>by
  obtain⟨e,a4,ar,rfl⟩:=bk o (List.mem_of_getElem? v) t D i an G bG
  exact aO j o v e a4 ar) ops.toList 0 [] [] [] (λj=>by simp) ⟨λt f h=>(by cases h),λi an d I=>by omega,λj o b8=>by omega,λp m=>(by cases m),by simp,λp m=>(by cases m)⟩ U
 obtain⟨n,fr,bx,ow⟩:=st
 have aq:∀(listed:Array Bool) (j:Nat) (o:Oper),ops[j]?=some o->(∀ e∈o.after,Region.binds .any e=true->listed.getD e.on false=true)->∀ t,Operand.tmp t∈o.op.operands->∀(i:Nat) (an:Oper),ops.toList[i]?=some an->an.dst=some t->listed.getD i false=true:=λlisted j o D G t bU i an bO aC=>by
  obtain⟨e,aw,ax,rfl⟩:=bk o (List.mem_of_getElem? (i:=j) (by simpa using D)) t bU i an bO aC
  exact G e aw ax
 have init:∀(c:Nat) (F:List (Nat×Oper)) (EV:List (Nat×Oper)->List (Nat×Oper)->List (Nat×H6)->St->Hp->Prop),(∀ x∈F,x∈E)->EV [] F V ⟨n,fr,bx,ow⟩ h->I0m P h0 w0 ops (V09 E) n fr bx ow h c F V EV (Array.replicate ops.size false) a w:=λc F EV bJ ak=>by
  refine⟨[],F,V,bx,ow,h,be,oe,H,rfl,λ_=>⟨rfl,λ_ _ h=>h,.inl rfl⟩,λj o v D=>by(simp[Array.getElem?_replicate]at D;split at D<;>cases D),λp m=>?_,λp m=>(by cases m),.inl rfl,s.refr (fr:=K4 ops.toList fr) λt=>?_,ak,λt=>⟨id,λav=>id⟩,λj o d v D G=>?_⟩
  ·have:=(O.eff p (bJ p m)).1
   have D:p.1<ops.size:=by simpa using this
   simp[D]
  ·by_cases b:∃ o∈ops.toList,o.dst=some t
   ·obtain⟨o,v,D⟩:=b
    rw[n03 v D]
    trivial
   ·rw[m02 λo bQ aj=>b ⟨o,bQ,aj⟩]
    exact s.fr t
  ·simp[Array.getElem?_replicate]at G
   split at G<;>cases G
 rcases aj with⟨c,⟨aQ,bL⟩,ak⟩|⟨k,p,aj⟩
 ·refine⟨L0p P h0 w0 ops (V09 E) n fr bx ow h c E V K,aO,(λlisted a w j o ab v D G I=>d0v ai ay O (λ_=>f06) aQ bL v D ab (aq listed j o D G) G I),(λlisted a w al I=>s0u O (λx b=>b) a1 al I),init c E _ (λx b=>b) ak⟩
 ·split at aj
  ·rename_i f b7 bb
   obtain⟨⟨a2,aQ,bN⟩,ak⟩:=aj
   obtain rfl:=A0k a2
   obtain⟨A,B,rfl,rfl⟩:=n0f bb
   obtain⟨q,az,bR⟩:=C0h bN
   have bM:f∈A++f::B:=by simp
   have bl:=O.eff f bM
   have a5:ops[f.1]?=some f.2:=by simpa using bl.2.1
   have bo:f.1<ops.size:=by simpa using bl.1
   have bf:∀ x∈A++B,x∈A++f::B:=λx b=>by
    rcases List.mem_append.1 b with b|b
    ·exact List.mem_append_left _ b
    ·exact List.mem_append_right _ (mC _ b)
   have bV:((A++B).map λp=>p.1).Nodup:=by
    have:=O.nd
    rw[List.map_append,List.nodup_append]at this ⊢
    obtain⟨bu,bg,bh⟩:=this
    rw[List.map_cons,List.nodup_cons]at bg
    exact⟨bu,bg.2,λx b y am=>bh x b y (by rw[List.map_cons];exact mC _ am)⟩
   have perm:∀ J M,A++B=J++M->((J++f::M).map λp=>p.1).Nodup:=λJ M e=>by
    have v:(A++f::B).Perm (J++f::M):=List.perm_middle.trans ((List.Perm.cons f (by rw[e])).trans List.perm_middle.symm)
    exact(v.map _).nodup O.nd
   have aF:∀ J M,A++B=J++M->∀ x,x∈J++f::M↔x∈A++f::B:=λJ M e x=>by
    have v:x∈A++B↔x∈J++M:=by rw[e]
    simp only[List.mem_append,List.mem_cons]at v ⊢
    constructor
    ·rintro(h|h|h)
     ·rcases v.2 (.inl h)with h|h
      ·exact .inl h
      ·exact .inr (.inr h)
     ·exact .inr (.inl h)
     ·rcases v.2 (.inr h)with h|h
      ·exact .inl h
      ·exact .inr (.inr h)
    ·rintro(h|h|h)
     ·rcases v.1 (.inl h)with h|h
      ·exact .inl h
      ·exact .inr (.inr h)
     ·exact .inr (.inl h)
     ·rcases v.1 (.inr h)with h|h
      ·exact .inl h
      ·exact .inr (.inr h)
   let rd:=B00 V ⟨n,fr,bx,ow⟩ ops.toList
   let ac:List (Nat×Oper)->List (Nat×Oper)->List (Nat×H6)->St->Hp->Prop:=λdn r L st h=>R0s f rd (ops.size,V09 (A++f::B)) P (p-dn.length) r L st h K
   refine⟨λlisted a w=>(listed.getD f.1 true=false/\I0m P h0 w0 ops (V09 (A++f::B)) n fr bx ow h 0 (A++B) V ac listed a w) ∨
    (listed.getD f.1 false=true/\∃ J M,A++B=J++M/\(∀ p∈J,listed.getD p.1 false=true)/\L0p P h0 w0 ops (V09 (A++f::B)) n fr bx ow h 0 (J++f::M) V K listed a w),aO,(λlisted a w j o ab v D G I=>?_),(λlisted a w al I=>?_),.inl ⟨by simp[bo],init 0 (A++B) ac bf ak⟩⟩
   ·have ba:j<listed.size:=by rw[ab];exact(Array.getElem?_eq_some_iff.1 D).1
    have bd:∀ {x:Nat},listed.getD x false=true->(listed.setIfInBounds j true).getD x false=true:=λh=>getD_set_true h
    rcases I with⟨hf,I⟩|⟨hf,J,M,u,a3,I⟩
    ·have bm:=F05 hf
     by_cases aS:j=f.1
     ·
      subst aS
      rw[a5]at D;cases D
      obtain⟨dn,r,L,ap,aA,h',be',oe',aB,u,aG,ao,ag,aa,aH,aJ,ah,aK,aL⟩:=I
      have aC:L0p P h0 w0 ops (V09 (A++f::B)) n fr bx ow h 0 (dn++f::r) V K listed a w :=
       ⟨dn,f::r,L,ap,aA,h',be',oe',aB,rfl,aG,ao,λp m=>by
        rcases List.mem_cons.1 m with rfl|m
        ·exact hf
        ·exact ag p m,aa,aH,aJ,by show evC _ _ _ (0-dn.length) _ _ _ _ _;rw[Nat.zero_sub];exact a0r ah,aK,aL⟩
      have:=B0h (F:=dn++f::r) (j:=f.1) (o:=f.2) (Q:=Q) ai ay O (λ_=>f06) (λx b=>(aF dn r u x).1 b) (λb=>(aF dn r u _).2 b) (perm dn r u) (λN Z e T S ad=>by
       obtain⟨C,Y,W⟩:=o07 (listed:=listed) e aa S
       cases C with
       |nil=>exact⟨r,by simpa using W.symm⟩
       |cons z C =>
        exfalso
        simp only[List.cons_append,List.cons.injEq]at W
        have:=T f (by rw[Y,W.1];simp)
        rw[bm]at this;cases this) (λdn Z L bx ow h u au U=>B0k U) (n07 _) v a5 ab (aq listed f.1 f.2 a5 G) G aC
      exact⟨this.1,Oper.wp_mono (λaM aV b => .inr ⟨by simp[ba],dn,r,u,λp m=>bd (aa p m),b⟩) this.2⟩
     ·have bP:(j,o)≠f:=λe=>aS (by rw[←e])
      have bK:∀(j:Nat) (o:Oper),ops[j]?=some o->listed.getD j false=true->∀ e∈o.after,Region.binds .any e=true->listed.getD e.on false=true:=by
       obtain⟨_,_,_,_,_,_,_,_,_,_,_,ao,_⟩:=I
       exact ao
      have:=B0h (F:=A++B) (Q:=Q) (EV:=ac) ai ay O (λ_=>f06) bf (λb=>by
       rcases List.mem_append.1 b with b|b
       ·exact List.mem_append_left _ b
       ·rcases List.mem_cons.1 b with b|b
        ·exact absurd b bP
        ·exact List.mem_append_right _ b) bV (λdn r u au bt aD=>U0c G (λdn r u=>m04 dn r (by rw[←u];exact aQ)) u bt aD) (λdn Z L aN aU h u au U=>by
       have ca:dn.length<p:=by
        rcases Nat.lt_or_ge dn.length p with g|g
        ·exact g
        ·exfalso
         have bn:listed.getD f.1 false=true:=by
          rw[u]at az
          obtain⟨e,aw,ax,aR⟩:=K7 bR
          rcases Nat.lt_or_ge p dn.length with S|S
          ·rw[List.getElem?_append_left S]at az
           have bs:q∈dn:=List.mem_of_getElem? az
           have:=(O.eff q (bf q (by rw[u];exact List.mem_append_left _ bs))).2.1
           have:=bK q.1 q.2 (by simpa using this) (au q bs) e aw ax
           rwa [aR]at this
          ·have Y:p=dn.length:=by omega
           rw[Y,List.getElem?_append_right (Nat.le_refl _)]at az
           simp at az
           subst az
           have:=G e aw ax
           rwa [aR]at this
         rw[bm]at bn;cases bn
       obtain⟨bi,bq⟩:∃ bi,p-dn.length=bi+1:=⟨p-dn.length-1,by omega⟩
       have Y:p-(dn ++ [(j,o)]).length=bi:=by simp;omega
       simp only[ac,bq,Y,Nat.zero_sub]at U ⊢
       exact U.2) (n07 _) v D ab (aq listed j o D G) G I
      exact⟨this.1,Oper.wp_mono (λaM aV b => .inl ⟨by rw[getD_set_ne true aS];exact hf,b⟩) this.2⟩
    ·have aS:j≠f.1:=λe=>by
      subst e
      have:=F05 v
      rw[hf]at this;cases this
     have:=B0h (F:=J++f::M) (Q:=Q) ai ay O (λ_=>f06) (λx b=>(aF J M u x).1 b) (λb=>(aF J M u _).2 b) (perm J M u) (λN Z e T S ad=>by
      obtain⟨C,Y,W⟩:=o07 (listed:=listed) (A:=J ++ [f]) (B:=M) (by simpa using e) (λp m=>by
       rcases List.mem_append.1 m with m|m
       ·exact a3 p m
       ·simp at m;rw[m];exact hf) S
      exact U0c (E:=Z) (dn:=[]) G (λdn bY af=>m04 dn bY (by rw[←af];exact m04 (J++C) Z (by rw[List.append_assoc,←W,←u];exact aQ))) rfl S ad) (λdn Z L bx ow h u au U=>B0k U) (n07 _) v D ab (aq listed j o D G) G I
     exact⟨this.1,Oper.wp_mono (λaM aV b => .inr ⟨bd hf,J,M,u,λp m=>bd (a3 p m),b⟩) this.2⟩
   ·rcases I with⟨hf,I⟩|⟨hf,J,M,u,a3,I⟩
    ·have:=al f.1 bo
     rw[F05 hf]at this;cases this
    ·exact s0u O (λx b=>(aF J M u x).1 b) a1 al I
  ·obtain⟨a2,ak⟩:=aj
   obtain rfl:=A0k a2
   let ac:List (Nat×Oper)->List (Nat×Oper)->List (Nat×H6)->St->Hp->Prop:=λ_ r L st h=>j0k (B00 V ⟨n,fr,bx,ow⟩ ops.toList) (ops.size,V09 E) P (Z0g r) r L st h K
   refine⟨λlisted a w=>∃ F,(∀ x,x∈F↔x∈E)/\(F.map λp=>p.1).Nodup/\I0m P h0 w0 ops (V09 E) n fr bx ow h 0 F V ac listed a w,aO,(λlisted a w j o ab v D G I=>?_),(λlisted a w al I=>?_),E,λx=>Iff.rfl,O.nd,init 0 E ac (λx b=>b) ak⟩
   ·obtain⟨F,ae,aP,I⟩:=I
    by_cases hjE:(j,o)∈E
    ·obtain⟨dn,r,L,ap,aA,h',be',oe',aB,u,aG,ao,ag,aa,aH,aJ,ah,aK,aL⟩:=I
     have ba:j<listed.size:=by rw[ab];exact(Array.getElem?_eq_some_iff.1 D).1
     have aD:(j,o)∈r:=by
      have:=(ae (j,o)).2 hjE
      rw[u]at this
      rcases List.mem_append.1 this with b|b
      ·have T:=aa _ b
       have S:=F05 v
       rw[S]at T;cases T
      ·exact b
     obtain⟨A,B,rfl⟩:=List.append_of_mem aD
     have br:(dn++(j,o)::(A++B)).Perm F:=by
      rw[u]
      exact List.Perm.append_left dn List.perm_middle.symm
     have aZ:∀ x,x∈dn++(j,o)::(A++B)↔x∈E:=λx=>(br.mem_iff).trans (ae x)
     have a0:((dn++(j,o)::(A++B)).map λp=>p.1).Nodup:=(br.map _).nodup_iff.2 aP
     have bS:∀ y∈A++B,Q8 y.1 o=false:=λy am=>by
      cases hc:Q8 y.1 o with
      |false=>rfl
      |true =>
       obtain⟨e,aw,ax,aR⟩:=K7 hc
       have T:=G e aw ax
       have S:=F05 (ag y (by
        rcases List.mem_append.1 am with am|am
        ·exact List.mem_append_left _ am
        ·exact List.mem_append_right _ (mC _ am)))
       rw[aR,S]at T;cases T
     let aX:List (Nat×Oper)->List (Nat×Oper)->List (Nat×H6)->St->Hp->Prop:=λd r L st h=>match Nat.beq d.length dn.length with
      |true=>Y0q (B00 V ⟨n,fr,bx,ow⟩ ops.toList) (ops.size,V09 E) P (Z0g (A++B)) (j,o) (A++B) L st h K
      |false=>ac d r L st h
     have aC:I0m P h0 w0 ops (V09 E) n fr bx ow h 0 (dn++(j,o)::(A++B)) V aX listed a w :=
      ⟨dn,(j,o)::(A++B),L,ap,aA,h',be',oe',aB,rfl,aG,ao,λp m=>ag p (by
       rcases List.mem_cons.1 m with rfl|m
       ·simp
       ·rcases List.mem_append.1 m with m|m
        ·exact List.mem_append_left _ m
        ·exact List.mem_append_right _ (mC _ m)),aa,aH,aJ,by
       show(match Nat.beq dn.length dn.length with|true=>_|false=>_:Prop)
       rw[Nat.beq_refl]
       refine b0t (st:=⟨n,fr,ap,aA⟩) bS ?_
       have e:Z0g (A++(j,o)::B)=Z0g (A++B)+1:=by rw[g0j,g0j];simp;omega
       have ah:j0k _ _ _ (Z0g (A++(j,o)::B)) _ _ _ _ _:=ah
       rw[e]at ah
       exact ah,aK,aL⟩
     have:=B0h (F:=dn++(j,o)::(A++B)) (EV:=aX) (Q:=Q) ai ay O (λ_=>f06) (λx b=>(aZ x).1 b) (λb=>(aZ _).2 b) a0 (λN Z e T S ad=>by
      obtain⟨C,Y,W⟩:=o07 (listed:=listed) e aa S
      cases C with
      |nil=>exact⟨A++B,by simpa using W.symm⟩
      |cons z C =>
       exfalso
       simp only[List.cons_append,List.cons.injEq]at W
       have:=T (j,o) (by rw[Y,W.1];simp)
       rw[F05 v]at this;cases this) (λN Z L aN aU h e T U=>by
      obtain⟨C,Y,W⟩:=o07 (listed:=listed) (A:=dn) (B:=(j,o)::(A++B)) e aa (λp m=>by
       have b:p∈dn++(j,o)::(A++B):=by rw[e];exact List.mem_append_right _ m
       rcases List.mem_cons.1 m with rfl|bq
       ·exact v
       ·rcases List.mem_append.1 b with b|b
        ·exfalso
         have bp:=a0
         rw[e,List.map_append,List.nodup_append]at bp
         obtain⟨bu,bg,bh⟩:=bp
         have aE:dn.length<=N.length∨N.length<dn.length:=Nat.lt_or_ge N.length dn.length |>.symm
         rcases aE with aE|aE
         ·have:p∈N:=by
           have af:dn=N.take dn.length:=by
            have:=congrArg (List.take dn.length) e
            rw[List.take_append_of_le_length (Nat.le_refl _),List.take_length,List.take_append_of_le_length aE]at this
            exact this
           rw[af]at b;exact List.mem_of_mem_take b
          exact bh p.1 (List.mem_map.2 ⟨p,this,rfl⟩) p.1 (List.mem_map.2 ⟨p,m,rfl⟩) rfl
         ·have:(j,o)∈dn:=by
           have af:=congrArg (λl=>l[N.length]?) e
           simp only[List.getElem?_append_left aE,List.getElem?_append_right (Nat.le_refl _),Nat.sub_self,List.getElem?_cons_zero]at af
           exact List.mem_of_getElem? af
          have ad:=aa _ this
          rw[F05 v]at ad;cases ad
        ·exact ag p (by
          rcases List.mem_cons.1 b with rfl|b
          ·simp
          ·rcases List.mem_append.1 b with b|b
           ·exact List.mem_append_left _ b
           ·exact List.mem_append_right _ (mC _ b)))
      have bH:C = []:=by
       cases C with
       |nil=>rfl
       |cons z C =>
        exfalso
        simp only[List.cons_append,List.cons.injEq]at W
        have:=T (j,o) (by rw[Y,W.1];simp)
        rw[F05 v]at this;cases this
      subst bH
      simp only[List.append_nil]at Y
      subst Y
      have af:Z=A++B:=by simpa using W.symm
      subst af
      have U:(match Nat.beq N.length N.length with|true=>_|false=>_:Prop):=U
      rw[Nat.beq_refl]at U
      have bc:Nat.beq (N ++ [(j,o)]).length N.length=false:=by
       rw[List.length_append,List.length_singleton]
       exact Z0q (by omega)
      have bI:aX (N ++ [(j,o)]) (A++B)=λL st h=>j0k (B00 V ⟨n,fr,bx,ow⟩ ops.toList) (ops.size,V09 E) P (Z0g (A++B)) (A++B) L st h K:=by
       funext L st h
       show(match Nat.beq (N ++ [(j,o)]).length N.length with|true=>_|false=>_:Prop)=_
       rw[bc]
      rw[bI]
      simp only[Nat.zero_sub]
      exact U) (n07 _) v D ab (aq listed j o D G) G aC
     refine⟨this.1,Oper.wp_mono (λaM aV b=>?_) this.2⟩
     obtain⟨aY,bZ,bA,aN,aU,bF,bE,bW,bz,bj,b0,b1,bv,b2,b3,b4,aW,b5,b6⟩:=b
     refine⟨dn++(j,o)::(A++B),aZ,a0,aY,bZ,bA,aN,aU,bF,bE,bW,bz,bj,b0,b1,bv,b2,b3,b4,?_,b5,b6⟩
     have bc:Nat.beq aY.length dn.length=false:=by
      refine Z0q λe=>?_
      obtain⟨cb,bX⟩:=List.append_inj bj e.symm
      have:=bv (j,o) (by rw[←bX];simp)
      simp[ba]at this
     have aW:(match Nat.beq aY.length dn.length with|true=>_|false=>_:Prop):=aW
     rw[bc]at aW
     exact aW
    ·have:=B0h (F:=F) (EV:=ac) (Q:=Q) ai ay O (λ_=>f06) (λx b=>(ae x).1 b) (λb=>absurd b hjE) aP (λdn r u au bt aD=>absurd ((ae _).1 (by rw[u];exact List.mem_append_right _ aD)) hjE)
      (λdn Z L aN aU h u au U=>absurd ((ae (j,o)).1 (by rw[u];simp)) hjE) (n07 _) v D ab (aq listed j o D G) G I
     exact⟨this.1,Oper.wp_mono (λaM aV b=>⟨F,ae,aP,b⟩) this.2⟩
   ·obtain⟨F,ae,aP,dn,r,L,ap,aA,h',be',oe',aB,u,aG,ao,ag,aa,aH,aJ,ah,aK,aL⟩:=I
    have bT:r = []:=by
     cases r with
     |nil=>rfl
     |cons p Z =>
      have T:=ag p mS
      have S:=(O.eff p ((ae _).1 (by rw[u];simp))).1
      have ad:=al p.1 (by simpa using S)
      rw[F05 T]at ad;cases ad
    subst bT
    exact s0u (c:=0) (F:=F) O (λx b=>(ae x).1 b) a1 al ⟨dn,[],L,ap,aA,h',be',oe',aB,u,aG,ao,ag,aa,aH,aJ,ah,aK,aL⟩
theorem M0p{ops:Array Oper}{st:St}{K:St->Hp->Prop}{Q:Exit->Act->World->Prop}(s:Sim P h0 w0 be oe H st h a w)(g:M03 st.n ops.toList=true)
  (i:G04 P st h ops.toList 0 [] [] [] λL X E=>evD (B00 L st ops.toList) ops.size P X E L st h K)
  (f:∀ a w st h be oe H,K st h->Sim P h0 w0 be oe H st h a w->Q .normal a w):wpAny P .any ops Q ops.size (Array.replicate ops.size false) a w:=by
 obtain⟨Inv,b,c,d,e⟩:=C0k (Q:=Q) (R:=λa w=>Q .normal a w) s g i f
 exact r0u (Inv:=Inv) b c d ops.size _ a w (by simp) (by simp[List.count_replicate]) e
theorem x0b{L l:Array Bool}{x:Bool}(h:L.toList=l.toList ++ [x]){j:Nat}(a:j<l.size)(b:Bool):L.getD j b=l.getD j b:=by
 rw[Array.getD_eq_getD_getElem?,Array.getD_eq_getD_getElem?,←Array.getElem?_toList,←Array.getElem?_toList,h,List.getElem?_append_left (by simpa using a)]
theorem N0p{L l:Array Bool}{x:Bool}(h:L.toList=l.toList ++ [x])(b:Bool):L.getD l.size b=x:=by
 rw[Array.getD_eq_getD_getElem?,←Array.getElem?_toList,h,List.getElem?_append_right (by simp)];simp
theorem e0v{ops ops0:Array Oper}{o:Oper}{Q:Exit->Act->World->Prop}{Inv:Array Bool->Act->World->Prop}{a:Act}{w:World}(t:ops.toList=ops0.toList ++ [o])
  (q:∀(k:Nat) (o:Oper),ops.toList[k]?=some o->∀ e∈o.after,Region.binds .any e=true->e.on<k)
  (B:o.guard=none) (G:∀ k,k<ops0.size->∃ e∈o.after,Region.binds .any e=true/\e.on=k)
  (I:∀ listed a w j o,listed.size=ops0.size->listed.getD j true=false->ops0[j]?=some o->(∀ e∈o.after,Region.binds .any e=true->listed.getD e.on false=true)->Inv listed a w->o.guard=none/\o.wp P a w (Inv (listed.setIfInBounds j true)) Q)
  (A:∀ listed a w,(∀ j,j<ops0.size->listed.getD j false=true)->Inv listed a w->o.wp P a w (λa w=>Q .normal a w) Q)
  (h0:Inv (Array.replicate ops0.size false) a w):wpAny P .any ops Q ops.size (Array.replicate ops.size false) a w:=by
 have M:ops.size=ops0.size+1:=by
  have:=congrArg List.length t
  simpa using this
 refine r0u (Inv:=λL a w=>(∃ l:Array Bool,l.size=ops0.size/\L.toList=l.toList ++ [false]/\Inv l a w)∨((∀ j,j<ops.size->L.getD j false=true)/\Q .normal a w)) q (λL a w j m J y b p d=>?_) (λL a w f d=>?_) ops.size _ a w (by simp) (by simp[List.count_replicate]) (.inl ⟨_,by simp,by grind,h0⟩)
 ·rcases d with⟨l,g,c,d⟩|⟨f,_⟩
  ·have E:j<ops.size:=(Array.getElem?_eq_some_iff.1 b).1
   by_cases hj:j<ops0.size
   ·have z:ops0[j]?=some m:=by
     rw[←Array.getElem?_toList]at b ⊢
     grind
    obtain⟨v,x⟩:=I l a w j m g (by rw[←x0b c (by omega)];exact y) z (λe i h=>by
     have:=q j m (by rw[Array.getElem?_toList];exact b) e i h
     rw[←x0b c (by omega)];exact p e i h) d
    refine⟨v,Oper.wp_mono (λu K C => .inl ⟨_,by simpa using g,?_,C⟩) x⟩
    rw[Array.toList_setIfInBounds,c,List.set_append_left _ _ (by simpa [g] using hj),Array.toList_setIfInBounds]
   ·have D:j=ops0.size:=by omega
    have H:m=o:=by
     rw[←Array.getElem?_toList,t,List.getElem?_append_right (by simp;omega)]at b
     rw[D]at b;simp at b;exact b.symm
    subst H
    have f:∀ k,k<ops0.size->l.getD k false=true:=λk s=>by
     obtain⟨e,i,h,rfl⟩:=G k s
     rw[←x0b c (by omega)];exact p e i h
    refine⟨B,Oper.wp_mono (λu K n => .inr ⟨λk s=>?_,n⟩) (A l a w f d)⟩
    by_cases hkj:k=j
    ·rw[hkj];simp[Array.getD_eq_getD_getElem?,J,E]
    ·have F:k<ops0.size:=by omega
     have:=f k F
     rw[←x0b c (by omega)]at this
     rw[Array.getD_eq_getD_getElem?,Array.getElem?_setIfInBounds_ne (by omega),←Array.getD_eq_getD_getElem?];exact this
  grind
 ·rcases d with⟨l,g,c,d⟩|⟨_,n⟩
  ·have:=f ops0.size (by omega)
   rw[←g,N0p c]at this;cases this
  ·exact n
theorem Q0d{o:Oper}:∀(ops:List Oper),X0e ops=some o->ops=k02 ops ++ [o]
 | [],h=>by simp[X0e]at h
 | [x],h=>by grind[X0e,Option.some.injEq,k02]
 |x::y::r,h=>by
  simp only[X0e]at h
  have:=Q0d (y::r) (by simp only[X0e];exact h)
  rw[show k02 (x::y::r)=x::k02 (y::r) by simp only[k02],List.cons_append,←this]
theorem O0p{ops:List Oper}{o:Oper}(h:J0q ops=some o):ops=k02 ops ++ [o]/\o.guard=none/\N08 (k02 ops).length (k02 ops).length o=true:=by
 unfold J0q at h
 split at h
 ·rename_i f e
  split at h
  ·rename_i d c b
   split at h
   ·rename_i a
    cases h
    simp only[Bool.and_eq_true]at a
    grind[Q0d]
   ·cases h
  ·cases h
 ·cases h
end
theorem L05:∀ {L:FL} {t:Nat} {x:List (Nat×Bool)×H6},A04 L t=some x->(t,x)∈L
 | [],t,x,h=>by cases h
 |(d,y)::r,t,x,h=>by
  simp only[A04]at h
  split at h
  ·simp_all
  ·exact mC _ (L05 h)
theorem D0a:∀ {L:FL} {t:Nat} {x:List (Nat×Bool)×H6},(t,x)∈L->∃ y,A04 L t=some y
 |(d,y)::r,t,x,h=>by
  simp only[A04]
  split
  ·exact⟨_,rfl⟩
  ·rename_i a
   rcases List.mem_cons.1 h with e|h
   ·simp_all
   ·exact D0a h
theorem P0p{bs:List BE}{x:BE}(e:∀ y∈bs,y.j≠x.j){j:Nat}{b:BE}(h:V03 bs j=some b):V03 (x::bs) j=some b:=by
 simp only[V03]
 split
 ·rename_i d
  obtain⟨a,c⟩:=H04 h
  simp_all
 ·exact h
abbrev Asg:=Nat->List (Nat×Bool)×Bool×H6
structure e0h (ops:List Oper) (A:Asg) (L:FL) (bs:List BE) (k:Nat):Prop where
 p1:∀ t x,(t,x)∈L->∃ i oi,i<k/\ops[i]?=some oi/\oi.dst=some t/\(A i).1=x.1/\(A i).2.2=x.2
 p2:∀ i oi d,i<k->ops[i]?=some oi->oi.dst=some d->∃ x,A04 L d=some x
 p3:∀ i,i<k->i<ops.length->cB bs (A i).1=some (A i).2.1
 p4:∀ x∈bs,x.j<k/\(∃ o,ops[x.j]?=some o/\o.dst=some x.d)/\(A x.j).1=x.ch/\(A x.j).2.2 = .pu (.val (.bool x.e))
structure X09 (bs bs':List BE):Prop where
 c:∀ ch c,cB bs ch=some c->cB bs' ch=some c
 e:∀ j b,V03 bs j=some b->V03 bs' j=some b
theorem X09.refl(bs:List BE):X09 bs bs:=⟨λ_ _ h=>h,λ_ _ h=>h⟩
theorem X09.trans{a b c:List BE}(d:X09 a b)(f:X09 b c):X09 a c:=⟨λch x h=>f.c ch x (d.c ch x h),λj b h=>f.e j b (d.e j b h)⟩
def OpU(P:Program)(st:St)(h:Hp)(L:FL)(bs:List BE)(o:Oper)(ch:List (Nat×Bool))(c:Bool):H6->Prop
 | .pu av=>f0a P L bs ch o st=some av∨∀ h',Sub h h'->imp ch c (s08 L st h' ch o.op.operands.toList [] λfr=>Z8 P o { st with fr:=fr } h' (R0n av { st with fr:=fr } h'))
 | .ef F=>(∀ v a b,Sub a b->F v a->F v b)/\∀ h',Sub h h'->imp ch c (s08 L st h' ch o.op.operands.toList [] λfr=>k0k P o { st with fr:=fr } h' (K0q { st with fr:=fr } h' F))
theorem b0r{d:Option Tmp}{ch:List (Nat×Bool)}{f:H6}{L:FL}{p:Nat×List (Nat×Bool)×H6}(h:p∈a0h d ch f L):(∃ s,d=some s/\p=(s,ch,f))∨p∈L:=by
 cases d with
 |none=>exact .inr h
 |some s =>
  rcases List.mem_cons.1 h with h|h
  all_goals grind
theorem c0r{i:Nat}{d:Option Tmp}{ch:List (Nat×Bool)}{av:AV}{bs:List BE}{x:BE}(h:x∈S0i i d ch av bs):(∃ s e,d=some s/\av = .val (.bool e)/\x=⟨i,s,e,ch⟩)∨x∈bs:=by
 unfold S0i at h
 grind
theorem d0r{i:Nat}{d:Option Tmp}{ch:List (Nat×Bool)}{av:AV}{bs:List BE}(f:∀ y∈bs,y.j<i):X09 bs (S0i i d ch av bs):=by
 unfold S0i
 split
 ·split
  ·refine⟨λe c h=>H0m (λy a=>?_) h,λj b h=>P0p (λy a=>?_) h⟩<;>(grind)
  ·exact X09.refl _
 ·exact X09.refl _
theorem c0t(P:Program)(i:Nat)(L:FL)(bs:List BE)(st:St)(h:Hp)(K:St->Hp->Prop):evU P [] i L bs st h K=∀ h',Sub h h'->Y0e h' L st.fr λfr=>K { st with fr:=fr } h':=by
 obtain⟨n,fr,bx,ow⟩:=st;rfl
theorem e0r(P:Program)(o:Oper)(l:List Oper)(i:Nat)(L:FL)(bs:List BE)(st:St)(h:Hp)(K:St->Hp->Prop)(a:evU P (o::l) i L bs st h K):
    ∃ ch c f,b01 bs o.guard=some ch/\cB bs ch=some c/\(OpU P st h L bs o ch c f/\∀ av,f0a P L bs ch o st=some av->f = .pu av)/\∃ j,j=(match f with
      | .pu av=>S0i i o.dst ch av bs
      | .ef _=>bs)/\evU P l (i+1) (a0h o.dst ch f L) j st h K:=by
  obtain⟨n,fr,bx,ow⟩:=st
  change (match b01 bs o.guard with
        |some ch=>match cB bs ch with
          |some c=>match f0a P L bs ch o ⟨n,fr,bx,ow⟩with
            |some av=>l02 av λav=>evU P l (i+1) (a0h o.dst ch (.pu av) L) (S0i i o.dst ch av bs) ⟨n,fr,bx,ow⟩ h K
            |none=>(∃ av,(∀ h',Sub h h'->imp ch c (s08 L ⟨n,fr,bx,ow⟩ h' ch o.op.operands.toList [] λfr=>Z8 P o ⟨n,fr,bx,ow⟩ h' (R0n av ⟨n,fr,bx,ow⟩ h'))) /\
                  l02 av λav=>evU P l (i+1) (a0h o.dst ch (.pu av) L) (S0i i o.dst ch av bs) ⟨n,fr,bx,ow⟩ h K) ∨
                (∃ F:Value->Hp->Prop,(∀ v d b,Sub d b->F v d->F v b) /\
                  (∀ h',Sub h h'->imp ch c (s08 L ⟨n,fr,bx,ow⟩ h' ch o.op.operands.toList [] λfr=>k0k P o ⟨n,fr,bx,ow⟩ h' (K0q ⟨n,fr,bx,ow⟩ h' F))) /\
                  evU P l (i+1) (a0h o.dst ch (.ef F) L) bs ⟨n,fr,bx,ow⟩ h K)
          |none=>False
        |none=>False)at a
  split at a
  · rename_i ch g
    split at a
    · rename_i c e
      split at a
      · rename_i av p
        rw[W03]at a
        exact⟨ch,c,.pu av,g,e,⟨.inl p,λq h'=>by grind⟩,_,rfl,a⟩
      · rename_i s
        have k:∀(f:H6) av,f0a P L bs ch o ⟨n,fr,bx,ow⟩=some av->f = .pu av:=λf av h'=>by grind
        rcases a with⟨av,d,b⟩|⟨F,d,b,m⟩
        · rw[W03]at b
          exact⟨ch,c,.pu av,g,e,⟨.inr d,k _⟩,_,rfl,b⟩
        · exact⟨ch,c,.ef F,g,e,⟨⟨d,b⟩,k _⟩,_,rfl,m⟩
    · exact a.elim
  · exact a.elim
theorem o0f{P:Program}{ops:List Oper}{st:St}{h:Hp}{K:St->Hp->Prop}(am:∀(i j:Nat) (n R:Oper) (d:Nat),ops[i]?=some n->ops[j]?=some R->n.dst=some d->R.dst=some d->i=j):
  ∀(l:List Oper) (k:Nat) (L:FL) (bs:List BE) (q:Asg),(∀ j,l[j]?=ops[k+j]?)->k+l.length=ops.length->e0h ops q L bs k->evU P l k L bs st h K ->
   ∃(A:Asg) (M:FL) (z:List BE),(∀ i,i<k->A i=q i)/\X09 bs z/\e0h ops A M z ops.length /\
    (∀ j o,k<=j->ops[j]?=some o->∃ S D,b01 z o.guard=some (A j).1/\e0h ops A S D j/\X09 D z/\cB D (A j).1=some (A j).2.1/\(OpU P st h S D o (A j).1 (A j).2.1 (A j).2.2/\∀ av,f0a P S D (A j).1 o st=some av->(A j).2.2 = .pu av)) /\
    (∀ h',Sub h h'->Y0e h' M st.fr λfr=>K { st with fr:=fr } h')
 | [],k,L,bs,q,W,ae,g,ad=>by
  have af:k=ops.length:=by simpa using ae
  grind[X09.refl,c0t,List.getElem?_eq_some_iff]
 |o::l,k,L,bs,q,W,ae,g,ad=>by
  have Y:ops[k]?=some o:=by simpa using (W 0).symm
  have ar:∀ j,l[j]?=ops[k+1+j]?:=λj=>by have:=W (j+1);grind
  have af:k+1+l.length=ops.length:=by grind
  obtain⟨ch,c,f,v,ac,au,V,ap,aq⟩:=e0r P o l k L bs st h K ad
  let C:Asg:=λi=>if i=k then(ch,c,f)else q i
  have N:C k=(ch,c,f):=by simp[C]
  have aa:∀ i,i<k->C i=q i:=λi m=>by grind
  have ay:∀ y∈bs,y.j<k:=λy ax=>(g.p4 y ax).1
  have J:X09 bs V:=by
   grind[d0r,X09.refl]
  have aw:e0h ops C (a0h o.dst ch f L) V (k+1):=by
   refine⟨λt x a=>?_,λi n d m I Q=>?_,λi m X=>?_,λx a=>?_⟩
   ·rcases b0r a with⟨s,ah,e⟩|a
    ·grind
    ·obtain⟨i,n,u,E,G,H,al⟩:=g.p1 t x a
     grind
   ·rcases Nat.lt_or_ge i k with B|B
    ·obtain⟨x,a⟩:=g.p2 i n d B I Q
     cases hd:o.dst with
     |none=>exact⟨x,a⟩
     |some s=>exact D0a (x:=x) (mC _ (L05 a))
    ·have:i=k:=by omega
     subst this
     rw[Y]at I;cases I
     rw[Q]
     exact D0a mS
   ·rcases Nat.lt_or_ge i k with B|B
    ·rw[aa i B];exact J.c _ _ (g.p3 i B X)
    ·have:i=k:=by omega
     subst this
     rw[N];exact J.c _ _ ac
   ·subst ap
    cases f with
    |ef F =>
     obtain⟨u,E,G,H⟩:=g.p4 x a
     grind
    |pu av =>
     rcases c0r a with⟨s,e,ah,an,rfl⟩|a
     ·refine⟨nS _,⟨o,Y,ah⟩,by rw[N],?_⟩
      rw[N,an]
     ·obtain⟨u,E,G,H⟩:=g.p4 x a
      grind
  obtain⟨A,M,z,ab,T,ai,aj,ak⟩:=o0f am l (k+1) _ V C ar af aw aq
  have U:A k=(ch,c,f):=by rw[ab k (nS _),N]
  have O:∀ i,i<k->A i=q i:=λi m=>by rw[ab i (Nat.lt_succ_of_lt m),aa i m]
  refine⟨A,M,z,O,J.trans T,ai,λj R az Z=>?_,ak⟩
  rcases Nat.lt_or_ge k j with ag|ag
  ·exact aj j R ag Z
  ·have:j=k:=by omega
   subst this
   rw[Y]at Z;cases Z
   refine⟨L,bs,?_,⟨λt x a=>?_,λi n d m I Q=>g.p2 i n d m I Q,λi m X=>?_,λx a=>?_⟩,J.trans T,by rw[U];exact ac,by rw[U];exact au⟩
   ·rw[U]
    cases hg:o.guard with
    |none=>rw[hg]at v;exact v
    |some p =>
     obtain⟨aA,w⟩:=p
     rw[hg]at v
     simp only[b01]at v ⊢
     split at v
     ·rename_i b ao
      rw[(J.trans T).e _ _ ao]
      exact v
     ·cases v
   ·obtain⟨i,n,u,E,G,H,al⟩:=g.p1 t x a
    grind
   ·rw[O i m];exact g.p3 i m X
   ·obtain⟨u,E,G,H⟩:=g.p4 x a
    exact⟨u,E,by rw[O _ u];exact G,by rw[O _ u];exact H⟩
section
variable {P:Program} {h0:Hp} {w0:World} {be:Nat->Nat} {oe:Nat->Value} {H:Hp} {st:St} {h:Hp} {a:Act} {w:World} {o:Oper} {K:AV->St->Hp->Prop} {Q:Exit->Act->World->Prop}
theorem D0k(s:Sim P h0 w0 be oe H st h a w){t n:Nat}{ps:Array (Nat×Operand)}(k:o.op = .buildSlice t n ps)(x:ps.toList = [])(c:L0q P t n st h K):o.wp P a w (Nx P h0 w0 st be oe K a o.dst) Q:=by
 unfold L0q at c
 split at c
 rotate_left
 ·exact c.elim
 rename_i e q
 split at c
 rotate_left
 ·exact c.elim
 rename_i sz p i
 have j:=Nat.eq_of_beq_eq_true i
 subst j
 have l:ps = #[]:=by grind
 subst l
 have u:wpS P (execOp a.eval o) h (λf h'=>∃ b,h b=none/\f = .value (.slice (some ⟨b,0,none⟩) 0 0)/\h'=h.set b (.cells #[] e (0,0))):=by
  unfold execOp;rw[k]
  refine o8 _ _ _ ?_
  simp only[Instr.buildSlice,J2,M3 (u00 q),P00 p,Nat.zero_mul,O2]
  rw[if_neg (by omega)]
  simp only[O2,if_true,Instr.fill,Array.map_empty,J2,newRow,newObj,wpS]
  exact λb d=>⟨b,d,rfl,by rw[show Array.range 0 = #[] from rfl,Array.map_empty]⟩
 obtain⟨f,h',y,m,⟨b,d,rfl,rfl⟩,g⟩:=I00 _ _ _ (R08 s) u
 obtain⟨v,s'⟩:=s.moved g
 exact w8 m ⟨_,_,_,_,_,_,_,c b d,rfl,s',rfl,F7.refl _ _ _⟩
theorem E0k(s:Sim P h0 w0 be oe H st h a w){t:TypeId}{p q:Operand}{as:Array Operand}{R:Array TypeId}(L:o.op = .call { callee := .builtin .append,args:=as,argTypes:=R })
  (F:as = #[p,q]) (N:R = #[t,t]) (d:M0q P t p q st h K):o.wp P a w (Nx P h0 w0 st be oe K a o.dst) Q:=by
 unfold M0q at d
 split at d
 rotate_left
 ·exact d.elim
 rename_i e aa
 split at d
 rotate_left
 ·exact d.elim
 rename_i sz by_ z Z S ac
 split at d
 rotate_left
 ·exact d.elim
 rename_i ad
 obtain⟨i,y,C,ag,ai⟩:=B0a Z S ac
 have A:=u00 aa
 have ae:z.cells.size=i.size:=by rw[C];simpa using N03 _ _ ad
 have g:=s.rdO p
 split at d
 rotate_left
 ·exact d.elim
 rename_i m n Y
 rw[Y]at g
 have v:a.eval p = .slice (some ⟨m,n,none⟩) 0 0:=g
 obtain⟨b,⟨M,W,J⟩,l⟩:=Z05 s (Nat.succ_pos sz) d
 have af:i.size=sz+1:=C
 have ah:i.bytes=by_+1:=ag
 rw[←C]at l
 rw[←af]at J
 rw[←ah]at M
 have T:0<i.bytes:=by grind
 have al:b.length<=140737488355328:=Nat.le_trans (Nat.le_mul_of_pos_right _ T) M
 have X:((0+b.length:Nat):Int)<=9223372036854775807:=by omega
 have I:=j04 b (λx B=>(l.1 x B).1)
 have O:=R08 s
 by_cases hn:b = []
 ·have k:(Builtin.append_ #[t,t] o.type #[.slice (some ⟨m,n,none⟩) 0 0,a.eval q]).run P w = .ok (.slice (some ⟨m,n,none⟩) 0 0) w:=by
   subst hn
   rcases l.2 with⟨D,c,f,G⟩|⟨c,f,_⟩
   ·rw[f]
    simp[Builtin.append_,run_underlying A,sizeOf,typeInfo,y,Builtin.lenOf,Builtin.firstCells,loadCells,loadCellsFrom,storeCells]
   ·rw[f]
    simp[Builtin.append_,run_underlying A,sizeOf,typeInfo,y,Builtin.lenOf,Builtin.firstCells,storeCells]
  rw[←v]at k
  exact w8 (Y03 L F N k) ⟨_,_,h,_,_,_,_,W hn,rfl,s,v,F7.refl _ _ _⟩
 ·rcases l.2 with⟨D,E,f,G⟩|⟨E,f,ab⟩
  rotate_left
  ·exact absurd ab hn
  have am:0<b.length:=by
   grind
  have k:=run_append_grow (P:=P) w t o.type e i z A y ai ⟨m,n,none⟩ 0 0 [] (by simp) (λj u V=>by simp at V) D b.length E b.flatten I G (by omega) X (growslice_fits (by omega) (by grind[d07]))
  have ak:=grownCap_ge w (0+b.length) 0 e
  have U:grownCap w (0+b.length) 0 e<=maxLen:=grownCap_le_maxLen w _ 0 e (by unfold maxLen;omega)
  rw[←f,←v]at k
  obtain⟨aj,s'⟩:=s.moved (I3.newD O (.cells ([].toArray++b.flatten.toArray++Builtin.zeroCells z.cells (grownCap w (0+b.length) 0 e-(0+b.length))) e (0,0)) rfl)
  refine w8 (Y03 L F N k) ⟨_,_,_,_,_,_,_,J _ _ ⟨λx B=>l.1 x B,.inr ⟨w.heap.size,grownCap w (0+b.length) 0 e,_,?_,D03 O,rfl,by omega,U,?_,?_⟩⟩,rfl,s',rfl,F7.refl _ _ _⟩
  ·rw[Nat.zero_add]
  ·simp only[Array.size_append,List.size_toArray,I,size_zeroCells,ae,List.length_nil,←Nat.add_mul,Nat.zero_add]
   grind
  grind
theorem F0k(s:Sim P h0 w0 be oe H st h a w)(b:k0k P o st h K):o.wp P a w (Nx P h0 w0 st be oe K a o.dst) Q:=by
 unfold k0k at b
 split at b
 ·grind[D0k,Q00]
 ·rename_i as i d
  split at b
  ·rename_i x y t g e f
   split at b
   ·rename_i c
    have:=Nat.eq_of_beq_eq_true c
    subst this
    exact E0k s d (by grind) (by grind) b
   ·exact b.elim
  ·exact b.elim
 grind[Q00]
end
section
variable {P:Program} {h0:Hp} {w0:World} {be:Nat->Nat} {oe:Nat->Value} {H:Hp} {h:Hp} {a:Act} {w:World}
def h0j(st:St)(be:Nat->Nat)(oe:Nat->Value)(h:Hp)(bs:List BE)(x:List (Nat×Bool)×H6)(v:Value):Prop:=cB bs x.1=some true->U06 st be oe h x.2 v
theorem W02{L:FL}{st:St}{h:Hp}{bs:List BE}{ch:List (Nat×Bool)}{val:Nat->Value}{K:List (Nat×AV)->Prop}(d:cB bs ch=some true):∀ {l:List Operand} {acc:List (Nat×AV)},
  (∀ t,C3 st be oe (O3 acc t) (val t))->(∀ t,Operand.tmp t∈l->(∀ x,A04 L t=some x->h0j st be oe h bs x (val t))/\(A04 L t=none->C3 st be oe (O3 st.fr t) (val t))) ->
  s08 L st h ch l acc K->∃ fr,K fr/\∀ t,C3 st be oe (O3 fr t) (val t)
 | [],acc,c,b,a=>⟨acc,a,c⟩
 | .tmp t::r,acc,c,b,a=>by
  have j:∀ u,Operand.tmp u∈r->_:=λu i=>b u (mC _ i)
  have k:=b t mS
  have put:∀ av,C3 st be oe av (val t)->∀ u,C3 st be oe (O3 ((t,av)::acc) u) (val u):=λav g u=>by
   grind[i4]
  simp only[s08]at a
  split at a
  ·rename_i n f e
   split at a
   ·rename_i m
    have hf:=k.1 _ e (H09 m d)
    cases f with
    |pu av=>exact W02 d (put av hf) j a
    |ef F=>exact W02 d (put (.val (val t)) rfl) j (a _ hf)
   ·exact a.elim
  ·rename_i e
   exact W02 d (put _ (k.2 e)) j a
 | .const v::r,acc,c,b,a=>W02 (l:=r) d c (λu i=>b u (mC _ i)) a
 | .global v::r,acc,c,b,a=>W02 (l:=r) d c (λu i=>b u (mC _ i)) a
 | .func v::r,acc,c,b,a=>W02 (l:=r) d c (λu i=>b u (mC _ i)) a
theorem D0h{st:St}{val:Nat->Value}{K:List (Nat×AV)->Prop}:∀ {L:FL} {fr:List (Nat×AV)},(∀ p∈L,p.2.1 = []->U06 st be oe h p.2.2 (val p.1)) ->
  (∀ t,(∀ x,(t,x) ∉ L)->C3 st be oe (O3 fr t) (val t))->Y0e h L fr K->∃ fr,K fr/\∀ t,C3 st be oe (O3 fr t) (val t)
 | [],fr,b,c,a=>⟨fr,a,λt=>c t (by simp)⟩
 |(d,ch,f)::r,fr,b,c,a=>by
  have step:∀ av,C3 st be oe av (val d)->Y0e h r ((d,av)::fr) K->∃ fr,K fr/\∀ t,C3 st be oe (O3 fr t) (val t):=λav g a =>
   D0h (L:=r) (fr:=(d,av)::fr) (λp e=>b p (mC _ e)) (λt i=>by
    grind[i4]) a
  cases ch with
  |nil =>
   have hf:=b (d,[],f) mS rfl
   cases f with
   |pu av=>exact step av hf a
   |ef F=>exact step (.val (val d)) rfl (a _ hf)
  |cons p q =>
   refine step .dead trivial ?_
   cases f<;>exact a
theorem f0r{st:St}{L:FL}{bs:List BE}{ch:List (Nat×Bool)}{o:Oper}{av:AV}(c:f0a P L bs ch o st=some av)(B:cB bs ch=some true)
  (am:∀ t,(∀ x,A04 L t=some x->h0j st be oe h bs x (a.tmps.getD t undef))/\(A04 L t=none->C3 st be oe (O3 st.fr t) (a.tmps.getD t undef))∨Operand.tmp t ∉ o.op.operands)
  (ay:∀ x∈bs,∀ y,A04 L x.d=some y->y=(x.ch,.pu (.val (.bool x.e)))) (ah:∀ x∈bs,V03 bs x.j=some x) (aw:∀ x∈bs,∃ y,A04 L x.d=some y)
  (U:∀ {fr:List (Nat×AV)},(∀ t,C3 st be oe (O3 fr t) (a.tmps.getD t undef))->Sim P h0 w0 be oe H { st with fr:=fr } h a w) {Q:Exit->Act->World->Prop} :
  o.wp P a w (λF l=>∃ v be' oe' D,F=a.put o.dst v/\(∃ fr,Sim P h0 w0 be' oe' D { st with fr:=fr } h a l)/\F7 st be oe st be' oe'/\C3 st be' oe' av v) Q:=by
 have I:Sim P h0 w0 be oe H { st with fr:=[] } h a w:=U (λt=>trivial)
 have rd:∀(x:Operand) (J:List (Nat×Bool)),cB bs J=some true->(∀ t,x = .tmp t->Operand.tmp t∈o.op.operands)->C3 st be oe (rdU L st J x) (a.eval x):=by
  intro x J af f
  cases x with
  |tmp t =>
   have Z:=(am t).resolve_right (λC=>C (f t rfl))
   simp only[rdU]
   split
   ·rename_i ar A e
    split
    ·rename_i S
     have:=Z.1 _ e (H09 S af)
     have g:C3 st be oe A (a.tmps.getD t undef):=this
     have z:=I.rdA (C3.fr (st:=st) (fr:=[]) g)
     have p:rdA { st with fr:=[] } A=rdA st A:=by obtain⟨n,fr,bx,ow⟩:=st;cases A<;>rfl
     rw[p]at z
     exact C3.fr (st := { st with fr:=[] }) (fr:=st.fr) z
    ·trivial
   ·trivial
   ·rename_i e
    have g:=Z.2 e
    have z:=I.rdA (C3.fr (st:=st) (fr:=[]) g)
    have p:rdA { st with fr:=[] } (O3 st.fr t)=rdA st (O3 st.fr t):=by obtain⟨n,fr,bx,ow⟩:=st;cases O3 fr t<;>rfl
    rw[p]at z
    exact C3.fr (st := { st with fr:=[] }) (fr:=st.fr) z
  |const v=>exact rfl
  |global v=>trivial
  |func v=>exact rfl
 have done:∀ {v:Value},(∀ l,(execOp a.eval o).run P l = .ok (.value v) l ∨ ¬ Vis H l)->C3 st be oe av v->o.wp P a w (λF l=>∃ v be' oe' D,F=a.put o.dst v/\(∃ fr,Sim P h0 w0 be' oe' D { st with fr:=fr } h a l)/\F7 st be oe st be' oe'/\C3 st be' oe' av v) Q:=λ{v} m g =>
  w8 ((m w).resolve_right λC=>C I.mv.vis) ⟨v,be,oe,H,rfl,⟨[],I⟩,F7.refl _ _ _,g⟩
 unfold f0a at c
 split at c
 ·rename_i x f
  have g:=rd x ch B (λt e=>by rw[f];simp[Op.operands,e])
  refine done (v:=a.eval x) (λl => .inl (by unfold execOp;rw[f];rfl)) ?_
  revert c
  cases m:rdU L st ch x<;>intro c<;>first|(cases c;done)|(cases c;rw[m]at g;exact g)
 ·rename_i x f
  have g:=rd x ch B (λt e=>by rw[f];simp[Op.operands,e])
  refine done (v:=a.eval x) (λl => .inl (by unfold execOp;rw[f];rfl)) ?_
  revert c
  cases m:rdU L st ch x<;>intro c<;>first|(cases c;done)|(cases c;rw[m]at g;exact g)
 ·rename_i t x f
  have g:=rd x ch B (λt e=>by rw[f];simp[Op.operands,e])
  split at c
  ·rename_i i off m
   rw[m]at g
   split at c
   ·rename_i cs ty C
    have ao:∃ u,x = .tmp u:=by
     cases x with
     |tmp u=>exact⟨u,rfl⟩
     |const v=>simp[rdU,rdO]at m
     |global v=>simp[rdU,rdO]at m
     |func v=>simp[rdU,rdO]at m
    obtain⟨u,rfl⟩:=ao
    have ag:Z8 P o { st with fr:=[(u,.box i off)] } h λT st' h'=>T=av/\st' = { st with fr:=[(u,.box i off)] }/\h'=h:=by
     have ak:rdO { st with fr:=[(u,.box i off)] } (.tmp u) = .box i off:=by
      show rdA _ (O3 [(u,AV.box i off)] u)=_
      rw[i4,if_pos rfl]
      simp only[rdA,C]
     simp only[Z8,f,ak,C]
     grind[T0e,P05,N0e,d6]
    have s1:=U (fr:=[(u,.box i off)]) (λaz=>by
     rw[i4]
     split
     ·rename_i e;subst e;exact g
     ·trivial)
    refine Oper.wp_mono (λF l f=>?_) (Q00 s1 ag)
    obtain⟨T,st',au,v,be',oe',D,⟨K,p,ac⟩,ae,s2,z,G⟩:=f
    rw[p,ac]at s2
    rw[K,p]at z
    rw[p]at G
    exact⟨v,be',oe',D,ae,⟨_,s2⟩,⟨G.bl,G.be,G.sm⟩,C3.fr (st := { st with fr:=[(u,.box i off)] }) (fr:=st.fr) z⟩
   ·cases c
  ·cases c
 ·rename_i t x k f
  have g:=rd x ch B (λt e=>by rw[f];simp[Op.operands,e])
  split at c
  ·rename_i i off M m Y
   rw[m]at g
   cases c
   refine done (v:=ptr (be i) (off+M)) (λl=>?_) ⟨g.1,rfl⟩
   by_cases hvis:Vis H l
   ·exact .inl (R.run_of (R.exec_fieldAddr (H:=H) f Y g.2) l hvis)
   ·exact .inr hvis
  ·rename_i sl j sz aq M m Y
   rw[m]at g
   cases c
   obtain⟨b,aa,n,ab,K,p⟩:=g
   refine done (v:=ptr b (aa+(j.toNat*sz+aq)+M)) (λl=>?_) ⟨b,aa,n,ab,K,by simp[Nat.add_assoc]⟩
   grind[Vis,R.run_of,R.exec_fieldAddr]
  ·cases c
 ·rename_i s x y f
  have g:=rd (.tmp s) ch B (λt e=>by rw[f];cases e;simp[Op.operands])
  split at c
  ·rename_i e q S aj
   rw[S]at g
   have ad:a.eval (.tmp s) = .bool e:=g
   split at c
   ·rename_i al
    obtain⟨ai,ax⟩:=Q0c aj
    have W:=H09 al B
    have X:q.e=e:=by
     grind[rdU,bool,Go.H.rdA]
    have V:=ah q ai
    split at c
    ·rename_i bx by_ an ap
     cases c
     refine done (v := .bool (cond e bx by_)) (λl => .inl ?_) rfl
     unfold execOp;rw[f]
     simp only[ad,Sem.run_bind,asBool,Sem.run_pure,Result.andThen_ok]
     cases e with
     |true =>
      have O:cB bs ((q.j,true)::q.ch)=some true:=by
       rw[E05,V,W];simp[lit,X]
      have E:=rd x _ O (λt e=>by rw[f];simp[Op.operands,e])
      rw[an]at E
      have N:a.eval x = .bool bx:=E
      simp[N]
     |false =>
      have O:cB bs ((q.j,false)::q.ch)=some true:=by
       rw[E05,V,W];simp[lit,X]
      have E:=rd y _ O (λt e=>by rw[f];simp[Op.operands,e])
      rw[ap]at E
      have N:a.eval y = .bool by_:=E
      simp[N]
    ·cases c
   ·cases c
  ·cases c
 ·cases c
theorem Sim.untail{st:St}{t:List Own}(s:Sim P h0 w0 be oe H { st with ow:=st.ow++t } h a w)(hf:∀ u,C3 st be oe (O3 st.fr u) (a.tmps.getD u undef))
  (k:∀ i cs ty,nth st.bx i=some (.live cs ty)->∃ vs,Y2 st oe cs vs/\H (be i)=some (.cells vs.toArray ty (0,0))):Sim P h0 w0 be oe H st h a w:=by
 have up:∀ i o,nth st.ow i=some o->nth (st.ow++t) i=some o:=λi o b=>by
  grind[W05,List.getElem?_append_left,List.getElem?_eq_some_iff]
 refine⟨s.mv,s.sub,λi cs ty b=>⟨(s.box i cs ty b).1,k i cs ty b⟩,s.pub,λi s' e sz by_ nn xs b=>s.own i s' e sz by_ nn xs (up i _ b),λi s' v b=>s.frz i s' v (up i _ b),s.bb,
  λi j s1 e sz by_ nn xs s2 f m d l n g b c=>s.oo i j s1 e sz by_ nn xs s2 f m d l n g (up i _ b) (up j _ c),λi cs ty j s1 e sz by_ nn xs b c=>s.bo i cs ty j s1 e sz by_ nn xs b (up j _ c),s.dfr,s.siz,hf⟩
def E0a(P:Program)(h0:Hp)(w0:World)(ops:Array Oper)(st:St)(h:Hp)(A:Asg)(sk:Nat->Bool)(kp:List (Nat×Value))(listed:Array Bool)(a:Act)(w:World):Prop :=
 ∃ be oe H h',Sub h h'/\Sim P h0 w0 be oe H { st with fr:=K4 ops.toList st.fr } h' a w/\(∀ p∈kp,a.tmps.getD p.1 undef=p.2) /\
  ∀ j o d,sk j=false->ops[j]?=some o->o.dst=some d->listed.getD j false=true->((A j).2.1=true->U06 st be oe h' (A j).2.2 (a.tmps.getD d undef))/\((A j).2.1=false->a.tmps.getD d undef=undef)
theorem d0t{st st':St}(t:B0m st st'):∃ r,st' = { st with ow:=st.ow++r }:=by
 obtain⟨n,fr,bx,ow⟩:=st
 obtain⟨g,b,a,h⟩:=st'
 obtain⟨c,d,e,r,f⟩:=t
 grind
theorem e0t{b:Type}{l r:List b}{i:Nat}(a:i<l.length):nth (l++r) i=nth l i:=by
 rw[W05,W05,List.getElem?_append_left a]
theorem E0h{st:St}{r:List Own}{i s:Nat}(a:stamp st i=some s):stamp { st with ow:=st.ow++r } i=some s:=by
 grind[stamp,nth,e0t,T02]
theorem P0t{ops:Array Oper}{st:St}{A:Asg}{sk:Nat->Bool}{kp:List (Nat×Value)}{bg:FL}{ai:List BE}{listed:Array Bool}{j:Nat}{o:Oper}{Q:Exit->Act->World->Prop}
  (bt:∀(i j:Nat) (f a1:Oper) (d:Nat),ops.toList[i]?=some f->ops.toList[j]?=some a1->f.dst=some d->a1.dst=some d->i=j)
  (ak:∀ o∈ops.toList,∀ d,o.dst=some d->d<st.n)
  (br:∀(k:Nat) (o:Oper),ops.toList[k]?=some o->∀ e∈o.after,Region.binds .any e=true->e.on<k)
  (aP:∀ o∈ops.toList,∀ t,Operand.tmp t∈o.op.operands->∀(i:Nat) (f:Oper),ops.toList[i]?=some f->f.dst=some t->∃ e∈o.after,Region.binds .any e=true/\e.on=i)
  (bF:∀ o∈ops.toList,∀ i w,o.guard=some (i,w)->Q8 i o=true)
  (aq:e0h ops.toList A bg ai ops.toList.length)
  (aN:∀ j o,ops.toList[j]?=some o->∃ U E,b01 ai o.guard=some (A j).1/\e0h ops.toList A U E j/\X09 E ai/\cB E (A j).1=some (A j).2.1/\(OpU P st h U E o (A j).1 (A j).2.1 (A j).2.2/\∀ av,f0a P U E (A j).1 o st=some av->(A j).2.2 = .pu av))
  (cb:sk j=false) (cd:∀(i:Nat) (f:Oper) (d:Nat),ops.toList[i]?=some f->f.dst=some d->sk i=true->∀ D∈ops.toList,Operand.tmp d ∉ D.op.operands)
  (bP:∀ i,sk i=true->(A i).2.2 = .pu (.val undef)) (cc:∀ p∈kp,∃(i:Nat) (f:Oper),ops.toList[i]?=some f/\f.dst=some p.1/\sk i=true)
  (aR:ops[j]?=some o) (aU:∀ e∈o.after,Region.binds .any e=true->listed.getD e.on false=true) (ag:E0a P h0 w0 ops st h A sk kp listed a w) :
  (Region.wanted o (yielded ops a.tmps)=true->o.wp P a w (E0a P h0 w0 ops st h A sk kp (listed.setIfInBounds j true)) Q) /\
  (Region.wanted o (yielded ops a.tmps)=false->E0a P h0 w0 ops st h A sk kp (listed.setIfInBounds j true) (a.put o.dst undef) w):=by
 obtain⟨be,oe,H,h',aE,s,keep,ay⟩:=ag
 have al:ops.toList[j]?=some o:=by simpa using aR
 have aj:o∈ops.toList:=List.mem_of_getElem? al
 have aQ:j<ops.toList.length:=(List.getElem?_eq_some_iff.1 al).1
 obtain⟨U,E,ab,X,bT,ar,M,_⟩:=aN j o al
 have af:cB ai (A j).1=some (A j).2.1:=aq.p3 j aQ aQ
 have aX:Region.wanted o (yielded ops a.tmps)=(A j).2.1:=by
  unfold Region.wanted
  cases hg:o.guard with
  |none =>
   rw[hg]at ab
   cases hch':(A j).1 with
   |nil=>rw[hch']at af;exact oJ af
   |cons p q=>rw[hch']at ab;cases ab
  |some p =>
   obtain⟨i,aJ⟩:=p
   rw[hg]at ab
   simp only[b01]at ab
   split at ab
   ·rename_i b K
    obtain⟨bJ,rfl⟩:=H04 K
    obtain⟨G,⟨D,B,O⟩,an,ae⟩:=aq.p4 b bJ
    have aC:listed.getD b.j false=true:=by
     obtain⟨e,S,bv,am⟩:=K7 (bF o aj b.j aJ hg)
     rw[←am];exact aU e S bv
    have bO:sk b.j=false:=by
     cases e:sk b.j with
     |false=>rfl
     |true=>rw[bP b.j e]at ae;cases ae
    have hf:=ay b.j D b.d bO (by simpa using B) O aC
    have aO:=aq.p3 b.j G G
    rw[an]at aO
    have ac:b.d<a.tmps.size:=by rw[s.siz];exact ak D (List.mem_of_getElem? B) b.d O
    have aG:a.tmps[b.d]?=some (if(A b.j).2.1=true then .bool b.e else undef):=by
     rw[Array.getElem?_eq_getElem ac]
     have bG:a.tmps.getD b.d undef=a.tmps[b.d]:=by simp[ac]
     cases L:(A b.j).2.1 with
     |true =>
      have:=hf.1 L
      rw[ae,bG]at this
      have J:a.tmps[b.d] = .bool b.e:=this
      rw[J];rfl
     |false =>
      grind
    have aH:yielded ops a.tmps b.j=if(A b.j).2.1=true then some b.e else none:=by
     unfold yielded
     have:ops[b.j]?=some D:=by simpa using B
     simp only[this,O,oB,aG]
     cases (A b.j).2.1<;>rfl
    have bC:(A j).1=(b.j,aJ)::b.ch:=by
     grind
    rw[bC,E05,K,aO]at af
    simp only[Option.some.injEq]at af
    simp only[aH,←af]
    cases (A b.j).2.1<;>cases aJ<;>cases b.e<;>rfl
   ·cases ab
 have b0:∀ i f,ops.toList[i]?=some f->∀ F,(A i).2.2 = .ef F->∀ v I J,Sub I J->F v I->F v J:=λi f au F bu=>by
  obtain⟨b1,b4,_,_,_,_,aS,_⟩:=aN i f au
  rw[bu]at aS
  exact aS.1
 have fin:∀ {fr:List (Nat×AV)} {ad:Act} {T:World} {R:Hp} {be':Nat->Nat} {oe':Nat->Value} {N:Hp} {v:Value},Sub h' R->ad=a.put o.dst v->Sim P h0 w0 be' oe' N { st with fr:=fr } R a T ->
   F7 st be oe st be' oe'->((A j).2.1=true->U06 st be' oe' R (A j).2.2 v)->((A j).2.1=false->v=undef)->E0a P h0 w0 ops st h A sk kp (listed.setIfInBounds j true) ad T:=by
  intro fr ad T R be' oe' N v aW aa s' ao aG bQ
  subst aa
  have bp:F7 { st with fr:=K4 ops.toList st.fr } be oe { st with fr:=K4 ops.toList st.fr } be' oe':=⟨ao.bl,ao.be,ao.sm⟩
  have s1:Sim P h0 w0 be' oe' N { st with fr:=K4 ops.toList st.fr } R a T :=
   s'.refr (fr:=K4 ops.toList st.fr) λt=>C3.fr (st := { st with fr:=K4 ops.toList st.fr }) ((s.fr t).grow bp)
  have s2:Sim P h0 w0 be' oe' N { st with fr:=K4 ops.toList st.fr } R (a.put o.dst v) T:=by
   cases W:o.dst with
   |none=>exact s1
   |some d =>
    have aD:=s1.put (d:=d) (av := .dead) (v:=v) (ak o aj d W) trivial
    refine aD.refr (fr:=K4 ops.toList st.fr) λt=>?_
    have g:=aD.fr t
    grind[i4,n03]
  have cn:∀ d,o.dst≠some d->(a.put o.dst v).tmps.getD d undef=a.tmps.getD d undef:=λd W=>by
   cases aB:o.dst with
   |none=>rfl
   |some V=>simp[Act.put,Array.getElem?_setIfInBounds_ne (λe=>W (by rw[aB,e]):V≠d)]
  refine⟨be',oe',N,R,λb x K=>aW b x (aE b x K),s2,λp aD=>?_,λi f d aF I J aM=>?_⟩
  ·grind
  by_cases hij:j=i
  ·subst hij
   rw[aR]at I;cases I
   have ac:d<a.tmps.size:=by rw[s.siz];exact ak o aj d J
   have:(a.put o.dst v).tmps.getD d undef=v:=by
    rw[J]
    simp[Act.put,ac]
   rw[this]
   exact⟨aG,bQ⟩
  ·have bI:listed.getD i false=true:=by rw[getD_set_ne false hij]at aM;exact aM
   have bL:∀ V,o.dst=some V->V≠d:=λV aB e=>by
    subst e
    exact hij (bt j i o f V al (by simpa using I) aB J)
   have:(a.put o.dst v).tmps.getD d undef=a.tmps.getD d undef:=by
    cases W:o.dst with
    |none=>rfl
    |some V=>simp[Act.put,Array.getElem?_setIfInBounds_ne (bL V W)]
   rw[this]
   obtain⟨ah,bU⟩:=ay i f d aF I J bI
   refine⟨λL=>?_,bU⟩
   have ah:=ah L
   cases hA:(A i).2.2 with
   |pu av=>rw[hA]at ah;exact C3.grow ao ah
   |ef F=>rw[hA]at ah;exact b0 i f (by simpa using I) F hA _ _ _ aW ah
 refine⟨λbS=>?_,λbR=>?_⟩
 rotate_left
 ·have L:(A j).2.1=false:=by rw[←aX];exact bR
  exact fin (fr:=K4 ops.toList st.fr) (λ_ _ h=>h) rfl s (F7.refl _ _ _) (λh=>by rw[L]at h;cases h) (λ_=>rfl)
 have L:(A j).2.1=true:=by rw[←aX];exact bS
 rw[L]at ar M
 have ca:cB ai (A j).1=some true:=by rw[af,L]
 have bZ:∀ t x,A04 U t=some x->h0j st be oe h' E x (a.tmps.getD t undef)∨Operand.tmp t ∉ o.op.operands:=λt x m=>by
  by_cases C:Operand.tmp t∈o.op.operands
  ·refine .inl λbE=>?_
   obtain⟨i,f,G,B,O,an,ae⟩:=X.p1 t x (L05 m)
   obtain⟨e,S,K,am⟩:=aP o aj t C i f B O
   have aC:listed.getD i false=true:=by rw[←am];exact aU e S K
   have bD:(A i).2.1=true:=by
    have I:=aq.p3 i (List.getElem?_eq_some_iff.1 B).1 (List.getElem?_eq_some_iff.1 B).1
    rw[an,bT.c _ _ bE]at I
    exact(oJ I).symm
   have aF:sk i=false:=by
    grind
   have:=(ay i f t aF (by simpa using B) O aC).1 bD
   rwa [ae]at this
  ·exact .inr C
 have bo:∀ t,Operand.tmp t∈o.op.operands->A04 U t=none->C3 st be oe (O3 st.fr t) (a.tmps.getD t undef):=λt C bM=>by
  have g:=s.fr t
  have bK:O3 (K4 ops.toList st.fr) t=O3 st.fr t:=m02 λD bN W=>by
   obtain⟨i,ag,e⟩:=List.getElem_of_mem bN
   have au:ops.toList[i]?=some D:=by rw[List.getElem?_eq_getElem ag,e]
   obtain⟨bn,S,K,am⟩:=aP o aj t C i D au W
   have ac:=br j o al bn S K
   rw[am]at ac
   obtain⟨x,m⟩:=X.p2 i D t ac au W
   rw[bM]at m;cases m
  rw[←bK]
  exact C3.fr (st := { st with fr:=K4 ops.toList st.fr }) (fr:=st.fr) g
 have a2:∀ t,Operand.tmp t∈o.op.operands->(∀ x,A04 U t=some x->h0j st be oe h' E x (a.tmps.getD t undef))/\(A04 U t=none->C3 st be oe (O3 st.fr t) (a.tmps.getD t undef)):=λt C =>
  ⟨λx m=>(bZ t x m).resolve_right λak=>ak C,bo t C⟩
 have mk:∀ {fr:List (Nat×AV)},(∀ t,C3 st be oe (O3 fr t) (a.tmps.getD t undef))->Sim P h0 w0 be oe H { st with fr:=fr } h' a w:=λ{fr} g=>s.refr (fr:=fr) λt=>C3.fr (g t)
 cases hA:(A j).2.2 with
 |pu av =>
  rw[hA]at M
  rcases M with M|M
  ·refine Oper.wp_mono (λad T m=>?_) (f0r (be:=be) (oe:=oe) (H:=H) (h:=h') M ar (λt=>?_) (λx m y aH=>?_) (λx m=>?_) (λx m=>?_) mk)
   ·obtain⟨v,be',oe',N,aa,⟨fr,s2⟩,Z,B⟩:=m
    exact fin (λ_ _ h=>h) aa s2 Z (λ_=>by rw[hA];exact B) (λh=>by rw[L]at h;cases h)
   ·grind
   ·obtain⟨G,⟨D,B,O⟩,an,ae⟩:=X.p4 x m
    obtain⟨i,f,aZ,a0,ce,cf,cg⟩:=X.p1 x.d y (L05 aH)
    grind
   ·have key:∀(l:List BE),x∈l->∃ b,V03 l x.j=some b:=by
     intro l
     induction l with
     |nil=>intro h;cases h
     |cons z l aY =>
      intro h
      simp only[V03]
      split
      ·exact⟨_,rfl⟩
      grind[absurd,Nat.ne_of_beq_eq_false]
    obtain⟨b,K⟩:=key E m
    obtain⟨bA,bz⟩:=H04 K
    obtain⟨_,⟨ci,aw,aK⟩,aL,ax⟩:=X.p4 b bA
    obtain⟨_,⟨cj,bi,bj⟩,bk,bm⟩:=X.p4 x m
    rw[bz]at aw aL ax
    rw[bi]at aw;cases aw
    rw[bj]at aK
    rw[bm]at ax
    have b6:x.d=b.d:=by simpa using aK
    have b7:x.ch=b.ch:=bk.symm.trans aL
    have b8:x.e=b.e:=by simpa using ax
    rw[K]
    obtain⟨b5,b3,be',b2⟩:=b
    obtain⟨cu,cr,ct,cq⟩:=x
    grind
   ·obtain⟨G,⟨D,B,O⟩,_,_⟩:=X.p4 x m
    exact X.p2 x.j D x.d G B O
  ·obtain⟨fr,S,g⟩:=W02 (acc:=[]) (be:=be) (oe:=oe) (val:=λt=>a.tmps.getD t undef) ar (λt=>trivial) (λt C=>a2 t (by simpa using C)) (X08 (bs:=E) (M h' aE) rfl)
   refine Oper.wp_mono (λad T m=>?_) (Q00 (mk g) S)
   obtain⟨bh,st',R,v,be',oe',N,⟨rfl,rfl,rfl⟩,aa,s2,B,Z⟩:=m
   exact fin (λ_ _ h=>h) aa s2 ⟨Z.bl,Z.be,Z.sm⟩ (λ_=>by rw[hA];exact C3.fr (st := { st with fr:=fr }) (fr:=st.fr) B) (λh=>by rw[L]at h;cases h)
 |ef F =>
  rw[hA]at M
  obtain⟨_,M⟩:=M
  obtain⟨fr,S,g⟩:=W02 (acc:=[]) (be:=be) (oe:=oe) (val:=λt=>a.tmps.getD t undef) ar (λt=>trivial) (λt C=>a2 t (by simpa using C)) (X08 (bs:=E) (M h' aE) rfl)
  refine Oper.wp_mono (λad T m=>?_) (F0k (mk g) S)
  obtain⟨bh,st',R,v,be',oe',N,bH,aa,s2,B,Z⟩:=m
  obtain⟨cl,J,⟨C,aZ,a0⟩,bd,bq⟩:=X03 s2 B bH
  obtain⟨r,rfl⟩:=d0t C
  have ap:F7 st be oe st be' oe':=by
   have aA:=Z.trans bq
   refine⟨aA.bl,aA.be,λi bc aV=>?_⟩
   obtain⟨s1,a3,ck,a4⟩:=aA.sm i bc aV
   have a5:stamp { n:=st.n,fr:=fr,bx:=st.bx,ow:=st.ow++r } i=some bc:=E0h (st := { st with fr:=fr }) aV
   grind
  have bB:∀ i cs ty,nth st.bx i=some (.live cs ty)->∃ vs,Y2 { st with fr:=fr } oe' cs vs/\N (be' i)=some (.cells vs.toArray ty (0,0)):=λi cs ty ag=>by
   obtain⟨_,Y,a3,_⟩:=s.box i cs ty ag
   obtain⟨_,vs,a4,a5⟩:=bd.box i cs ty ag
   refine⟨vs,?_,a5⟩
   have key:∀(cs:List c6) (Y vs:List Value),Y2 { st with fr:=K4 ops.toList st.fr } oe cs Y->Y2 { n:=st.n,fr:=fr,bx:=st.bx,ow:=st.ow++r } oe' cs vs->Y2 { st with fr:=fr } oe' cs vs:=by
    intro cs
    induction cs with
    |nil=>intro Y vs _ g;cases vs with
     |nil=>trivial
     |cons v vs=>exact g.elim
    |cons c cs aY =>
     intro Y vs az G
     cases Y with
     |nil=>exact az.elim
     |cons co Y =>
      cases vs with
      |nil=>exact G.elim
      |cons cp vs =>
       refine⟨?_,aY Y vs az.2 G.2⟩
       cases c with
       |val x=>exact G.1
       |own k s1 =>
        obtain⟨bf,ba,_,_⟩:=az.1
        obtain⟨cm,bb,bV,bW⟩:=G.1
        have bX:stamp { n:=st.n,fr:=fr,bx:=st.bx,ow:=st.ow++r } k=some bf:=E0h (st := { st with fr:=fr }) ba
        rw[bX]at bb
        cases bb
        exact⟨bf,ba,bV,bW⟩
   exact key cs Y vs a3 a4
  have bY:Sim P h0 w0 be' oe' N { st with fr:=fr } J a T:=Sim.untail (st := { st with fr:=fr }) (t:=r) bd (λu=>C3.grow (st := { st with fr:=fr }) (st' := { st with fr:=fr }) ⟨ap.bl,ap.be,ap.sm⟩ (C3.fr (g u))) bB
  exact fin (fr:=fr) aZ aa bY ap (λ_=>by rw[hA];exact a0) (λh=>by rw[L]at h;cases h)
theorem E0a.start{ops:Array Oper}{st:St}{A:Asg}{sk:Nat->Bool}(s:Sim P h0 w0 be oe H st h a w):E0a P h0 w0 ops st h A sk [] (Array.replicate ops.size false) a w:=by
 refine⟨be,oe,H,h,λ_ _ h=>h,s.refr (fr:=K4 ops.toList st.fr) λt=>?_,λp i=>(by cases i),λj o d _ c e b=>?_⟩
 ·by_cases hx:∃ o∈ops.toList,o.dst=some t
  ·obtain⟨o,c,e⟩:=hx
   rw[n03 c e]
   trivial
  ·rw[m02 λo g f=>hx ⟨o,g,f⟩]
   exact s.fr t
 ·simp[Array.getElem?_replicate]at b
  split at b<;>cases b
theorem b0o{ops:Array Oper}{st:St}{A:Asg}{sk:Nat->Bool}{kp:List (Nat×Value)}{q:FL}{D:List BE}{K:St->Hp->Prop}{listed:Array Bool}
  (T:∀ i,sk i=true->(A i).2.2 = .pu (.val undef)) (X:∀(i j:Nat) (b C:Oper) (d:Nat),ops.toList[i]?=some b->ops.toList[j]?=some C->b.dst=some d->C.dst=some d->i=j)
  (c:e0h ops.toList A q D ops.toList.length) (N:∀ h',Sub h h'->Y0e h' q st.fr λfr=>K { st with fr:=fr } h') (aa:∀ j,j<ops.size->listed.getD j false=true)
  (f:E0a P h0 w0 ops st h A sk kp listed a w):∃ be oe H h' fr,K { st with fr:=fr } h'/\Sim P h0 w0 be oe H { st with fr:=K4 ops.toList st.fr } h' a w/\(∀ p∈kp,a.tmps.getD p.1 undef=p.2) /\
   ∀ t,(∀(i:Nat) (b:Oper),ops.toList[i]?=some b->b.dst=some t->sk i=false)->C3 st be oe (O3 fr t) (a.tmps.getD t undef):=by
 obtain⟨be,oe,H,h',S,s,keep,W⟩:=f
 have M:∀ t,(∃(i:Nat) (b:Oper),ops.toList[i]?=some b/\b.dst=some t/\sk i=true) ∨ ¬ ∃(i:Nat) (b:Oper),ops.toList[i]?=some b/\b.dst=some t/\sk i=true:=λt=>Classical.em _
 have l:∃ val:Nat->Value,∀ t,((∃(i:Nat) (b:Oper),ops.toList[i]?=some b/\b.dst=some t/\sk i=true)->val t=undef)/\((¬ ∃(i:Nat) (b:Oper),ops.toList[i]?=some b/\b.dst=some t/\sk i=true)->val t=a.tmps.getD t undef) :=
  Classical.axiomOfChoice (r:=λt v=>((∃(i:Nat) (b:Oper),ops.toList[i]?=some b/\b.dst=some t/\sk i=true)->v=undef)/\((¬ ∃(i:Nat) (b:Oper),ops.toList[i]?=some b/\b.dst=some t/\sk i=true)->v=a.tmps.getD t undef)) λt=>by
   rcases M t with h|h
   ·exact⟨undef,λ_=>rfl,λn=>absurd h n⟩
   grind
 obtain⟨val,l⟩:=l
 obtain⟨fr,Z,g⟩:=D0h (st:=st) (be:=be) (oe:=oe) (val:=val) (λp R J=>by
  obtain⟨t,x⟩:=p
  obtain⟨i,b,h0,E,F,G,I⟩:=c.p1 t x R
  cases hsk:sk i with
  |true =>
   have e:=(l t).1 ⟨i,b,E,F,hsk⟩
   have u:=T i hsk
   rw[I]at u
   show U06 st be oe h' x.2 (val t)
   rw[u,e];exact rfl
  |false =>
  have y : ¬ ∃(i:Nat) (b:Oper),ops.toList[i]?=some b/\b.dst=some t/\sk i=true:=λ⟨k,ok,o,B,U⟩=>by
   grind
  have Y:(A i).2.1=true:=by
   have:=c.p3 i h0 h0
   rw[G,show x.1 = [] from J]at this
   exact(oJ this).symm
  grind) (λt z=>by
  have y : ¬ ∃(i:Nat) (b:Oper),ops.toList[i]?=some b/\b.dst=some t/\sk i=true:=λ⟨k,ok,o,B,U⟩=>by
   obtain⟨x,m⟩:=c.p2 k ok t (List.getElem?_eq_some_iff.1 o).1 o B
   exact z x (L05 m)
  rw[(l t).2 y]
  have O:O3 (K4 ops.toList st.fr) t=O3 st.fr t:=m02 λV Q L=>by
   obtain⟨i,f,e⟩:=List.getElem_of_mem Q
   obtain⟨x,m⟩:=c.p2 i V t f (by rw[List.getElem?_eq_getElem f,e]) L
   exact z x (L05 m)
  have:=s.fr t
  rw[O]at this
  exact C3.fr (st := { st with fr:=K4 ops.toList st.fr }) (fr:=st.fr) this) (N h' S)
 grind
theorem W07:∀ {l:List Oper},A0e l=true->∀ o∈l,∀ i w,o.guard=some (i,w)->Q8 i o=true
 | [],h,o,a=>by cases a
 |y::r,h,o,a=>by
  simp only[A0e,Bool.and_eq_true]at h
  rcases List.mem_cons.1 a with rfl|a
  ·grind
  ·exact W07 h.2 o a
theorem f0v{ops:Array Oper}{Q:Exit->Act->World->Prop}{Inv:Array Bool->Act->World->Prop}(hB:∀(k:Nat) (o:Oper),ops.toList[k]?=some o->∀ e∈o.after,Region.binds .any e=true->e.on<k)
  (hstep:∀ listed a w j o,ops[j]?=some o->(∀ e∈o.after,Region.binds .any e=true->listed.getD e.on false=true)->Inv listed a w ->
   (Region.wanted o (yielded ops a.tmps)=true->o.wp P a w (Inv (listed.setIfInBounds j true)) Q)/\(Region.wanted o (yielded ops a.tmps)=false->Inv (listed.setIfInBounds j true) (a.put o.dst undef) w))
  (hQ:∀ listed a w,(∀ j,j<ops.size->listed.getD j false=true)->Inv listed a w->Q .normal a w) :
  ∀(fuel:Nat) (listed:Array Bool) (a:Act) (w:World),listed.size=ops.size->listed.toList.count true+fuel=ops.size->Inv listed a w->wpAny P .any ops Q fuel listed a w
 |0,listed,a,w,hsz,hc,hi=>by
  have hall':∀ j,j<ops.size->listed.getD j false=true:=λj hj=>by
   have h1:∀ b∈listed.toList,true=b:=List.count_eq_length.1 (by grind)
   have hlt:j<listed.size:=by omega
   have:=h1 listed[j] (by simp)
   simp[hlt,←this]
  refine⟨?_,hQ listed a w hall' hi⟩
  simp_all[Region.ready,List.mem_cons_self,mem_ready,Array.getElem?_eq_some_iff]
 |fuel+1,listed,a,w,hsz,hc,hi=>by
  refine⟨λhr=>hQ listed a w (S0c hB hsz hr) hi,λj hj=>?_⟩
  obtain⟨h1,o,h2,h3⟩:=mem_ready.1 hj
  unfold wpOp
  simp only[h2]
  obtain⟨ht,hf⟩:=hstep listed a w j o h2 h3 hi
  have next:∀ a' w',Inv (listed.setIfInBounds j true) a' w'->wpAny P .any ops Q fuel (listed.setIfInBounds j true) a' w':=λa' w' hi'=>f0v hB hstep hQ fuel _ a' w' (by simpa using hsz) (by rw[count_set h1];omega) hi'
  cases hw:Region.wanted o (yielded ops a.tmps)with
  |true =>
   rw[if_pos rfl]
   exact .inl (Oper.wp_mono next (ht hw))
  |false =>
   grind
theorem Q0t{ops:Array Oper}{Q:Exit->Act->World->Prop}{Inv:Array Bool->Act->World->Prop}(hB:∀(k:Nat) (o:Oper),ops.toList[k]?=some o->∀ e∈o.after,Region.binds .any e=true->e.on<k)
  (hstep:∀ listed a w j o,ops[j]?=some o->(∀ e∈o.after,Region.binds .any e=true->listed.getD e.on false=true)->Inv listed a w ->
   (Region.wanted o (yielded ops a.tmps)=true->o.wp P a w (Inv (listed.setIfInBounds j true)) Q)/\(Region.wanted o (yielded ops a.tmps)=false->Inv (listed.setIfInBounds j true) (a.put o.dst undef) w))
  (hQ:∀ listed a w,(∀ j,j<ops.size->listed.getD j false=true)->Inv listed a w->Q .normal a w) :
  ∀(l:List Oper) (k:Nat) (listed:Array Bool) (a:Act) (w:World),(∀ j,l[j]?=ops.toList[k+j]?)->k+l.length=ops.size->listed.size=ops.size->(∀ j,j<k->listed.getD j false=true)->Inv listed a w->wpList P ops Q l a w
 | [],k,listed,a,w,hl,hk,hsz,hp,hi=>hQ listed a w (λj hj=>hp j (by simp at hk;omega)) hi
 |o::l,k,listed,a,w,hl,hk,hsz,hp,hi=>by
  have ho:ops.toList[k]?=some o:=by simpa using (hl 0).symm
  have hl':∀ j,l[j]?=ops.toList[k+1+j]?:=λj=>by have:=hl (j+1);grind
  obtain⟨ht,hf⟩:=hstep listed a w k o (by simpa using ho) (λe he hb=>hp _ (hB k o ho e he hb)) hi
  have next:∀ a' w',Inv (listed.setIfInBounds k true) a' w'->wpList P ops Q l a' w':=λa' w' hi' =>
   Q0t hB hstep hQ l (k+1) _ a' w' hl' (by grind) (by simpa using hsz) (λj hj=>by
    by_cases e:k=j
    ·subst e
     have:k<listed.size:=by grind
     simp[this]
    ·rw[getD_set_ne false e];exact hp j (by omega)) hi'
  unfold wpList
  cases hw:Region.wanted o (yielded ops a.tmps)with
  |true =>
   rw[if_pos rfl]
   exact .inl (Oper.wp_mono next (ht hw))
  |false =>
   grind
theorem G0k{ops:Array Oper}{st:St}{K:St->Hp->Prop}{Q:Exit->Act->World->Prop}(hb:W04 st.n ops.toList=true)(he:evU P ops.toList 0 [] [] st h K)
  (hQ:∀ a w st h be oe H,K st h->Sim P h0 w0 be oe H st h a w->Q .normal a w) :
  (∀ {be:Nat->Nat} {oe:Nat->Value} {H:Hp} {a:Act} {w:World},Sim P h0 w0 be oe H st h a w->wpAny P .any ops Q ops.size (Array.replicate ops.size false) a w) /\
  (∀ {be:Nat->Nat} {oe:Nat->Value} {H:Hp} {a:Act} {w:World},Sim P h0 w0 be oe H st h a w->wpList P ops Q ops.toList a w):=by
 simp only[W04,M03,Bool.and_eq_true]at hb
 obtain⟨⟨⟨b1,b2⟩,b3⟩,b4⟩:=hb
 obtain⟨hn,hD⟩:=e06 b1
 have hB:∀(k:Nat) (o:Oper),ops.toList[k]?=some o->∀ e∈o.after,Region.binds .any e=true->e.on<k:=λk o hk e he' hb=>by
  have:=I04 b2 k o hk e he' hb
  omega
 have hdep:=U07 b3
 have hgd:=W07 b4
 obtain⟨A,Lf,Bf,_,_,hP,hall,hfin⟩:=o0f (ops:=ops.toList) hD ops.toList 0 [] [] (λ_=>([],true,.pu .dead)) (λj=>by simp) (by simp)
  ⟨λt x h=>(by cases h),λi oi d hi=>by omega,λi hi=>by omega,λx hx=>(by cases hx)⟩ he
 have step:∀ listed a w j o,ops[j]?=some o->(∀ e∈o.after,Region.binds .any e=true->listed.getD e.on false=true)->E0a P h0 w0 ops st h A (λ_=>false) [] listed a w ->
   (Region.wanted o (yielded ops a.tmps)=true->o.wp P a w (E0a P h0 w0 ops st h A (λ_=>false) [] (listed.setIfInBounds j true)) Q)/\(Region.wanted o (yielded ops a.tmps)=false->E0a P h0 w0 ops st h A (λ_=>false) [] (listed.setIfInBounds j true) (a.put o.dst undef) w) :=
  λlisted a w j o h1 h2 h3=>P0t hD hn hB hdep hgd hP (λj o ho=>hall j o (Nat.zero_le _) ho) rfl (λ_ _ _ _ _ h=>nomatch h) (λ_ h=>nomatch h) (λ_ hp=>nomatch hp) h1 h2 h3
 have done:∀ listed a w,(∀ j,j<ops.size->listed.getD j false=true)->E0a P h0 w0 ops st h A (λ_=>false) [] listed a w->Q .normal a w:=λlisted a w hl hi=>by
  obtain⟨be,oe,H,h',fr,hk,s,_,g⟩:=b0o (sk:=λ_=>false) (λ_ h=>nomatch h) hD hP hfin hl hi
  exact hQ a w _ h' be oe H hk (s.refr (fr:=fr) λt=>C3.fr (g t λ_ _ _ _=>rfl))
 refine⟨λs=>?_,λs=>?_⟩
 ·exact f0v hB step done ops.size _ _ _ (by simp) (by simp[List.count_replicate]) (E0a.start s)
 ·exact Q0t hB step done ops.toList 0 _ _ _ (λj=>by simp) (by simp) (by simp) (λj hj=>by omega) (E0a.start s)
end
def f05(H:Hp):List (Nat×Obj)->Hp
 | []=>H
 |p::l=>(f05 H l).set p.1 p.2
theorem J04{H:Hp}{b:Nat}:∀ {l:List (Nat×Obj)},(∀ p∈l,p.1≠b)->f05 H l b=H b
 | [],_=>rfl
 |p::l,h=>by
  rw[f05,Hp.set_other _ _ λe=>h p mS e.symm]
  exact J04 λq a=>h q (mC _ a)
theorem g06{H:Hp}:∀ {l:List (Nat×Obj)},(l.map λp=>p.1).Nodup->∀ {p:Nat×Obj},p∈l->f05 H l p.1=some p.2
 | [],_,p,h=>nomatch h
 |q::l,a,p,h=>by
  rw[List.map_cons,List.nodup_cons]at a
  rcases List.mem_cons.1 h with rfl|h
  ·exact Hp.set_same _ _ _
  ·rw[f05,Hp.set_other _ _ λe=>a.1 (List.mem_map.2 ⟨p,h,e⟩)]
   exact g06 a.2 h
theorem a09{H:Hp}{l:List (Nat×Obj)}(b:Nat):(∃ p∈l,p.1=b)∨∀ p∈l,p.1≠b:=by
 grind
theorem p0f{a H:Hp}{f w:World}{l:List (Nat×Obj)}(k:Vis (f05 a l) f)(i:∀ p∈l,a p.1=none/\p.1<f.heap.size)(g:(l.map λp=>p.1).Nodup)(m:I3 a f H w):
  I3 (f05 a l) f (f05 H l) w:=by
 refine⟨m.os,m.tape,m.output,m.size,λb e j=>?_,λb o c=>?_,λb e=>?_,m.fz,m.dn⟩
 ·rcases a09 (H:=a) (l:=l) b with⟨p,d,rfl⟩|c
  ·grind[g06]
  ·rw[J04 c]at j;exact m.keep b e j
 ·rcases a09 (H:=a) (l:=l) b with⟨p,d,rfl⟩|h
  ·rw[g06 g d]at c;cases c
   rw[m.keep p.1 (i p d).2 (i p d).1]
   exact k p.1 _ (g06 g d)
  ·rw[J04 h]at c;exact m.vis b o c
 ·rcases a09 (H:=a) (l:=l) b with⟨p,d,rfl⟩|h
  ·grind[g06]
  ·rw[J04 h]at e ⊢
   exact m.fresh b e
section
variable {P:Program} {h0:Hp} {w0:World} {be:Nat->Nat} {oe:Nat->Value} {H:Hp} {h:Hp} {a:Act} {w:World}
theorem Sim.base{st:St}(s:Sim P h0 w0 be oe H st h a w){b:Hp}{d c:World}(m:I3 b d H c):Sim P b d be oe H st h a c :=
 ⟨m,s.sub,s.box,s.pub,s.own,s.frz,s.bb,s.oo,s.bo,s.dfr,s.siz,s.fr⟩
theorem Sim.more{st:St}(s:Sim P h0 w0 be oe H st h a w){l:List (Nat×Obj)}(u:∀ p∈l,H p.1=none){f:Hp}{j:World}(m:I3 f j (f05 H l) w):Sim P f j be oe (f05 H l) st h a w:=by
 have keep:∀ b,H b≠none->f05 H l b=H b:=λb c=>J04 λp v e=>c (by grind)
 refine⟨m,λb o c=>by rw[keep b (by rw[s.sub b o c];simp)];exact s.sub b o c,λi cs ty d=>?_,s.pub,λi s' e sz by_ nn xs d=>?_,s.frz,s.bb,s.oo,s.bo,s.dfr,s.siz,s.fr⟩
 ·obtain⟨n,vs,q,t⟩:=s.box i cs ty d
  grind
 ·refine(s.own i s' e sz by_ nn xs d).keep λg k=>?_
  obtain⟨x,_,_,_,y⟩:=(s.own i s' e sz by_ nn xs d).block k
  grind
theorem Sim.claim{st:St}(s:Sim P h0 w0 be oe H st h a w){cs:List c6}{vs:List Value}{t:TypeId}{b:Nat}(C:Y2 st oe cs vs)(B:H b=some (.cells vs.toArray t (0,0)))(D:h b=none)
  (I:∀ i cs ty,nth st.bx i=some (.live cs ty)->be i≠b) (J:∀ i s' e sz by_ nn xs g,nth st.ow i=some ⟨s',.live e sz by_ nn xs⟩->(oe i).ownBlock=some g->g≠b) :
  let be':=λj=>if j=st.bx.length then b else be j
  let st':St := { st with bx:=st.bx ++ [.live cs t] }
  Sim P h0 w0 be' oe H st' h a w/\F7 st be oe st' be' oe:=by
 intro be' st'
 have k:F7 st be oe st' be' oe:=by
  refine⟨by simp[st'],λi c=>?_,λi s E=>⟨s,E,Nat.le_refl _,λ_=>rfl⟩⟩
  grind
 have l:∀ i cs ty,nth st.bx i=some (.live cs ty)->be' i=be i:=λi cs ty c=>by simp[be',Nat.ne_of_lt (T02 c)]
 have f:∀ i x,nth st'.bx i=some x->(i=st.bx.length/\x = .live cs t)∨(i≠st.bx.length/\nth st.bx i=some x):=by
  grind[C03]
 refine⟨⟨s.mv,s.sub,?_,?_,s.own,s.frz,?_,s.oo,?_,s.dfr,s.siz,λt=>(s.fr t).grow k⟩,k⟩
 ·intro i cs' ty c
  rcases f i _ c with⟨rfl,e⟩|⟨e,d⟩
  ·cases e
   exact⟨by simp[be',D],vs,C.grow k,by simp[be',B]⟩
  ·obtain⟨y,G,z,A⟩:=s.box i cs' ty d
   rw[l i cs' ty d]
   exact⟨y,G,z.grow k,A⟩
 ·intro i q c
  rcases f i _ c with⟨_,e⟩|⟨e,d⟩
  ·cases e
  ·simp[be',e,s.pub i q d]
 ·intro i j u F K L c n e
  rcases f i _ c with⟨rfl,m⟩|⟨m,d⟩<;>rcases f j _ n with⟨rfl,v⟩|⟨v,p⟩
  ·rfl
  ·grind
  ·grind
  ·rw[l i _ _ d,l j _ _ p]at e;exact s.bb i j _ _ _ _ d p e
 ·intro i u F j s' e sz by_ nn xs c n o
  rcases f i _ c with⟨rfl,m⟩|⟨m,d⟩
  ·grind
  ·rw[l i _ _ d]at o;exact s.bo i _ _ j _ _ _ _ _ _ d n o
def y0b(a:Act)(d:Nat):Nat:=match a.tmps.getD d undef with
 | .pointer (some ⟨b,_,_⟩)=>b
 |_=>0
theorem p07{a:Act}{d b:Nat}(e:a.tmps.getD d undef=ptr b 0):y0b a d=b:=by
 unfold y0b;rw[e];rfl
def w0v(P:Program)(H h:Hp)(a:Act)(n:Nat)(o:Oper):Prop:=U05 o=true->∃ d t z,o.op = .alloc t/\o.dst=some d/\d<n/\Q01 P t=some z/\a.tmps.getD d undef=ptr (y0b a d) 0/\H (y0b a d)=some (.cells z.cells t (0,0))/\h (y0b a d)=none
def x0v(a:Act)(o c:Oper):Prop:=U05 o=true->U05 c=true->∀ d b,o.dst=some d->c.dst=some b->y0b a d≠y0b a b
theorem i0j{st:St}{h:Hp}{d:Nat}:K08 ⟨st,h,[],[]⟩ d=false:=rfl
theorem J0m{K:St->Hp->Prop}{fd:List (Nat×AV)}:∀(l:List Oper) (st:St) (be:Nat->Nat),Sim P h0 w0 be oe H { st with fr:=fd } h a w ->
  (∀ t,(∀ o∈l,U05 o=true->o.dst≠some t)->C3 st be oe (O3 st.fr t) (a.tmps.getD t undef))->(∀ o∈l,w0v P H h a st.n o)->l.Pairwise (x0v a) ->
  (∀ i cs ty,nth st.bx i=some (.live cs ty)->∀ o∈l,U05 o=true->∀ d,o.dst=some d->be i≠y0b a d) ->
  (∀ i s' e sz by_ nn xs g,nth st.ow i=some ⟨s',.live e sz by_ nn xs⟩->(oe i).ownBlock=some g->∀ o∈l,U05 o=true->∀ d,o.dst=some d->g≠y0b a d) ->
  doA (b05 P) l st h K->∃ st' be',K st' h/\Sim P h0 w0 be' oe H st' h a w
 | [],st,be,s,p,_,_,_,_,j=>⟨st,be,j,s.refr (fr:=st.fr) λt=>C3.fr (st:=st) (p t λo m=>nomatch m)⟩
 |o::l,st,be,s,p,x,q,y,m,j=>by
  rw[List.pairwise_cons]at q
  have j:(match U05 o with
   |true=>b05 P o st h λst h=>doA (b05 P) l st h K
   |false=>doA (b05 P) l st h K):=j
  cases hal:U05 o with
  |false =>
   rw[hal]at j
   exact J0m l st be s (λt S=>p t λc b E=>by
    grind) (λc b=>x c (mC _ b)) q.2 (λi cs ty f c b=>y i cs ty f c (mC _ b)) (λi s' e sz by_ nn xs g f k c b=>m i s' e sz by_ nn xs g f k c (mC _ b)) j
  |true =>
   rw[hal]at j
   obtain⟨d,t,z,M,v,U,N,O,A,Q⟩:=x o mS hal
   simp only[b05,Z8,M,N,G0c,v,S0e,i0j]at j
   have I:Nat.blt d (st.withBx (st.bx ++ [.live (vals z.cells.toList) t])).n=true:=by
    grind
   simp only[I]at j
   obtain⟨n,fr,bx,ow⟩:=st
   have L:doA (b05 P) l ⟨n,(d,.box bx.length 0)::fr,bx ++ [.live (vals z.cells.toList) t],ow⟩ h K:=j
   have G:z.cells=z.cells.toList.toArray:=by simp
   rw[G]at A
   obtain⟨s2,D⟩:=s.claim (Y2.vals _ oe _) A Q (λi cs ty f=>y i cs ty f o mS hal d v) (λi s' e sz by_ nn xs g f k=>m i s' e sz by_ nn xs g f k o mS hal d v)
   refine J0m l ⟨n,(d,.box bx.length 0)::fr,bx ++ [.live (vals z.cells.toList) t],ow⟩ _ s2 (λu T=>?_) (λc b=>x c (mC _ b)) q.2 (λi cs ty f c b F B J=>?_) (λi s' e sz by_ nn xs g f k c b=>m i s' e sz by_ nn xs g f k c (mC _ b)) L
   ·show C3 _ _ _ (O3 ((d,.box bx.length 0)::fr) u) _
    rw[i4]
    split
    ·rename_i e
     subst e
     refine⟨by simp,?_⟩
     rw[O];simp
    ·rename_i e
     have C:=p u λc b E R=>by
      grind
     exact C3.fr (st:=⟨n,fd,bx ++ [.live (vals z.cells.toList) t],ow⟩) (C3.grow D (C3.fr (st:=⟨n,fr,bx,ow⟩) (fr:=fd) C))
   ·simp only[C03]at f
    split at f
    ·rename_i e
     subst e
     simp only[if_pos]
     exact q.1 c b hal F d B v J
    grind
theorem I06{d:Nat}:∀ {l:List Operand},O08 d l=false->Operand.tmp d ∉ l
 | [],_,h=>nomatch h
 |x::r,a,h=>by
  rcases List.mem_cons.1 h with e|b
  ·subst e
   simp[O08]at a
  ·cases x<;>simp only[O08,Bool.or_eq_false_iff]at a
   ·exact I06 a.2 b
   all_goals exact I06 a b
theorem R0d{d:Nat}:∀ {l:List Oper},W0e d l=false->∀ o∈l,Operand.tmp d ∉ o.op.operands
 | [],_,o,h=>nomatch h
 |y::r,a,o,h=>by
  simp only[W0e,Bool.or_eq_false_iff]at a
  rcases List.mem_cons.1 h with rfl|h
  ·exact λb=>I06 a.1 (by simpa using b)
  ·exact R0d a.2 o h
theorem H0k{all:List Oper}:∀ {l:List Oper},okA P all l=true->∀ o∈l,U05 o=true->∃ t d z,o.op = .alloc t/\o.guard=none/\o.dst=some d/\Q01 P t=some z/\∀ c∈all,Operand.tmp d ∉ c.op.operands
 | [],_,o,h,_=>nomatch h
 |y::r,a,o,h,b=>by
  simp only[okA,Bool.and_eq_true]at a
  rcases List.mem_cons.1 h with rfl|h
  ·grind[U05,R0d]
  ·exact H0k a.2 o h b
theorem I0k{o:Oper}(h:U05 o=false):l01 o=o:=by
 grind[l01,U05]
theorem j9(o:Oper):(l01 o).dst=o.dst:=by unfold l01;split<;>rfl
theorem J0k(o:Oper):(l01 o).after=o.after:=by unfold l01;split<;>rfl
theorem K0k(o:Oper):(l01 o).guard=o.guard:=by unfold l01;split<;>rfl
theorem l9:∀(l:List Oper) (i:Nat),(B6 l)[i]?=(l[i]?).map l01
 | [],i=>by simp[B6]
 |o::r,0=>by simp[B6]
 |o::r,i+1=>by simp[B6,l9 r i]
theorem F0h:∀(l:List Oper),(B6 l).length=l.length
 | []=>rfl
 |o::r=>by simp[B6,F0h r]
theorem L0k{o:Oper}{d:Nat}(h:Operand.tmp d∈(l01 o).op.operands):Operand.tmp d∈o.op.operands:=by
 grind[U05,I0k,l01,Op.operands]
abbrev y0v:=List (Nat×Nat×Obj)
def skA(a:List Oper)(i:Nat):Bool:=match a[i]? with
 |some o=>U05 o
 |none=>false
def V0c(P:Program)(h0:Hp)(w0:World)(e:List Oper)(st:St)(h:Hp)(A:Asg)(listed:Array Bool)(a:Act)(w:World):Prop :=
 ∃(c:y0v) (f:Hp) (g:World),I3 h0 w0 (f05 f (c.map λp=>p.2)) g/\(∀ p∈c,f p.2.1=none/\p.2.1<g.heap.size)/\((c.map λp=>p.2).map λp=>p.1).Nodup /\
  E0a P f g (B6 e).toArray st h A (skA e) (c.map λp=>(p.1,ptr p.2.1 0)) listed a w /\
  (∀(j:Nat) (o:Oper) t d z,e[j]?=some o->o.op = .alloc t->o.dst=some d->Q01 P t=some z->listed.getD j false=true->∃ b,(d,b,Obj.cells z.cells t (0,0))∈c) /\
  ∀ p∈c,∃(j:Nat) (o:Oper),e[j]?=some o/\U05 o=true/\o.dst=some p.1/\listed.getD j false=true
theorem V0c.start{f:List Oper}{st:St}{A:Asg}{N:Nat}(s:Sim P h0 w0 be oe H st h a w):V0c P h0 w0 f st h A (Array.replicate N false) a w:=by
 refine⟨[],H,w,s.mv,λp b=>(by cases b),by simp,?_,λj o t d z _ _ _ _ e=>?_,λp b=>(by cases b)⟩
 ·have s':Sim P H w be oe H st h a w:=s.base (I3.refl s.mv.vis)
  refine⟨be,oe,H,h,λ_ _ h=>h,s'.refr (fr:=K4 (B6 f) st.fr) λt=>?_,λp b=>(by cases b),λj o d _ g i c=>?_⟩
  ·by_cases hx:∃ o∈B6 f,o.dst=some t
   ·obtain⟨o,g,i⟩:=hx
    rw[n03 g i]
    trivial
   ·rw[m02 λo l k=>hx ⟨o,l,k⟩]
    exact s'.fr t
  ·simp[Array.getElem?_replicate]at c
   split at c<;>cases c
 ·simp[Array.getElem?_replicate]at e
  split at e<;>cases e
theorem R0t{f:List Oper}{st:St}{A:Asg}{aq:FL}{X:List BE}{listed:Array Bool}{j:Nat}{o:Oper}{Q:Exit->Act->World->Prop}
  (ab:∀(i j:Nat) (l an:Oper) (d:Nat),(B6 f)[i]?=some l->(B6 f)[j]?=some an->l.dst=some d->an.dst=some d->i=j)
  (ac:∀ o∈B6 f,∀ d,o.dst=some d->d<st.n)
  (ay:∀(k:Nat) (o:Oper),(B6 f)[k]?=some o->∀ e∈o.after,Region.binds .any e=true->e.on<k)
  (aE:∀ o∈B6 f,∀ t,Operand.tmp t∈o.op.operands->∀(i:Nat) (l:Oper),(B6 f)[i]?=some l->l.dst=some t->∃ e∈o.after,Region.binds .any e=true/\e.on=i)
  (aF:∀ o∈B6 f,∀ i w,o.guard=some (i,w)->Q8 i o=true)
  (az:e0h (B6 f) A aq X (B6 f).length)
  (aB:∀ j o,(B6 f)[j]?=some o->∃ Y J,b01 X o.guard=some (A j).1/\e0h (B6 f) A Y J j/\X09 J X/\cB J (A j).1=some (A j).2.1/\(OpU P st h Y J o (A j).1 (A j).2.1 (A j).2.2/\∀ av,f0a P Y J (A j).1 o st=some av->(A j).2.2 = .pu av))
  (aS:∀(i:Nat) (l:Oper) (d:Nat),(B6 f)[i]?=some l->l.dst=some d->skA f i=true->∀ ae∈B6 f,Operand.tmp d ∉ ae.op.operands)
  (aQ:∀ i,skA f i=true->(A i).2.2 = .pu (.val undef)) (aA:∀ o∈f,U05 o=true->∃ t d z,o.op = .alloc t/\o.guard=none/\o.dst=some d/\Q01 P t=some z/\∀ ae∈f,Operand.tmp d ∉ ae.op.operands)
  (a5:listed.getD j true=false)
  (K:f[j]?=some o) (aO:∀ e∈o.after,Region.binds .any e=true->listed.getD e.on false=true) (aG:V0c P h0 w0 f st h A listed a w) :
  (Region.wanted o (yielded (B6 f).toArray a.tmps)=true->o.wp P a w (V0c P h0 w0 f st h A (listed.setIfInBounds j true)) Q) /\
  (Region.wanted o (yielded (B6 f).toArray a.tmps)=false->V0c P h0 w0 f st h A (listed.setIfInBounds j true) (a.put o.dst undef) w):=by
 obtain⟨y,R,W,ad,L,U,al,ah,aa⟩:=aG
 have aM:o∈f:=List.mem_of_getElem? K
 have I:(B6 f)[j]?=some (l01 o):=by rw[l9,K];rfl
 have aK:listed.getD j false=false:=by
  grind
 have aJ:j<listed.size:=by
  grind
 have ax:∀ p∈y,∃(i:Nat) (l:Oper),(B6 f)[i]?=some l/\l.dst=some p.1/\skA f i=true:=λp c=>by
  obtain⟨i,l,m,D,B,_⟩:=aa p c
  exact⟨i,l01 l,by rw[l9,m];rfl,by rw[j9];exact B,by unfold skA;rw[m];exact D⟩
 cases hisa:U05 o with
 |false =>
  have aH:=I0k hisa
  rw[aH]at I
  have aR:skA f j=false:=by unfold skA;rw[K];exact hisa
  have up:∀ Z E,E0a P R W (B6 f).toArray st h A (skA f) (y.map λp=>(p.1,ptr p.2.1 0)) (listed.setIfInBounds j true) Z E->V0c P h0 w0 f st h A (listed.setIfInBounds j true) Z E:=λZ E aX=>by
   refine⟨y,R,W,ad,L,U,aX,λi l t d z m D B G O=>?_,λp c=>?_⟩
   ·by_cases e:j=i
    ·grind[U05]
    ·rw[getD_set_ne false e]at O
     exact ah i l t d z m D B G O
   grind[getD_set_true]
  have bb:=P0t (P:=P) (h0:=R) (w0:=W) (ops:=(B6 f).toArray) (Q:=Q) (sk:=skA f) (kp:=y.map λp=>(p.1,ptr p.2.1 0)) (by simpa using ab) (by simpa using ac) (by simpa using ay) (by simpa using aE) (by simpa using aF) (by simpa using az) (by simpa using aB) aR (by simpa using aS) aQ (λp c=>by
   obtain⟨q,C,rfl⟩:=List.mem_map.1 c
   simpa using ax q C) (by simpa using I) aO al
  grind[Oper.wp_mono]
 |true =>
  obtain⟨t,d,z,aY,aZ,F,a0,ba⟩:=aA o aM hisa
  refine⟨λ_=>?_,λM=>?_⟩
  rotate_left
  ·unfold Region.wanted at M;rw[aZ]at M;cases M
  obtain⟨be,oe,H,h',aP,s,keep,aw⟩:=al
  have am:I3 h0 w0 (f05 H (y.map λp=>p.2)) w:=ad.trans (p0f ad.vis (λp c=>by
   obtain⟨q,C,rfl⟩:=List.mem_map.1 c
   exact L q C) U s.mv)
  have ag:∀ p∈y,H p.2.1=none:=λp c=>s.mv.none_of (L p c).2 (L p c).1
  have M:wpS P (execOp a.eval o) (f05 H (y.map λp=>p.2)) (λn af=>∃ b,f05 H (y.map λp=>p.2) b=none/\n = .value (ptr b 0)/\af=(f05 H (y.map λp=>p.2)).set b (.cells z.cells t (0,0))):=by
   unfold execOp;rw[aY]
   refine o8 _ _ _ ?_
   simp only[Instr.alloc,newVar,newRow,newObj,J2,T08 a0,O2,wpS]
   exact λb S=>⟨b,S,rfl,rfl⟩
  obtain⟨n,af,E,aN,⟨b,S,rfl,rfl⟩,T⟩:=I00 _ _ _ am.vis M
  refine w8 aN ?_
  have aj:∀ p∈y,p.2.1≠b:=λp c e=>by
   have:=g06 (H:=H) U (List.mem_map.2 ⟨p,c,rfl⟩)
   rw[e,S]at this;cases this
  have ai:H b=none:=by
   rw[←S,J04]
   intro p c
   obtain⟨q,C,rfl⟩:=List.mem_map.1 c
   exact aj q C
  have aW:Vis H E:=λx a1 N=>by
   refine T.vis x a1 ?_
   rw[Hp.set_other _ _ λe=>by subst e;rw[ai]at N;cases N]
   rw[J04]
   ·exact N
   ·intro p c e
    obtain⟨q,C,rfl⟩:=List.mem_map.1 c
    rw[←e,ag q C]at N;cases N
  have aL:d<a.tmps.size:=by rw[s.siz];exact ac (l01 o) (List.mem_of_getElem? I) d (by rw[j9];exact F)
  have a4:(a.put o.dst (ptr b 0)).tmps.getD d undef=ptr b 0:=by rw[F];simp[Act.put,aL]
  have ap:∀ u,u≠d->(a.put o.dst (ptr b 0)).tmps.getD u undef=a.tmps.getD u undef:=λu aU=>by
   rw[F];simp[Act.put,Array.getElem?_setIfInBounds_ne (Ne.symm aU)]
  have a2:∀ p∈y,p.1≠d:=λp c e=>by
   obtain⟨i,l,m,D,B,G⟩:=aa p c
   have:=ab i j (l01 l) (l01 o) d (by rw[l9,m];rfl) I (by rw[j9,B,e]) (by rw[j9];exact F)
   subst this
   rw[aK]at G;cases G
  have s1:Sim P H E be oe H { st with fr:=K4 (B6 f) st.fr } h' a E:=(by simpa using s:Sim P R W be oe H { st with fr:=K4 (B6 f) st.fr } h' a w).base (I3.refl aW)
  have s2:Sim P H E be oe H { st with fr:=K4 (B6 f) st.fr } h' (a.put o.dst (ptr b 0)) E:=by
   have c:=s1.put (d:=d) (av := .dead) (v:=ptr b 0) (ac (l01 o) (List.mem_of_getElem? I) d (by rw[j9];exact F)) trivial
   rw[F]
   refine c.refr (fr:=K4 (B6 f) st.fr) λu=>?_
   have g:=c.fr u
   rw[i4]at g
   split at g
   ·rename_i e
    subst e
    rw[n03 (List.mem_of_getElem? I) (by rw[j9];exact F)]
    trivial
   ·exact g
  refine⟨(d,b,.cells z.cells t (0,0))::y,H,E,?_,λp c=>?_,?_,⟨be,oe,H,h',aP,by simpa using s2,λp c=>?_,λi l u V m D B=>?_⟩,λi l a3 au z' m D B G O=>?_,λp c=>?_⟩
  ·exact am.trans T
  ·rcases List.mem_cons.1 c with rfl|c
   ·exact⟨ai,T.vis.lt (by rw[Hp.set_same];simp)⟩
   ·exact⟨ag p c,Nat.lt_of_lt_of_le (L p c).2 (Nat.le_trans s.mv.size T.size)⟩
  ·rw[List.map_cons,List.map_cons,List.nodup_cons]
   refine⟨λaD=>?_,U⟩
   obtain⟨q,C,e⟩:=List.mem_map.1 aD
   obtain⟨p,c,rfl⟩:=List.mem_map.1 C
   exact aj p c e
  ·rw[List.map_cons]at c
   rcases List.mem_cons.1 c with rfl|c
   ·exact a4
   ·obtain⟨q,C,rfl⟩:=List.mem_map.1 c
    rw[ap _ (a2 q C)]
    exact keep _ c
  ·have ak:j≠i:=λe=>by
    subst e
    have ao:U05 o=false:=by unfold skA at V;rw[K]at V;exact V
    rw[hisa]at ao;cases ao
   rw[getD_set_ne false ak]at B
   have aV:u≠d:=λe=>by
    subst e
    exact ak (ab j i (l01 o) l u I (by simpa using m) (by rw[j9];exact F) D)
   rw[ap u aV]
   exact aw i l u V m D B
  ·by_cases e:j=i
   ·grind[List.mem_cons_self]
   ·rw[getD_set_ne false e]at O
    obtain⟨ar,aC⟩:=ah i l a3 au z' m D B G O
    exact⟨ar,mC _ aC⟩
  ·rcases List.mem_cons.1 c with rfl|c
   ·exact⟨j,o,K,hisa,F,by simp[aJ]⟩
   ·obtain⟨i,l,m,D,B,G⟩:=aa p c
    exact⟨i,l,m,D,B,getD_set_true G⟩
theorem G0h{a m:Type}{f:a->m}:∀ {l:List a},(l.map f).Nodup->∀ {p q:a},p∈l->q∈l->f p=f q->p=q
 | [],_,p,q,h,_,_=>nomatch h
 |x::l,b,p,q,g,j,e=>by
  rw[List.map_cons,List.nodup_cons]at b
  rcases List.mem_cons.1 g with c|i<;>rcases List.mem_cons.1 j with d|k
  ·rw[c,d]
  ·grind
  ·grind
  ·exact G0h b.2 i k e
theorem f0t{c:List Oper}{st:St}{A:Asg}{T:FL}{ab:List BE}{K:St->Hp->Prop}{listed:Array Bool}
  (V:∀(i j:Nat) (L aa:Oper) (d:Nat),(B6 c)[i]?=some L->(B6 c)[j]?=some aa->L.dst=some d->aa.dst=some d->i=j)
  (am:∀ o∈B6 c,∀ d,o.dst=some d->d<st.n)
  (ao:∀ i,skA c i=true->(A i).2.2 = .pu (.val undef)) (ai:∀ o∈c,U05 o=true->∃ t d z,o.op = .alloc t/\o.guard=none/\o.dst=some d/\Q01 P t=some z/\∀ ar∈c,Operand.tmp d ∉ ar.op.operands)
  (ag:e0h (B6 c) A T ab (B6 c).length) (aj:∀ h',Sub h h'->Y0e h' T st.fr λfr=>doA (b05 P) c { st with fr:=fr } h' K) (X:∀ j,j<c.length->listed.getD j false=true)
  (B:V0c P h0 w0 c st h A listed a w):∃ st' h' be oe H,K st' h'/\Sim P h0 w0 be oe H st' h' a w:=by
 obtain⟨M,aA,aG,Z,Y,R,ap,af,aB⟩:=B
 obtain⟨be,oe,H,h',fr,al,s,keep,g⟩:=b0o (K:=λst h=>doA (b05 P) c st h K) (ops:=(B6 c).toArray) ao (by simpa using V) (by simpa using ag) aj (λj u=>X j (by simpa [F0h] using u)) ap
 have aq:I3 h0 w0 (f05 H (M.map λp=>p.2)) w:=Z.trans (p0f Z.vis (λp I=>by
  grind) R s.mv)
 have O:∀ p∈M,H p.2.1=none:=λp I=>s.mv.none_of (Y p I).2 (Y p I).1
 have s':=s.more (l:=M.map λp=>p.2) (λp I=>by
  grind) aq
 have E:∀ o∈c,U05 o=true->∃ t d z b,o.op = .alloc t/\o.dst=some d/\Q01 P t=some z/\(d,b,Obj.cells z.cells t (0,0))∈M/\a.tmps.getD d undef=ptr b 0:=λo v q=>by
  obtain⟨t,d,z,C,m,D,k,x⟩:=ai o v q
  obtain⟨j,u⟩:=List.getElem?_of_mem v
  obtain⟨b,G⟩:=af j o t d z u C D k (X j (List.getElem?_eq_some_iff.1 u).1)
  exact⟨t,d,z,b,C,D,k,G,keep _ (List.mem_map.2 ⟨_,G,rfl⟩)⟩
 have an:∀ b,H b=none->h' b=none:=λb G=>by
  cases e:h' b with
  |none=>rfl
  |some o=>rw[s.sub b o e]at G;cases G
 refine(J0m (K:=K) (fd:=K4 (B6 c).toArray.toList st.fr) c { st with fr:=fr } be s' (λt aD=>?_) (λo v q=>?_) ?_ (λi cs ty B o v q d y=>?_) (λi aw e sz by_ nn xs az B ak o v q d y=>?_) al).elim λst' J=>J.elim λbe' J=>⟨st',h',be',oe,_,J.1,J.2⟩
 ·refine C3.fr (st:=st) (fr:=fr) (g t λi L N S=>?_)
  have N:(B6 c)[i]?=some L:=by simpa using N
  rw[l9]at N
  grind[U05,skA,absurd,j9,List.mem_of_getElem?]
 ·obtain⟨t,d,z,b,C,m,D,k,x⟩:=E o v q
  have Q:=p07 x
  obtain⟨j,u⟩:=List.getElem?_of_mem v
  refine⟨d,t,z,C,m,am (l01 o) (List.mem_of_getElem? (i:=j) (by rw[l9,u];rfl)) d (by rw[j9];exact m),D,by rw[Q];exact x,by rw[Q];exact g06 R (List.mem_map.2 ⟨_,k,rfl⟩),by rw[Q];exact an b (O _ k)⟩
 ·rw[List.pairwise_iff_getElem]
  intro i j B u aC q ah d ac y W e
  obtain⟨t,U,z,b,C,m,D,k,x⟩:=E _ (List.getElem_mem B) q
  obtain⟨aF,ay,z',ax,N,S,aE,au,av⟩:=E _ (List.getElem_mem u) ah
  rw[m]at y;cases y
  rw[S]at W;cases W
  rw[p07 x,p07 av]at e
  subst e
  have:=G0h (f:=λp:Nat×Nat×Obj=>p.2.1) (by have:=R;rw[List.map_map]at this;exact this) k au rfl
  have ae:d=ac:=congrArg Prod.fst this
  subst ae
  have:=V i j (l01 c[i]) (l01 c[j]) d (by rw[l9,List.getElem?_eq_getElem B];rfl) (by rw[l9,List.getElem?_eq_getElem u];rfl) (by rw[j9];exact m) (by rw[j9];exact S)
  omega
 ·obtain⟨t,U,z,b,C,m,D,k,x⟩:=E o v q
  rw[m]at y;cases y
  rw[p07 x]
  intro e
  obtain⟨_,vs,_,F⟩:=s.box i cs ty B
  rw[e,O _ k]at F;cases F
 ·obtain⟨t,U,z,b,C,m,D,k,x⟩:=E o v q
  rw[m]at y;cases y
  rw[p07 x]
  intro ad
  obtain⟨_,_,_,_,F⟩:=(s.own i aw e sz by_ nn xs B).block ak
  rw[ad,O _ k]at F;cases F
theorem g0v{ops:Array Oper}{Q:Exit->Act->World->Prop}{Inv:Array Bool->Act->World->Prop}(hB:∀(k:Nat) (o:Oper),ops.toList[k]?=some o->∀ e∈o.after,Region.binds .any e=true->e.on<k)
  (hstep:∀ listed a w j o,listed.size=ops.size->listed.getD j true=false->ops[j]?=some o->(∀ e∈o.after,Region.binds .any e=true->listed.getD e.on false=true)->Inv listed a w ->
   (Region.wanted o (yielded ops a.tmps)=true->o.wp P a w (Inv (listed.setIfInBounds j true)) Q)/\(Region.wanted o (yielded ops a.tmps)=false->Inv (listed.setIfInBounds j true) (a.put o.dst undef) w))
  (hQ:∀ listed a w,(∀ j,j<ops.size->listed.getD j false=true)->Inv listed a w->Q .normal a w) :
  ∀(fuel:Nat) (listed:Array Bool) (a:Act) (w:World),listed.size=ops.size->listed.toList.count true+fuel=ops.size->Inv listed a w->wpAny P .any ops Q fuel listed a w
 |0,listed,a,w,hsz,hc,hi=>by
  have hall':∀ j,j<ops.size->listed.getD j false=true:=λj hj=>by
   have h1:∀ b∈listed.toList,true=b:=List.count_eq_length.1 (by grind)
   have hlt:j<listed.size:=by omega
   have:=h1 listed[j] (by simp)
   simp[hlt,←this]
  refine⟨?_,hQ listed a w hall' hi⟩
  cases hr:Region.ready .any ops listed with
  |nil=>rfl
  |cons j r =>
   grind[Region.ready,List.mem_cons_self,mem_ready,Array.getElem?_eq_some_iff]
 |fuel+1,listed,a,w,hsz,hc,hi=>by
  refine⟨λhr=>hQ listed a w (S0c hB hsz hr) hi,λj hj=>?_⟩
  obtain⟨h1,o,h2,h3⟩:=mem_ready.1 hj
  unfold wpOp
  simp only[h2]
  obtain⟨ht,hf⟩:=hstep listed a w j o hsz h1 h2 h3 hi
  have next:∀ a' w',Inv (listed.setIfInBounds j true) a' w'->wpAny P .any ops Q fuel (listed.setIfInBounds j true) a' w':=λa' w' hi'=>g0v hB hstep hQ fuel _ a' w' (by simpa using hsz) (by rw[count_set h1];omega) hi'
  cases hw:Region.wanted o (yielded ops a.tmps)with
  |true =>
   rw[if_pos rfl]
   exact .inl (Oper.wp_mono next (ht hw))
  |false =>
   grind
theorem W0c{x:Nat}:∀ {l:List Nat},C0m x l=true↔x∈l
 | []=>by simp[C0m]
 |y::r=>by
  simp only[C0m,Bool.or_eq_true,List.mem_cons,W0c (l:=r)]
  simp_all
theorem H0h{ops:List Oper}{i:Nat}:∀ {l:List Nat},T0s ops i l=true->∃ j o,j∈l/\ops[j]?=some o/\Q8 i o=true
 | [],h=>by cases h
 |j::r,h=>by
  simp only[T0s,Bool.or_eq_true]at h
  rcases h with h|h
  ·grind[W05,List.mem_cons_self]
  ·obtain⟨c,o,a,b⟩:=H0h h
   grind
theorem F0a{ops:List Oper}{G:Nat->Prop}(a:∀ i j o,G j->ops[j]?=some o->Q8 i o=true->G i):∀(n:Nat) (acc:List Nat),(∀ j∈acc,G j)->∀ i∈u0h ops n acc,G i
 |0,acc,h=>h
 |n+1,acc,h=>by
  unfold u0h
  split
  ·rename_i b
   obtain⟨j,o,c,d,e⟩:=H0h b
   exact F0a a n _ λi f=>by
    grind
  ·exact F0a a n acc h
theorem G0a{d:Nat}:∀ {l:List Oper},h0a d l=false->∀ o∈l,o.dst≠some d
 | [],_,o,h=>nomatch h
 |y::r,a,o,h=>by
  simp only[h0a,Bool.or_eq_false_iff]at a
  rcases List.mem_cons.1 h with rfl|h
  ·intro b
   simp_all
  ·exact G0a a.2 o h
theorem V06{b:List Nat}{t:Nat}:∀ {l:List Oper} {k:Nat},V05 b t l k=true->∀(i:Nat) (o:Oper),l[i]?=some o->o.dst=some t->k+i∈b
 | [],k,_,i,o,h,_=>by simp at h
 |y::r,k,a,i,o,h,c=>by
  simp only[V05,Bool.and_eq_true]at a
  cases i with
  |zero =>
   simp_all[W0c]
  |succ i =>
   have:=V06 a.2 i o (by simpa using h) c
   grind
theorem q0a{i d:Nat}:∀ {l:List Oper},e07 i d l=true->∀ o∈l,Operand.tmp d∈o.op.operands->Q8 i o=true
 | [],_,o,h,_=>nomatch h
 |y::r,b,o,h,c=>by
  simp only[e07,Bool.and_eq_true,Bool.or_eq_true]at b
  rcases List.mem_cons.1 h with rfl|h
  ·rcases b.1 with a|a
   ·have e:O08 d o.op.operands.toList=false:=by simpa using a
    exact absurd (show Operand.tmp d∈o.op.operands.toList by simpa using c) (I06 e)
   ·exact a
  ·exact q0a b.2 o h c
theorem q0f:∀ {l:List Oper},l0k l=true->∀ o∈l,b0b o.op=false
 | [],_,o,h=>nomatch h
 |y::r,a,o,h=>by
  simp only[l0k,Bool.and_eq_true]at a
  rcases List.mem_cons.1 h with rfl|h
  ·simpa using a.1
  ·exact q0f a.2 o h
def Z03(o:Oper)(f:Operand->Value):Option Value:=match o.op with
 | .extract x k=>match f x with
  | .tuple vs=>vs[k]?
  |_=>none
 | .move x=>some (f x)
 | .assign x=>some (f x)
 | .pick c x y=>match f c with
  | .bool q=>some (if q=true then f x else f y)
  |_=>none
 |_=>none
theorem M05{x:Operand}{a b:Act}(h:∀ t∈J0c x,a.tmps.getD t undef=b.tmps.getD t undef):a.eval x=b.eval x:=by
 cases x with
 |tmp t=>exact h t (List.mem_singleton.2 rfl)
 |const v=>rfl
 |global g=>rfl
 |func f=>rfl
theorem g05{o:Oper}{a:List Nat}(h:g0a o=some a):o.guard=none/\((∃ x k,o.op = .extract x k/\a=J0c x)∨(∃ x,o.op = .move x/\a=J0c x)∨(∃ x,o.op = .assign x/\a=J0c x)∨∃ c x y,o.op = .pick c x y/\a=J0c c++(J0c x++J0c y)):=by
 unfold g0a at h
 split at h
 ·cases h
 ·rename_i b
  refine⟨b,?_⟩
  split at h
  ·rename_i x k e;cases h;exact .inl ⟨x,k,e,rfl⟩
  ·rename_i x e;cases h;exact .inr (.inl ⟨x,e,rfl⟩)
  ·rename_i x e;cases h;exact .inr (.inr (.inl ⟨x,e,rfl⟩))
  ·rename_i c x y e;cases h;exact .inr (.inr (.inr ⟨c,x,y,e,rfl⟩))
  ·cases h
theorem b09{o:Oper}{g:List Nat}{a b:Act}(h:g0a o=some g)(e:∀ t∈g,a.tmps.getD t undef=b.tmps.getD t undef):Z03 o a.eval=Z03 o b.eval:=by
 obtain⟨_,⟨x,k,d,rfl⟩|⟨x,d,rfl⟩|⟨x,d,rfl⟩|⟨c,x,y,d,rfl⟩⟩:=g05 h
 ·unfold Z03;rw[d];simp only[M05 e]
 ·unfold Z03;rw[d];simp only[M05 e]
 ·unfold Z03;rw[d];simp only[M05 e]
 ·unfold Z03;rw[d]
  simp only[M05 (x:=c) λt f=>e t (List.mem_append_left _ f),M05 (x:=x) λt f=>e t (List.mem_append_right _ (List.mem_append_left _ f)),M05 (x:=y) λt f=>e t (List.mem_append_right _ (List.mem_append_right _ f))]
theorem r0f{o:Oper}{f:List Nat}{a:Act}{v:Value}(h:g0a o=some f)(b:Z03 o a.eval=some v)(w:World):(execOp a.eval o).run P w = .ok (.value v) w:=by
 obtain⟨_,⟨x,k,e,_⟩|⟨x,e,_⟩|⟨x,e,_⟩|⟨c,x,y,e,_⟩⟩:=g05 h
 ·unfold Z03 at b;rw[e]at b
  simp only at b
  split at b
  ·rename_i vs d
   unfold execOp;rw[e]
   simp only[Instr.extract,d,b]
   rfl
  ·cases b
 ·unfold Z03 at b;rw[e]at b;cases b
  unfold execOp;rw[e];rfl
 ·unfold Z03 at b;rw[e]at b;cases b
  unfold execOp;rw[e];rfl
 ·unfold Z03 at b;rw[e]at b
  simp only at b
  split at b
  ·rename_i q d
   cases b
   unfold execOp;rw[e]
   simp only[d,asBool]
   cases q<;>rfl
  ·cases b
theorem g0t{o:Oper}{g:List Nat}{a:Act}{w:World}{N:Act->World->Prop}(h:g0a o=some g)(b:o.wp P a w N λ_ _ _=>False):∃ v,Z03 o a.eval=some v/\N (a.put o.dst v) w:=by
 obtain⟨_,⟨x,k,e,_⟩|⟨x,e,_⟩|⟨x,e,_⟩|⟨c,x,y,e,_⟩⟩:=g05 h
 ·cases hx:Z03 o a.eval with
  |some v =>
   refine⟨v,rfl,?_⟩
   unfold Oper.wp at b
   rw[r0f h hx w]at b
   exact b
  |none =>
   exfalso
   unfold Z03 at hx;rw[e]at hx
   simp only at hx
   unfold Oper.wp execOp at b;rw[e]at b
   simp only[Instr.extract]at b
   split at hx
   ·rename_i vs f
    rw[f]at b
    simp only[hx]at b
    exact b
   ·rename_i d
    generalize a.eval x=z at b d
    cases z<;>first|exact b|exact absurd rfl (d _)
 ·refine⟨_,by unfold Z03;rw[e],?_⟩
  unfold Oper.wp execOp at b;rw[e]at b
  exact b
 ·refine⟨_,by unfold Z03;rw[e],?_⟩
  unfold Oper.wp execOp at b;rw[e]at b
  exact b
 ·cases hx:Z03 o a.eval with
  |some v =>
   refine⟨v,rfl,?_⟩
   unfold Oper.wp at b
   rw[r0f h hx w]at b
   exact b
  |none =>
   exfalso
   unfold Z03 at hx;rw[e]at hx
   simp only at hx
   unfold Oper.wp execOp at b;rw[e]at b
   simp only at b
   split at hx
   ·cases hx
   ·rename_i d
    generalize a.eval c=z at b d
    cases z<;>first|exact b|exact absurd rfl (d _)
def s0f(as a:Act)(D:Nat->Prop):Prop:=as.tmps.size=a.tmps.size/\as.defers=a.defers/\∀ d,¬ D d->as.tmps.getD d undef=a.tmps.getD d undef
theorem h05(a:Act)(d u:Nat)(v:Value):(a.put (some d) v).tmps.getD u undef=if d=u/\d<a.tmps.size then v else a.tmps.getD u undef:=by
 by_cases e:d=u
 all_goals simp_all[Act.put,if_neg,Array.getElem?_setIfInBounds_ne]
theorem s0f.put{as a:Act}{b:Nat->Prop}(l:s0f as a b)(d:Option Nat)(v:Value):s0f (as.put d v) (a.put d v) b:=by
 cases d with
 |none=>exact l
 |some d =>
  refine⟨by simp[Act.put,l.1],l.2.1,λu c=>?_⟩
  rw[h05,h05,l.1,l.2.2 u c]
theorem h0t{o:Oper}{as a:Act}{w:World}{k:Nat->Prop}{N:Act->World->Prop}{Q:Exit->Act->World->Prop}(l:s0f as a k)(q:b0b o.op=false)(y:∀ d,Operand.tmp d∈o.op.operands -> ¬ k d)
  (i:o.wp P as w N λ_ _ _=>False):o.wp P a w (λm j=>∃ g,N g j/\s0f g m k/\(∃ v,g=as.put o.dst v∨∃ x,g = { as with defers:=x }.put o.dst v)/\∃ v,m=a.put o.dst v∨∃ x,m = { a with defers:=x }.put o.dst v) Q:=by
 have t:execOp as.eval o=execOp a.eval o:=execOp_congr o (λcs b e=>by rw[e]at q;cases q) λx z=>by
  cases x with
  |tmp d=>exact l.2.2 d (y d z)
  |_=>rfl
 unfold Oper.wp at *
 rw[t]at i
 generalize (execOp a.eval o).run P w=r at i
 have fin:∀(v:Value) (j:World),N (as.put o.dst v) j->∃ g,N g j/\s0f g (a.put o.dst v) k/\(∃ v,g=as.put o.dst v∨∃ x,g = { as with defers:=x }.put o.dst v)/\∃ s,a.put o.dst v=a.put o.dst s∨∃ x,a.put o.dst v = { a with defers:=x }.put o.dst s :=
  λv j h=>⟨_,h,l.put o.dst v,⟨v,.inl rfl⟩,v,.inl rfl⟩
 cases r with
 |ok n j =>
  cases n with
  |value v=>exact fin v j i
  |skip=>exact fin undef j i
  |defer d =>
   refine⟨_,i,s0f.put (as := { as with defers:=d::as.defers }) (a := { a with defers:=d::a.defers }) ⟨l.1,by simp[l.2.1],l.2.2⟩ o.dst undef,⟨_,.inr ⟨_,rfl⟩⟩,_,.inr ⟨_,rfl⟩⟩
  |enter f args =>
   refine Calls.mono i λe p h=>?_
   cases e with
   |returned v=>exact fin v p h
   |panicked c=>exact h.elim
   |outgrown=>obtain⟨_,_,h⟩:=h;exact h.elim
  |row row args=>exact Rows.mono i λv p h=>fin v p h
  |_=>exact i.elim
 |halt u j=>cases u<;>exact i.elim
theorem Sim.like{st:St}{as a:Act}{h0:Hp}{w0:World}{be:Nat->Nat}{oe:Nat->Value}{H h:Hp}{w:World}(s:Sim P h0 w0 be oe H st h as w){b:Nat->Prop}(l:s0f as a b)(c:∀ d,¬ b d):Sim P h0 w0 be oe H st h a w :=
 ⟨s.mv,s.sub,s.box,s.pub,s.own,s.frz,s.bb,s.oo,s.bo,by rw[←l.2.1];exact s.dfr,by rw[←l.1];exact s.siz,λt=>by rw[←l.2.2 t (c t)];exact s.fr t⟩
theorem I0h:∀ {l:List Oper} {k:Nat},N0q k l=true->(∀ o∈l,o.guard=none)/\∀(i:Nat) (o:Oper),l[i+1]?=some o->Q8 (k+i) o=true
 | [],k,h=>⟨λo b=>(nomatch b),λi o a=>(nomatch a)⟩
 | [x],k,h=>by
  rw[N0q]at h
  grind
 |x::y::r,k,h=>by
  rw[N0q]at h
  simp only[Bool.and_eq_true]at h
  obtain⟨c,d⟩:=I0h (l:=y::r) h.2
  refine⟨λo b=>?_,λi o a=>?_⟩
  ·grind
  ·cases i with
   |zero=>grind
   |succ i =>
    grind
theorem M0k{o:Oper}{st:St}{K:St->Hp->Prop}{Q:Exit->Act->World->Prop}(s:Sim P h0 w0 be oe H st h a w)(k:b05 P o st h K):
  o.wp P a w (λf j=>∃ st' h' be' oe' e,K st' h'/\Sim P h0 w0 be' oe' e st' h' f j) Q:=by
 refine Oper.wp_mono (λf j n=>?_) (Q00 s k)
 obtain⟨av,st',h',v,be',oe',e,l,rfl,s',g,p⟩:=n
 obtain⟨z,q,t,u,y⟩:=c06 (ops := #[o]) (i:=0) (rs:=⟨st',h',[],[]⟩) (ch:=[]) (c:=true) (v:=v) s' ⟨(λx b=>nomatch b),(λx b=>nomatch b),(λd ch av m=>nomatch m)⟩ (by rfl) rfl (λ_=>g) (λh=>by cases h) l
 grind
theorem z0b{c d:List Oper}{a:List Nat}:∀ {l:List Oper} {k:Nat},B0e c d a l k=true->∀(i:Nat) (o:Oper),l[i]?=some o->C0m (k+i) a=true∨T0n c d a (k+i) o=true
 | [],k,_,i,o,h=>by simp at h
 |y::r,k,b,i,o,h=>by
  simp only[B0e,Bool.and_eq_true,Bool.or_eq_true]at b
  cases i with
  |zero=>grind
  |succ i =>
   have:=z0b b.2 i o (by simpa using h)
   grind
theorem t0f{c d:List Oper}{b:List Nat}:∀ {e:List Nat},S0n c d b e=true->∀ t∈e,h0a t d=false/\V05 b t c 0=true
 | [],_,t,h=>by cases h
 |x::r,a,t,h=>by
  simp only[S0n,Bool.and_eq_true,Bool.not_eq_true']at a
  rcases List.mem_cons.1 h with rfl|h
  ·exact a.1
  ·exact t0f a.2 t h
theorem K0m{c a:List Oper}{b:List Nat}{i:Nat}{o:Oper}(h:T0n c a b i o=true):∃ e d,g0a o=some e/\o.dst=some d/\h0a d a=false/\(∀ t∈e,h0a t a=false/\V05 b t c 0=true)/\e07 i d a=true:=by
 unfold T0n at h
 split at h
 ·rename_i t d f g
  simp only[Bool.and_eq_true,Bool.not_eq_true']at h
  exact⟨t,d,f,g,h.1.1,t0f h.1.2,h.2⟩
 ·cases h
theorem Q0p{ops:Array Oper}{m:Nat}{st:St}{K:St->Hp->Prop}{Q:Exit->Act->World->Prop}(hb:okZ P st.n m ops.toList=true)(he:evT P (b05 P) m ops.toList st h K)
  (hQ:∀ a w st h be oe H,K st h->Sim P h0 w0 be oe H st h a w->Q .normal a w) (s:Sim P h0 w0 be oe H st h a w):wpAny P .any ops Q ops.size (Array.replicate ops.size false) a w:=by
 simp only[okZ,W04,M03,Bool.and_eq_true,Bool.or_eq_true]at hb
 obtain⟨⟨⟨⟨⟨⟨⟨b1,b2⟩,b3⟩,b4⟩,b5⟩,b6⟩,b7⟩,b8⟩:=hb
 generalize hpre:ops.toList.take m=pre at b1 b2 b3 b4 b5 b8
 obtain⟨hn,hD⟩:=e06 b1
 have hB:∀(k:Nat) (o:Oper),(B6 pre)[k]?=some o->∀ e∈o.after,Region.binds .any e=true->e.on<k:=λk o hk e he' hb=>by
  have:=I04 b2 k o hk e he' hb
  omega
 have hdep:=U07 b3
 have hgd:=W07 b4
 have hal:=H0k b5
 have hBB:∀(k:Nat) (o:Oper),ops.toList[k]?=some o->∀ e∈o.after,Region.binds .any e=true->e.on<k:=λk o hk e he' hb=>by
  have:=I04 b6 k o hk e he' hb
  omega
 obtain⟨sq1,sq2⟩:=I0h b7
 unfold evT at he
 rw[hpre]at he
 obtain⟨A,Lf,Bf,_,_,hP,hall,hfin⟩:=o0f (ops:=B6 pre) hD (B6 pre) 0 [] [] (λ_=>([],true,.pu .dead)) (λj=>by simp) (by simp)
  ⟨λt x h=>(by cases h),λi oi d hi=>by omega,λi hi=>by omega,λx hx=>(by cases hx)⟩ he
 have hpl:pre.length=min m ops.size:=by rw[←hpre];simp
 have hpg:∀ j,j<m->ops.toList[j]?=pre[j]?:=λj hj=>by rw[←hpre,List.getElem?_take,if_pos hj]
 have hdg:∀ j,(ops.toList.drop m)[j]?=ops.toList[m+j]?:=λj=>List.getElem?_drop
 have hsr:∀(i:Nat) (oi:Oper) (d:Nat),(B6 pre)[i]?=some oi->oi.dst=some d->skA pre i=true->∀ o'∈B6 pre,Operand.tmp d ∉ o'.op.operands:=λi oi d q1 q2 q3 o' ho' hc=>by
  rw[l9]at q1
  unfold skA at q3
  cases e:pre[i]? with
  |none=>rw[e]at q1;cases q1
  |some o0 =>
   rw[e]at q1 q3
   cases q1
   obtain⟨t,d1,z,k1,k2,k3,k4,k5⟩:=hal o0 (List.mem_of_getElem? e) q3
   rw[j9,k3]at q2;cases q2
   obtain⟨j,hj⟩:=List.getElem?_of_mem ho'
   rw[l9]at hj
   cases e2:pre[j]? with
   |none=>rw[e2]at hj;cases hj
   |some o1 =>
    rw[e2]at hj;cases hj
    exact k5 o1 (List.mem_of_getElem? e2) (L0k hc)
 have hsb:∀ i,skA pre i=true->(A i).2.2 = .pu (.val undef):=λi q3=>by
  unfold skA at q3
  cases e:pre[i]? with
  |none=>rw[e]at q3;cases q3
  |some o0 =>
   rw[e]at q3
   obtain⟨t,d1,z,k1,k2,k3,k4,k5⟩:=hal o0 (List.mem_of_getElem? e) q3
   obtain⟨Lj,bj,_,_,_,_,_,hu⟩:=hall i (l01 o0) (Nat.zero_le _) (by rw[l9,e];rfl)
   refine hu _ ?_
   unfold l01
   rw[k1]
   rfl
 let Rest:Nat->Act->World->Prop:=λk a w=>∃ st' h' be oe H,doT (b05 P) (ops.toList.drop k) st' h' K/\Sim P h0 w0 be oe H st' h' a w
 let ml:=u0h ops.toList m [m]
 let Dl:Array Bool->Nat->Prop:=λlisted u=>∃(i:Nat) (o:Oper),pre[i]?=some o/\listed.getD i false=false/\o.dst=some u
 let Lat:Array Bool->Act->Act->Prop:=λlisted as a=>∀(i:Nat) (o:Oper) (t:List Nat) (d:Nat),pre[i]?=some o->listed.getD i false=false->g0a o=some t->o.dst=some d->Z03 o a.eval=some (as.tmps.getD d undef)
 let Inv:Array Bool->Act->World->Prop:=λlisted a w=>(∀(j:Nat) (o:Oper),ops[j]?=some o->listed.getD j false=true->∀ e∈o.after,Region.binds .any e=true->listed.getD e.on false=true) /\
  (((∀ k,m<=k->listed.getD k false=false)/\V0c P h0 w0 pre st h A listed a w)∨∃ k as,m<k/\k<=ops.size/\(∀ i,i<k->listed.getD i false=true∨(i<m/\i ∉ ml))/\(∀ i,k<=i->listed.getD i false=false)/\Rest k as w/\s0f as a (Dl listed)/\Lat listed as a)
 have lateOf:m<ops.size->∀(i:Nat) (o:Oper),pre[i]?=some o->i ∉ ml->∃ t d,g0a o=some t/\o.dst=some d/\h0a d (ops.toList.drop m)=false/\(∀ x∈t,h0a x (ops.toList.drop m)=false/\V05 ml x pre 0=true)/\e07 i d (ops.toList.drop m)=true:=λhm i o hi hml=>by
  rcases b8 with h|h
  ·exfalso
   have:ops.toList.drop m = []:=by
    cases e:ops.toList.drop m with
    |nil=>rfl
    |cons x r=>rw[e]at h;cases h
   have:=List.drop_eq_nil_iff.1 this
   simp at this;omega
  ·have:=z0b h.1 i o hi
   rw[Nat.zero_add]at this
   rcases this with h1|h1
   ·exact absurd (W0c.1 h1) hml
   ·exact K0m h1
 have noselT:m<ops.size->l0k (ops.toList.drop m)=true:=λhm=>by
  rcases b8 with h|h
  ·exfalso
   have:ops.toList.drop m = []:=by
    cases e:ops.toList.drop m with
    |nil=>rfl
    |cons x r=>rw[e]at h;cases h
   have:=List.drop_eq_nil_iff.1 this
   simp at this;omega
  ·exact h.2
 have preD:∀(i j:Nat) (oi oj:Oper) (d:Nat),pre[i]?=some oi->pre[j]?=some oj->oi.dst=some d->oj.dst=some d->i=j:=λi j oi oj d h1 h2 h3 h4 =>
  hD i j (l01 oi) (l01 oj) d (by rw[l9,h1];rfl) (by rw[l9,h2];rfl) (by rw[j9];exact h3) (by rw[j9];exact h4)
 have preN:∀(i:Nat) (o:Oper) (d:Nat),pre[i]?=some o->o.dst=some d->d<st.n:=λi o d h1 h2 =>
  hn (l01 o) (List.mem_of_getElem? (i:=i) (by rw[l9,h1];rfl)) d (by rw[j9];exact h2)
 have unl:∀ {listed:Array Bool} {j:Nat},listed.getD j true=false->listed.getD j false=false/\j<listed.size:=λ{listed j} hj=>by
  rcases Nat.lt_or_ge j listed.size with h|h
  ·simp[h]at hj ⊢;exact hj
  ·simp[Array.getElem?_eq_none h]at hj
 have allpre:∀ {listed:Array Bool} {a:Act} {w:World},(∀ j,j<pre.length->listed.getD j false=true)->V0c P h0 w0 pre st h A listed a w->Rest m a w:=λ{listed a w} hl hi =>
  f0t (K:=λst h=>doT (b05 P) (ops.toList.drop m) st h K) hD hn hsb hal hP hfin hl hi
 have tail:∀ {Q:Exit->Act->World->Prop} {k:Nat} {o:Oper} {a:Act} {w:World},ops[k]?=some o->Rest k a w->o.wp P a w (Rest (k+1)) Q:=λ{Q k o a w} ho hr=>by
  obtain⟨st',h',be,oe,H,hd,s'⟩:=hr
  have hk:k<ops.toList.length:=by simpa using (Array.getElem?_eq_some_iff.1 ho).1
  have e:ops.toList.drop k=o::ops.toList.drop (k+1):=by
   rw[List.drop_eq_getElem_cons hk]
   congr 1
   have:ops.toList[k]?=some o:=by simpa using ho
   rw[List.getElem?_eq_getElem hk]at this
   exact oJ this
  rw[e]at hd
  exact M0k s' hd
 have virt:m<ops.size->∀ {listed:Array Bool} {a:Act} {w:World},listed.size=ops.size->(∀ i,i<m->i∈ml->listed.getD i false=true)->V0c P h0 w0 pre st h A listed a w ->
   ∀ k,k<=pre.length->∃ l2 as,l2.size=ops.size/\(∀ i,i<k->l2.getD i false=true)/\(∀ i,k<=i->l2.getD i false=listed.getD i false)/\V0c P h0 w0 pre st h A l2 as w /\
    s0f as a (λu=>∃(i:Nat) (o:Oper),i<k/\pre[i]?=some o/\listed.getD i false=false/\o.dst=some u) /\
    ∀(i:Nat) (o:Oper) (t:List Nat) (d:Nat),i<k->pre[i]?=some o->listed.getD i false=false->g0a o=some t->o.dst=some d->Z03 o a.eval=some (as.tmps.getD d undef):=by
  intro hmN listed a w hsz hml hA k
  induction k with
  |zero=>exact λ_=>⟨listed,a,hsz,λi hi=>by omega,λi _=>rfl,hA,⟨rfl,rfl,λ_ _=>rfl⟩,λi o t d hi=>by omega⟩
  |succ k ih =>
   intro hk
   obtain⟨l2,as,z1,z2,z3,z4,z5,z6⟩:=ih (by omega)
   cases hlk:listed.getD k false with
   |true =>
    refine⟨l2,as,z1,λi hi=>?_,λi hi=>z3 i (by omega),z4,⟨z5.1,z5.2.1,λu hu=>z5.2.2 u λ⟨i,o,q1,q2⟩=>hu ⟨i,o,by omega,q2⟩⟩,λi o t d hi q1 q2 q3 q4=>?_⟩
    ·by_cases e:i=k
     ·subst e;rw[z3 i (Nat.le_refl _)];exact hlk
     ·exact z2 i (by omega)
    ·have:i≠k:=λe=>by subst e;rw[hlk]at q2;cases q2
     exact z6 i o t d (by omega) q1 q2 q3 q4
   |false =>
    obtain⟨o,ho⟩:∃ o,pre[k]?=some o:=⟨pre[k],List.getElem?_eq_getElem (by omega)⟩
    have hkm:k<m:=by omega
    have hkml:k ∉ ml:=λh=>by rw[hml k hkm h]at hlk;cases hlk
    obtain⟨t,d,y1,y2,y3,y5,y6⟩:=lateOf hmN k o ho hkml
    have hg:=(g05 y1).1
    have hl2k:l2.getD k false=false:=by rw[z3 k (Nat.le_refl _)];exact hlk
    have hks:k<l2.size:=by rw[z1];omega
    have hun2:l2.getD k true=false:=by
     simp[hks]at hl2k ⊢;exact hl2k
    have hoL:ops.toList[k]?=some o:=by rw[hpg k hkm];exact ho
    have st1:=(R0t (Q:=λ_ _ _=>False) hD hn hB hdep hgd hP (λj o ho=>hall j o (Nat.zero_le _) ho) hsr hsb hal hun2 ho (λe he1 he2=>z2 e.on (hBB k o hoL e he1 he2)) z4).1 (by unfold Region.wanted;rw[hg])
    obtain⟨v,v1,v2⟩:=g0t y1 st1
    have hasz:as.tmps.size=st.n:=by
     obtain⟨_,_,_,_,_,_,iu,_,_⟩:=z4
     obtain⟨_,_,_,_,_,s,_⟩:=iu
     exact s.siz
    have htne:∀ x∈t,¬ ∃(i:Nat) (o:Oper),i<k/\pre[i]?=some o/\listed.getD i false=false/\o.dst=some x:=λx hx ⟨i,o',q1,q2,q3,q4⟩=>by
     have:=V06 (y5 x hx).2 i o' q2 q4
     rw[Nat.zero_add]at this
     rw[hml i (by omega) this]at q3;cases q3
    rw[b09 y1 λx hx=>z5.2.2 x (htne x hx)]at v1
    rw[y2]at v2
    refine⟨l2.setIfInBounds k true,as.put (some d) v,by simpa using z1,λi hi=>?_,λi hi=>?_,v2,⟨by simp[Act.put,z5.1],z5.2.1,λu hu=>?_⟩,λi o' t' d' hi q1 q2 q3 q4=>?_⟩
    ·by_cases e:k=i
     ·subst e;simp[hks]
     ·rw[getD_set_ne false e];exact z2 i (by omega)
    ·rw[getD_set_ne false (by omega)];exact z3 i (by omega)
    ·rw[h05,if_neg λe=>hu ⟨k,o,by omega,ho,hlk,by rw[y2,e.1]⟩]
     exact z5.2.2 u λ⟨i,o',q1,q2⟩=>hu ⟨i,o',by omega,q2⟩
    ·rw[h05]
     by_cases e:i=k
     ·subst e
      rw[ho]at q1;cases q1
      rw[y1]at q3;cases q3
      rw[y2]at q4;cases q4
      rw[if_pos ⟨rfl,by rw[hasz];exact preN i o d ho y2⟩]
      exact v1
     ·rw[if_neg λh=>e (preD i k o' o d' q1 ho q4 (by rw[y2,h.1]))]
      exact z6 i o' t' d' (by omega) q1 q2 q3 q4
 refine g0v (Inv:=Inv) hBB (λlisted a w j o hsz hun ho hrd hi=>?_) (λlisted a w hl hi=>?_) ops.size _ a w (by simp) (by simp[List.count_replicate]) ⟨λj o _ h=>?_,.inl ⟨λk _=>?_,V0c.start s⟩⟩
 rotate_left 2
 ·simp[Array.getElem?_replicate]at h
  split at h<;>cases h
 ·simp[Array.getElem?_replicate]
  split<;>simp
 rotate_left 1
 ·rcases hi.2 with⟨hm,hA⟩|⟨k,as,k1,k2,k3,k4,hr,lk,lt⟩
  ·have hms:ops.size<=m:=by
    rcases Nat.lt_or_ge m ops.size with h|h
    ·have:=hm m (Nat.le_refl _)
     rw[hl m h]at this;cases this
    ·exact h
   obtain⟨st',h',be,oe,H,hd,s'⟩:=allpre (λj hj=>hl j (by omega)) hA
   rw[List.drop_eq_nil_of_le (by simpa using hms)]at hd
   exact hQ a w st' h' be oe H hd s'
  ·have hk:k=ops.size:=by
    rcases Nat.lt_or_ge k ops.size with h|h
    ·have:=k4 k (Nat.le_refl _)
     rw[hl k h]at this;cases this
    ·omega
   subst hk
   obtain⟨st',h',be,oe,H,hd,s'⟩:=hr
   rw[List.drop_eq_nil_of_le (by simp)]at hd
   refine hQ a w st' h' be oe H hd (s'.like lk λu ⟨i,o,q1,q2,q3⟩=>?_)
   have:=(List.getElem?_eq_some_iff.1 q1).1
   rw[hl i (by omega)]at q2;cases q2
 ·obtain⟨hcl,hi⟩:=hi
  obtain⟨hjf,hjs⟩:=unl hun
  have hcl':∀(i:Nat) (oi:Oper),ops[i]?=some oi->(listed.setIfInBounds j true).getD i false=true->∀ e∈oi.after,Region.binds .any e=true->(listed.setIfInBounds j true).getD e.on false=true:=λi oi h1 h2 e he1 he2=>by
   by_cases hij:j=i
   ·subst hij
    rw[ho]at h1;cases h1
    exact getD_set_true (hrd e he1 he2)
   ·rw[getD_set_ne false hij]at h2
    exact getD_set_true (hcl i oi h1 h2 e he1 he2)
  have hoL:ops.toList[j]?=some o:=by simpa using ho
  have hjlt:j<ops.size:=(Array.getElem?_eq_some_iff.1 ho).1
  by_cases hjm:j<m
  ·rcases hi with⟨hm,hA⟩|⟨k,as,k1,k2,k3,k4,hr,lk,lt⟩
   ·have hop:pre[j]?=some o:=by rw[←hpg j hjm];exact hoL
    have st1:=R0t (Q:=Q) hD hn hB hdep hgd hP (λj o ho=>hall j o (Nat.zero_le _) ho) hsr hsb hal hun hop hrd hA
    have hyd:Region.wanted o (yielded ops a.tmps)=Region.wanted o (yielded (B6 pre).toArray a.tmps):=by
     unfold Region.wanted
     cases hg:o.guard with
     |none=>rfl
     |some p =>
      obtain⟨i,wv⟩:=p
      obtain⟨e,he1,he2,he3⟩:=K7 (hgd (l01 o) (List.mem_of_getElem? (i:=j) (by rw[l9,hop];rfl)) i wv (by rw[K0k];exact hg))
      rw[J0k]at he1
      have hlt:=hBB j o hoL e he1 he2
      rw[he3]at hlt
      have hig:=hpg i (by omega)
      have:yielded ops a.tmps i=yielded (B6 pre).toArray a.tmps i:=by
       unfold yielded
       have e1:ops[i]?=pre[i]?:=by rw[←hig];simp
       have e2:(B6 pre).toArray[i]?=(pre[i]?).map l01:=by simp[l9]
       rw[e1,e2]
       cases pre[i]? with
       |none=>rfl
       |some o0=>simp[j9]
      simp only[this]
    rw[hyd]
    have up:∀ a' w',V0c P h0 w0 pre st h A (listed.setIfInBounds j true) a' w'->Inv (listed.setIfInBounds j true) a' w':=λa' w' hx=>⟨hcl',.inl ⟨λk hk=>by rw[getD_set_ne false (by omega)];exact hm k hk,hx⟩⟩
    exact⟨λhw=>Oper.wp_mono up (st1.1 hw),λhw=>up _ _ (st1.2 hw)⟩
   ·have hop:pre[j]?=some o:=by rw[←hpg j hjm];exact hoL
    have hjml:j ∉ ml:=by
     rcases k3 j (by omega)with h|h
     ·rw[hjf]at h;cases h
     ·exact h.2
    obtain⟨t,d,y1,y2,y3,y5,y6⟩:=lateOf (by omega) j o hop hjml
    have hg:=(g05 y1).1
    refine⟨λ_=>?_,λhw=>by unfold Region.wanted at hw;rw[hg]at hw;cases hw⟩
    unfold Oper.wp
    rw[r0f y1 (lt j o t d hop hjf y1 y2) w]
    refine⟨hcl',.inr ⟨k,as,k1,k2,λi hi=>?_,λi hi=>?_,hr,⟨by rw[y2];simp[Act.put,lk.1],by rw[y2];exact lk.2.1,λu hu=>?_⟩,λi o' t' d' q1 q2 q3 q4=>?_⟩⟩
    ·rcases k3 i hi with h|h
     ·exact .inl (getD_set_true h)
     ·exact .inr h
    ·rw[getD_set_ne false (by omega)];exact k4 i hi
    ·rw[y2,h05]
     by_cases e:d=u
     ·subst e
      by_cases hlt:d<a.tmps.size
      ·rw[if_pos ⟨rfl,hlt⟩]
      ·rw[if_neg λh=>hlt h.2]
       have e1:∀(x:Act),¬ d<x.tmps.size->x.tmps.getD d undef=undef:=λx hx=>by
        simp[Array.getElem?_eq_none (Nat.le_of_not_lt hx)]
       rw[e1 a hlt,e1 as (by rw[lk.1];exact hlt)]
     ·rw[if_neg λh=>e h.1]
      refine lk.2.2 u λ⟨i,o',q1,q2,q3⟩=>?_
      by_cases e2:j=i
      ·subst e2
       rw[hop]at q1;cases q1
       rw[y2]at q3;cases q3
       exact e rfl
      ·exact hu ⟨i,o',q1,by rw[getD_set_ne false e2];exact q2,q3⟩
    ·have e2:j≠i:=λe2=>by subst e2;simp[hjs]at q2
     rw[getD_set_ne false e2]at q2
     have hi':=(List.getElem?_eq_some_iff.1 q1).1
     have himl:i ∉ ml:=by
      rcases k3 i (by omega)with h|h
      ·rw[q2]at h;cases h
      ·exact h.2
     obtain⟨t2,d2,x1,x2,x3,x5,x6⟩:=lateOf (by omega) i o' q1 himl
     rw[q3]at x1;cases x1
     rw[←lt i o' t' d' q1 q2 q3 q4]
     refine b09 q3 λx hx=>?_
     rw[y2,h05,if_neg λh=>?_]
     have:=V06 (x5 x hx).2 j o hop (by rw[y2,h.1])
     rw[Nat.zero_add]at this
     exact hjml this
  ·have hg:o.guard=none:=sq1 o (List.mem_of_getElem? (i:=j-m) (by rw[hdg];rw[show m+(j-m)=j by omega];exact hoL))
   have prev:m<j->listed.getD (j-1) false=true:=λhlt=>by
    have:=sq2 (j-m-1) o (by rw[hdg];rw[show m+(j-m-1+1)=j by omega];exact hoL)
    obtain⟨e,he1,he2,he3⟩:=K7 this
    have:=hrd e he1 he2
    rw[he3,show m+(j-m-1)=j-1 by omega]at this
    exact this
   refine⟨λ_=>?_,λhw=>by unfold Region.wanted at hw;rw[hg]at hw;cases hw⟩
   have hmt:o∈ops.toList.drop m:=List.mem_of_getElem? (i:=j-m) (by rw[hdg,show m+(j-m)=j by omega];exact hoL)
   have go:∀ as,(∀ i,i<j->listed.getD i false=true∨(i<m/\i ∉ ml))->(∀ i,j<=i->listed.getD i false=false)->Rest j as w->s0f as a (Dl listed)->Lat listed as a->o.wp P a w (Inv (listed.setIfInBounds j true)) Q:=λas q1 q2 hr lk lt=>by
    have hjD:∀ u,Dl (listed.setIfInBounds j true) u↔Dl listed u:=λu=>by
     constructor
     ·rintro⟨i,o',p1,p2,p3⟩
      have:=(List.getElem?_eq_some_iff.1 p1).1
      rw[getD_set_ne false (by omega)]at p2
      exact⟨i,o',p1,p2,p3⟩
     ·rintro⟨i,o',p1,p2,p3⟩
      have:=(List.getElem?_eq_some_iff.1 p1).1
      exact⟨i,o',p1,by rw[getD_set_ne false (by omega)];exact p2,p3⟩
    have lateU:∀(i:Nat) (o':Oper),pre[i]?=some o'->listed.getD i false=false->i ∉ ml:=λi o' p1 p2=>by
     have:=(List.getElem?_eq_some_iff.1 p1).1
     rcases q1 i (by omega)with h|h
     ·rw[p2]at h;cases h
     ·exact h.2
    refine Oper.wp_mono (λa' w' hx=>?_) (h0t (Q:=Q) lk (q0f (noselT (by omega)) o hmt) (λu hu ⟨i,o',p1,p2,p3⟩=>?_) (tail (Q:=λ_ _ _=>False) ho hr))
    ·obtain⟨as',hr',lk',⟨v1,hv1⟩,v2,hv2⟩:=hx
     have e1:∀ u,o.dst≠some u->as'.tmps.getD u undef=as.tmps.getD u undef:=λu hu=>by
      cases hd:o.dst with
      |none =>
       rw[hd]at hv1
       rcases hv1 with h|⟨x,h⟩<;>rw[h]<;>rfl
      |some d =>
       rw[hd]at hv1 hu
       rcases hv1 with h|⟨x,h⟩<;>rw[h,h05,if_neg λh=>hu (by rw[h.1])]
     have e2:∀ u,o.dst≠some u->a'.tmps.getD u undef=a.tmps.getD u undef:=λu hu=>by
      cases hd:o.dst with
      |none =>
       rw[hd]at hv2
       rcases hv2 with h|⟨x,h⟩<;>rw[h]<;>rfl
      |some d =>
       rw[hd]at hv2 hu
       rcases hv2 with h|⟨x,h⟩<;>rw[h,h05,if_neg λh=>hu (by rw[h.1])]
     refine⟨hcl',.inr ⟨j+1,as',by omega,by omega,λi hi=>?_,λi hi=>?_,hr',⟨lk'.1,lk'.2.1,λu hu=>lk'.2.2 u λh=>hu ((hjD u).2 h)⟩,λi o' t d p1 p2 p3 p4=>?_⟩⟩
     ·by_cases e:j=i
      ·subst e;left;simp[hjs]
      ·rw[getD_set_ne false e];exact q1 i (by omega)
     ·rw[getD_set_ne false (by omega)];exact q2 i (by omega)
     ·have hi':=(List.getElem?_eq_some_iff.1 p1).1
      rw[getD_set_ne false (by omega)]at p2
      obtain⟨t2,d2,x1,x2,x3,x5,x6⟩:=lateOf (by omega) i o' p1 (lateU i o' p1 p2)
      rw[p3]at x1;cases x1
      rw[p4]at x2;cases x2
      rw[e1 d (G0a x3 o hmt),b09 p3 λx hx=>e2 x (G0a (x5 x hx).1 o hmt)]
      exact lt i o' t d p1 p2 p3 p4
    ·obtain⟨t2,d2,x1,x2,x3,x5,x6⟩:=lateOf (by omega) i o' p1 (lateU i o' p1 p2)
     rw[p3]at x2;cases x2
     obtain⟨e,he1,he2,he3⟩:=K7 (q0a x6 o hmt hu)
     have:=hrd e he1 he2
     rw[he3,p2]at this;cases this
   rcases hi with⟨hm,hA⟩|⟨k,as,k1,k2,k3,k4,hr,lk,lt⟩
   ·have hjm':j=m:=by
     rcases Nat.lt_or_ge m j with h|h
     ·have:=prev h
      rw[hm (j-1) (by omega)]at this;cases this
     ·omega
    subst hjm'
    have hml:∀ i,i<j->i∈ml->listed.getD i false=true:=λi hi hmi=>by
     have:=F0a (G:=λi=>i=j∨listed.getD i false=true) (ops:=ops.toList) (λi' j' o' hG ho' he'=>?_) j [j] (λx hx => .inl (by simpa using hx)) i hmi
     ·rcases this with h|h
      ·omega
      ·exact h
     ·obtain⟨e,he1,he2,he3⟩:=K7 he'
      rw[←he3]
      right
      rcases hG with rfl|hG
      ·rw[hoL]at ho';cases ho'
       exact hrd e he1 he2
      ·exact hcl j' o' (by simpa using ho') hG e he1 he2
    obtain⟨l2,as,z1,z2,z3,z4,z5,z6⟩:=virt hjlt (by assumption) hml hA pre.length (Nat.le_refl _)
    refine go as (λi hi=>?_) hm (allpre (λi hi=>z2 i hi) z4) ⟨z5.1,z5.2.1,λu hu=>z5.2.2 u λ⟨i,o',p1,p2⟩=>hu ⟨i,o',p2⟩⟩ (λi o' t d p1 p2 p3 p4=>z6 i o' t d (List.getElem?_eq_some_iff.1 p1).1 p1 p2 p3 p4)
    by_cases h:i∈ml
    ·exact .inl (hml i hi h)
    ·exact .inr ⟨hi,h⟩
   ·have hjk:j=k:=by
     have h1:k<=j:=by
      rcases Nat.lt_or_ge j k with h|h
      ·rcases k3 j h with h2|h2
       ·rw[hjf]at h2;cases h2
       ·omega
      ·exact h
     rcases Nat.lt_or_ge k j with h|h
     ·have:=prev (by omega)
      rw[k4 (j-1) (by omega)]at this;cases this
     ·omega
    subst hjk
    exact go as k3 k4 hr lk lt
end
section
variable {P:Program} {h0:Hp} {w0:World} {Q:Exit->Act->World->Prop} {ops:Array Oper} {K:RS->Prop}
theorem N0k{be:Nat->Nat}{oe:Nat->Value}{H:Hp}{rs:RS}{a:Act}{w:World}{o:Oper}{i:Nat}{e:RS->Prop}(s:Sim P h0 w0 be oe H rs.st rs.h a w)(r:W08 ops be oe rs a i)(l:ops[i]?=some o)
  {ch:List (Nat×Bool)} {c:Bool} (g:b01 rs.bs o.guard=some ch) (d:cB rs.bs ch=some c) (j:evG P o ch c rs λav=>S0e o.dst i ch av rs e) :
  ∃ v b,e b/\W08 ops be oe b (a.put o.dst v) (i+1)/\Sim P h0 w0 be oe H b.st b.h (a.put o.dst v) w/\Region.wanted o (yielded ops a.tmps)=c /\
   (c=true->∀ f,CW H w f->o.quietAt P a (CW H w) f v)/\(c=false->v=undef):=by
 obtain⟨av,k,m⟩:=J0p s r d j
 have n:=I0p r g d
 cases c with
 |true =>
  grind[c06]
 |false =>
  obtain⟨b,p,_,q,t⟩:=c06 (v:=undef) s r l d (λh=>by cases h) (λ_=>rfl) k
  grind
theorem J06(d:∀ rs a w be oe H,K rs->Sim P h0 w0 be oe H rs.st rs.h a w->Q .normal a w):∀(l:List Oper) (i:Nat) (rs:RS) (a:Act) (w:World) (be:Nat->Nat) (oe:Nat->Value) (H:Hp),
  (∀ j,l[j]?=ops[i+j]?)->Sim P h0 w0 be oe H rs.st rs.h a w->W08 ops be oe rs a i->H0d P l i rs K->wpList P ops Q l a w
 | [],i,rs,a,w,be,oe,H,_,s,_,b=>d rs a w be oe H b s
 |o::l,i,rs,a,w,be,oe,H,y,s,r,b=>by
  have z:ops[i]?=some o:=by simpa using (y 0).symm
  have q:∀ j,l[j]?=ops[i+1+j]?:=λj=>by have:=y (j+1);grind
  have M:∀ ch c,b01 rs.bs o.guard=some ch->cB rs.bs ch=some c->(evG P o ch c rs λav=>S0e o.dst i ch av rs λrs=>H0d P l (i+1) rs K)->wpList P ops Q (o::l) a w:=by
   intro ch c F E b
   obtain⟨v,n,f,A,k,u,J,t⟩:=N0k s r z F E b
   unfold wpList
   rw[u]
   cases c with
   |false =>
    rw[if_neg (by simp),←t rfl]
    exact J06 d l (i+1) n _ w be oe H q k A f
   |true =>
    rw[if_pos rfl]
    refine .inl (Oper.wp_of_quiet (C:=CW H w) (K:=λp=>p=a.put o.dst v) (I3.refl s.mv.vis) (λp x m e=>?_) ⟨v,J rfl,rfl⟩)
    subst e
    exact J06 d l (i+1) n _ x be oe H q (k.still (hf:=H) (λ_ _ h=>h) m) A f
  simp only[H0d]at b
  split at b
  ·rename_i G N
   have u:Region.wanted o (yielded ops a.tmps)=true:=by unfold Region.wanted;rw[G]
   unfold wpList
   rw[if_pos u]
   refine .inl (Oper.wp_mono (λp x t=>?_) (Q00 (Q:=Q) s b))
   obtain⟨av,st',h',v,be',oe',B,I,rfl,s',g,D⟩:=t
   obtain⟨n,f,_,k,L⟩:=c06 (rs := { rs with st:=st',h:=h' }) (ch:=[]) (c:=true) (v:=v) s' (r.grow D) z rfl (λ_=>g) (λh=>by cases h) I
   exact J06 d l (i+1) n _ x be' oe' B q L k f
  grind
theorem J0h{be:Nat->Nat}{oe:Nat->Value}{H:Hp}{w:World}(e:∀ rs a w be oe H,K rs->Sim P h0 w0 be oe H rs.st rs.h a w->Q .normal a w):∀(l:List Oper) (i:Nat) (rs:RS) (a:Act),
  (∀ j,l[j]?=ops[i+j]?)->Sim P h0 w0 be oe H rs.st rs.h a w->W08 ops be oe rs a i->evQ P l i rs K->wpQuiet P ops (CW H w) (λg=>∀ d,CW H w d->Q .normal g d) l a
 | [],i,rs,a,_,s,_,b=>λd m=>e rs a d be oe H b (s.still (hf:=H) (λ_ _ h=>h) m)
 |o::l,i,rs,a,f,s,r,b=>by
  have q:ops[i]?=some o:=by simpa using (f 0).symm
  have p:∀ j,l[j]?=ops[i+1+j]?:=λj=>by have:=f (j+1);grind
  simp only[evQ]at b
  split at b
  ·rename_i ch n
   split at b
   ·rename_i c k
    obtain⟨v,B,y,z,A,u,t,C⟩:=N0k s r q n k b
    have x:=J0h e l (i+1) B _ p A z y
    unfold wpQuiet
    rw[u]
    cases c with
    |false=>grind
    |true=>rw[if_pos rfl];exact⟨v,t rfl,x⟩
   ·exact b.elim
  ·exact b.elim
theorem W08.init{be:Nat->Nat}{oe:Nat->Value}{st:St}{h:Hp}{a:Act}:W08 ops be oe ⟨st,h,[],[]⟩ a 0 :=
 ⟨(λx b=>nomatch b),(λx b=>nomatch b),(λd ch av c=>nomatch c)⟩
def u0f(P:Program)(h0:Hp)(w0:World)(Q:Ex->St->Hp->Prop):Exit->Act->World->Prop
 | .normal,a,w=>∃ st h be oe H,Q .normal st h/\Sim P h0 w0 be oe H st h a w
 | .exit i,a,w=>∃ st h be oe H,Q (.exit i) st h/\Sim P h0 w0 be oe H st h a w
 | .ret,a,w=>∃ st h be oe H,Q .ret st h/\Sim P h0 w0 be oe H st h a w
 |_,_,_=>False
variable {be:Nat->Nat} {oe:Nat->Value} {H:Hp} {st:St} {h:Hp} {a:Act} {w:World}
theorem j0j{Q:Ex->St->Hp->Prop}{id:Nat}{d:Bool}(s:Sim P h0 w0 be oe H st h a w)(b:ev P (.region id ops d) Q st h):(Code.region id ops d).wp P (u0f P h0 w0 Q) a w:=by
 cases d with
 |false =>
  simp only[ev]at b
  split at b
  ·exact wp_region_list ((G0k (h0:=h0) (w0:=w0) b.1 b.2 λa w st h be oe H f s=>⟨st,h,be,oe,H,f,s⟩).2 s)
  ·exact wp_region_list (J06 (K:=λrs=>Q .normal rs.st rs.h) (λrs a w be oe H f s=>⟨rs.st,rs.h,be,oe,H,f,s⟩) _ 0 ⟨st,h,[],[]⟩ a w be oe H (λj=>by simp) s W08.init b)
 |true =>
  rcases b with⟨⟨n,l⟩,b⟩|b|b|⟨⟨n,l⟩,b⟩|⟨m,⟨n,l⟩,b⟩
  ·refine wp_region_quiet (C:=CW H w) n l (I3.drawn s.mv.vis _ (by grind)) ?_
   exact J0h (K:=λrs=>Q .normal rs.st rs.h) (λrs a w be oe H f s=>⟨rs.st,rs.h,be,oe,H,f,s⟩) _ 0 ⟨st,h,[],[]⟩ a (λj=>by simp) s W08.init b
  ·exact b.elim
  ·split at b
   ·obtain⟨⟨n,l⟩,b⟩:=b
    exact wp_region_any n (M0p (s.still (hf:=H) (λ_ _ h=>h) (I3.drawn s.mv.vis _ (by grind))) l b λa w st h be oe H f s=>⟨st,h,be,oe,H,f,s⟩)
   ·rename_i o G
    obtain⟨⟨n,l⟩,b⟩:=b
    simp only[Bool.and_eq_true]at l
    obtain⟨z,E,A⟩:=O0p G
    have s':=s.still (hf:=H) (λ_ _ h=>h) (I3.drawn s.mv.vis (w.drawn+1) (by grind))
    obtain⟨Inv,q,t,u,p⟩:=C0k (ops:=(k02 ops.toList).toArray) (Q:=u0f P h0 w0 Q) (R:=λa w=>o.wp P a w (λa w=>u0f P h0 w0 Q .normal a w) (u0f P h0 w0 Q)) s' (by simpa using l.1) (by simpa using b) λa w st h be oe H f s=>by
     refine Oper.wp_mono (λI L F=>?_) (Q00 (Q:=u0f P h0 w0 Q) s f)
     obtain⟨av,st',h',v,be',oe',y,f,rfl,s',g,J⟩:=F
     obtain⟨x,q,t,u,p⟩:=c06 (ops := #[o]) (i:=0) (rs:=⟨st',h',[],[]⟩) (ch:=[]) (c:=true) (v:=v) s' W08.init (by rfl) rfl (λ_=>g) (λh=>by cases h) f
     exact⟨x.st,x.h,be',oe',y,q,p⟩
    exact wp_region_any n (e0v (ops0:=(k02 ops.toList).toArray) (o:=o) (Inv:=Inv) (by simpa using z) (λk o f e D B=>by
     have:=I04 l.2 k o f e D B
     omega) E (λk f=>p0a A k (by simpa using f) (by simp at f;omega)) t u p)
  ·exact wp_region_any n ((G0k (h0:=h0) (w0:=w0) l b λa w st h be oe H f s=>⟨st,h,be,oe,H,f,s⟩).1 (s.still (hf:=H) (λ_ _ h=>h) (I3.drawn s.mv.vis _ (by grind))))
  ·exact wp_region_any n (Q0p l b (λa w st h be oe H f s=>⟨st,h,be,oe,H,f,s⟩) (s.still (hf:=H) (λ_ _ h=>h) (I3.drawn s.mv.vis _ (by grind))))
end
theorem i05(x:Nat):∀ l:List Nat,W09 x l=true↔x∈l
 | []=>by simp[W09]
 |y::r=>by
  simp only[W09]
  cases h:Nat.beq x y with
  |true=>simp_all
  |false=>simp[i05 x r,Nat.ne_of_beq_eq_false h]
theorem X07{x:Nat}{l:List Nat}(h:W09 x l=false):x ∉ l:=λa=>by grind[i05]
theorem K0h:∀(l:List Nat) (K:List Nat->Prop),K0c l K=K l
 | [],K=>rfl
 |x::r,K=>by simp only[K0c,K0h r]
theorem A0b:∀(n:Nat) {K:List Value->Prop},j0b n K->∀ vs:List Value,vs.length=n->K vs
 |0,K,h,vs,a=>by rw[List.length_eq_zero_iff.1 a];exact h
 |n+1,K,h,[],a=>by cases a
 |n+1,K,h,v::vs,a=>A0b n (h v) vs (by simpa using a)
theorem B0b:∀(n:Nat) {K:List (List (List Value))->Prop},k0b n K->∀ os:List (List (List Value)),os.length=n->K os
 |0,K,h,vs,a=>by rw[List.length_eq_zero_iff.1 a];exact h
 |n+1,K,h,[],a=>by cases a
 |n+1,K,h,v::vs,a=>B0b n (h v) vs (by simpa using a)
theorem H0a{c:Type}:∀(a b:List c) (K:List c->List c->Prop),Q08 a.length (a++b) K=K a b
 | [],b,K=>rfl
 |x::a,b,K=>by simp only[List.length_cons,List.cons_append,Q08,H0a a b]
theorem X0c(e:St):∀(l:List Nat) {K:List Value->Prop},U0s l e K->∃ vs,vs.length=l.length/\K vs /\
  ∀ acc t,(O3 (L0c l vs acc) t=O3 acc t/\t ∉ l)∨(∃ v,O3 (L0c l vs acc) t = .val v/\rdA e (O3 e.fr t) = .val v)
 | [],K,h=>⟨[],rfl,h,λacc t => .inl ⟨rfl,by simp⟩⟩
 |s::r,K,h=>by
  simp only[U0s]at h
  split at h
  ·rename_i v g
   obtain⟨vs,b,c,d⟩:=X0c e r h
   refine⟨v::vs,by simp[b],c,λacc t=>?_⟩
   rcases d ((s,.val v)::acc) t with⟨a,f⟩|a
   ·by_cases e':s=t
    ·simp_all[L0c,i4,if_true]
    simp_all[L0c,i4,if_neg,Ne.symm]
   ·exact .inr a
  ·exact h.elim
def h06(B:Nat->Nat->Prop):List c6->Prop
 | []=>True
 | .val _::r=>h06 B r
 | .own i k::r=>B i k/\h06 B r
def ShC(e:St):List c6->List c6->Prop
 | [],[]=>True
 | .val _::r,.val _::a=>ShC e r a
 | .own i _::r,.own j c::a=>i=j/\(∃ b,rdA e (.own j c) = .own j b)/\ShC e r a
 |_,_=>False
def EqC(e:St):List c6->List c6->Prop
 | [],[]=>True
 | .val v::r,.val d::a=>v=d/\EqC e r a
 | .own i _::r,.own j c::a=>i=j/\(∃ b,rdA e (.own j c) = .own j b)/\EqC e r a
 |_,_=>False
theorem EqC.sh{e:St}:∀ {cs cs':List c6},EqC e cs cs'->ShC e cs cs'
 | [],[],_=>trivial
 | .val _::r,.val _::a,h=>EqC.sh (cs:=r) (cs':=a) h.2
 | .own i _::r,.own j b::a,h=>⟨h.1,h.2.1,EqC.sh (cs:=r) (cs':=a) h.2.2⟩
 | [],_::_,h=>h.elim
 | .val _::_,[],h=>h.elim
 | .own _ _::_,[],h=>h.elim
 | .val _::_,.own _ _::_,h=>h.elim
 | .own _ _::_,.val _::_,h=>h.elim
theorem C0b{e:St}{i k a b:Nat}(h:rdA e (.own i k) = .own a b):a=i/\b=k:=by
 grind[rdA]
theorem Y07{g e:St}:∀(cs cs':List c6),i07 g e cs cs'=true->ShC e cs cs'
 | [],[],_=>trivial
 | .val _::r,.val _::c,h=>Y07 r c h
 | .own i _::r,.own j k::c,h=>by
  simp only[i07]at h
  split at h
  ·rename_i a b f d
   obtain⟨rfl,_⟩:=C0b d
   exact⟨Nat.eq_of_beq_eq_true f,⟨_,d⟩,Y07 r c h⟩
  ·cases h
 | [],_::_,h=>by cases h
 | .val _::_,[],h=>by cases h
 | .own _ _::_,[],h=>by cases h
 | .val _::_,.own _ _::_,h=>by cases h
 | .own _ _::_,.val _::_,h=>by cases h
theorem Y0c(e:St):∀(cs cs':List c6),ShC e cs cs'->∀ {K:List Value->Prop},o0k cs' e K->∃ vs,K vs/\∃ a,(∀(f:List Value) (c:List c6->List Value->Prop),X04 cs (vs++f) c=c a f)/\EqC e a cs' /\
  (∀ B,h06 B cs->h06 B a)
 | [],[],_,K,h=>⟨[],h,[],λ_ _=>rfl,trivial,λ_ h=>h⟩
 | .val _::r,.val v::n,b,K,h=>by
  obtain⟨vs,g,a,o,l,m⟩:=Y0c e r n b (K:=λvs=>K (v::vs)) h
  exact⟨v::vs,g,.val v::a,λf c=>by grind[X04],⟨rfl,l⟩,λB d=>m B d⟩
 | .own i k::r,.own j p::n,b,K,h=>by
  obtain⟨vs,g,a,o,l,m⟩:=Y0c e r n b.2.2 (K:=K) h
  exact⟨vs,g,.own i k::a,λf c=>by simp only[X04,o],⟨b.1,b.2.1,l⟩,λB d=>⟨d.1,m B d.2⟩⟩
 | [],_::_,h,_,_=>h.elim
 | .val _::_,[],h,_,_=>h.elim
 | .own _ _::_,[],h,_,_=>h.elim
 | .val _::_,.own _ _::_,h,_,_=>h.elim
 | .own _ _::_,.val _::_,h,_,_=>h.elim
theorem Z0c(e:St):∀(cs:List c6) {K:List Value->Prop},o0k cs e K->∃ vs,K vs/\∀(b:List Value) (a:List c6->List Value->Prop),X04 cs (vs++b) a=a cs b
 | [],K,h=>⟨[],h,λ_ _=>rfl⟩
 | .val v::r,K,h=>by
  obtain⟨vs,c,d⟩:=Z0c e r (K:=λvs=>K (v::vs)) h
  grind[X04]
 | .own i k::r,K,h=>by
  obtain⟨vs,c,d⟩:=Z0c e r (K:=K) h
  grind[X04]
theorem L0h{a:Type}(l:List a)(i:Nat)(x:a)(h:nth l i=some x):E01 l i x=l:=by
 grind[W05,List.getElem?_eq_some_iff,n0b,List.set_getElem_self]
theorem c0o(e:St):∀(is:List Nat) {K:List Value->Prop},a0f is e K->∃ a,K a/\∀ b,f07 is a e.bx b=b e.bx
 | [],K,h=>⟨[],h,λ_=>rfl⟩
 |i::r,K,h=>by
  simp only[a0f]at h
  split at h
  ·rename_i cs ty j
   obtain⟨vs,c,d⟩:=Z0c e cs h
   obtain⟨a,f,g⟩:=c0o e r c
   grind[f07,L0h]
  ·exact h.elim
theorem d0o(e:St):∀(is:List Nat) {K:List (List (List Value))->Prop},v0h is e K->∃ os,os.length=is.length/\K os/\∀ a,g07 is os e.ow a=a e.ow
 | [],K,h=>⟨[],rfl,h,λ_=>rfl⟩
 |i::r,K,h=>by
  simp only[v0h]at h
  split at h
  ·rename_i s ty sz by_ nn xs f
   obtain⟨g,b,c,d⟩:=d0o e r h
   grind[g07,L0h]
  ·exact h.elim
theorem e0o(e:St):∀(is:List Nat) (bx:List BSt),(∀ i∈is,∃ cs ty cs',nth bx i=some (.live cs ty)/\nth e.bx i=some (.live cs' ty)/\ShC e cs cs')->∀ {K:List Value->Prop},a0f is e K ->
  ∃ d,K d/\∃ b,(∀ f,f07 is d bx f=f b)/\b.length=bx.length/\(∀ i,i ∉ is->nth b i=nth bx i) /\
   (∀ i∈is,∃ c ty cs',nth b i=some (.live c ty)/\nth e.bx i=some (.live cs' ty)/\EqC e c cs') /\
   (∀ B,(∀ i cs ty,nth bx i=some (.live cs ty)->h06 B cs)->(∀ i cs ty,nth b i=some (.live cs ty)->h06 B cs))
 | [],bx,_,K,h=>⟨[],h,bx,λ_=>rfl,rfl,λ_ _=>rfl,by simp,λ_ h=>h⟩
 |i::r,bx,t,K,h=>by
  obtain⟨cs,ty,cs',q,g,s⟩:=t i mS
  simp only[a0f,g]at h
  obtain⟨vs,v,c,D,n,E⟩:=Y0c e cs cs' s h
  have k:=T02 q
  have u:∀ j∈r,∃ l p m,nth (E01 bx i (.live c ty)) j=some (.live l p)/\nth e.bx j=some (.live m p)/\ShC e l m:=λj a=>by
   rw[c8 _ _ _ k]
   by_cases ej:j=i
   ·subst ej
    rw[if_pos rfl]
    exact⟨c,ty,cs',rfl,g,n.sh⟩
   grind
  obtain⟨d,w,b,F,x,o,y,z⟩:=e0o e r _ u v
  refine⟨vs++d,w,b,λf=>by grind[f07],by rw[x,A06],λj a=>?_,λj a=>?_,λB C=>z B λj A G a=>?_⟩
  ·simp only[List.mem_cons,not_or]at a
   rw[o j a.2,c8 _ _ _ k,if_neg a.1]
  ·by_cases hr:j∈r
   ·exact y j hr
   ·rcases List.mem_cons.1 a with rfl|a
    ·refine⟨c,ty,cs',?_,g,n⟩
     rw[o j hr,c8 _ _ _ k,if_pos rfl]
    ·exact absurd a hr
  grind[c8]
theorem f0o(d:St):∀(is:List Nat) (ow:List Own),(∀ i∈is,∃ s e sz by_ nn f s' a xs,nth ow i=some ⟨s,.live e sz by_ nn f⟩/\nth d.ow i=some ⟨s',.live e sz by_ a xs⟩/\(nn=true->a=true)) ->
  ∀ {K:List (List (List Value))->Prop},v0h is d K->∃ os,os.length=is.length/\K os/\∃ c,(∀ g,g07 is os ow g=g c)/\(∀ i,i ∉ is->nth c i=nth ow i) /\
   (∀ i∈is,∃ s e sz by_ nn s' a xs,nth c i=some ⟨s,.live e sz by_ nn xs⟩/\nth d.ow i=some ⟨s',.live e sz by_ a xs⟩/\(nn=true->a=true)) /\
   (∀ i,(nth c i).map (·.stamp)=(nth ow i).map (·.stamp))
 | [],ow,_,K,h=>⟨[],rfl,h,ow,λ_=>rfl,λ_ _=>rfl,by simp,λ_=>rfl⟩
 |i::r,ow,v,K,h=>by
  obtain⟨s,e,sz,by_,nn,f,s',a,xs,n,o,u⟩:=v i mS
  simp only[v0h,o]at h
  have k:=T02 n
  have w:∀ j∈r,∃ B m t l q f s' a C,nth (E01 ow i ⟨s,.live e sz by_ nn xs⟩) j=some ⟨B,.live m t l q f⟩/\nth d.ow j=some ⟨s',.live m t l a C⟩/\(q=true->a=true):=λj b=>by
   rw[c8 _ _ _ k]
   grind
  obtain⟨os,x,y,c,z,p,A,D⟩:=f0o d r _ w h
  refine⟨xs::os,by simp[x],y,c,λg=>by simp only[g07,n,z],λj b=>?_,λj b=>?_,λj=>?_⟩
  ·simp only[List.mem_cons,not_or]at b
   rw[p j b.2,c8 _ _ _ k,if_neg b.1]
  ·by_cases hr:j∈r
   ·exact A j hr
   ·rcases List.mem_cons.1 b with rfl|b
    ·refine⟨s,e,sz,by_,nn,s',a,xs,?_,o,u⟩
     rw[p j hr,c8 _ _ _ k,if_pos rfl]
    ·exact absurd b hr
  grind[c8]
theorem c09{A:Ann}{m e:St}:∀(i:Nat) (bx c:List BSt),M0c A m e i bx c->∀ k b,nth bx k=some b ->
  (i+k∈A.boxes/\∃ cs ty cs',b = .live cs ty/\nth c k=some (.live cs' ty)/\ShC e cs cs')∨(i+k ∉ A.boxes/\nth c k=some b/\F0m A.owns b=true)
 |i,[],_,_,k,b,a=>by cases k<;>cases a
 |i,x::r,[],h,_,_,_=>by cases h
 |i,x::r,y::f,h,k,b,a=>by
  simp only[M0c]at h
  split at h
  ·rename_i d
   split at h
   ·rename_i cs ty cs' n
    split at h
    ·rename_i g j
     have:=Nat.eq_of_beq_eq_true g
     subst this
     cases k with
     |zero=>cases a;exact .inl ⟨(i05 _ _).1 d,cs,ty,cs',rfl,rfl,Y07 _ _ j⟩
     |succ k=>have:=c09 (i+1) r f h k b a;rwa [show i+1+k=i+(k+1) from by omega]at this
    ·exact h.elim
   ·exact h.elim
  ·rename_i d
   split at h
   ·rename_i l
    obtain⟨rfl,h⟩:=h
    cases k with
    |zero=>cases a;exact .inr ⟨X07 d,rfl,l⟩
    |succ k=>have:=c09 (i+1) r f h k b a;rwa [show i+1+k=i+(k+1) from by omega]at this
   ·exact h.elim
theorem d09{A:Ann}:∀(i:Nat) (ow f:List Own),N0c A i ow f->∀ k b,nth ow k=some b ->
  (i+k∈A.owns/\∃ s e sz by_ nn l s' d xs,b=⟨s,.live e sz by_ nn l⟩/\nth f k=some ⟨s',.live e sz by_ d xs⟩/\(nn=true->d=true)/\(i+k∈A.kept->s=s'))∨(i+k ∉ A.owns/\nth f k=some b)
 |i,[],_,_,k,b,a=>by cases k<;>cases a
 |i,x::r,[],h,_,_,_=>by cases h
 |i,x::r,y::j,h,k,b,a=>by
  simp only[N0c]at h
  split at h
  ·rename_i c
   split at h
   ·rename_i s e sz by_ nn l s' t u q d xs
    split at h
    ·rename_i m n o p g
     have:=Nat.eq_of_beq_eq_true m
     subst this
     have:=Nat.eq_of_beq_eq_true n
     subst this
     have:=Nat.eq_of_beq_eq_true o
     subst this
     cases k with
     |zero=>cases a;exact .inl ⟨(i05 _ _).1 c,_,_,_,_,_,_,_,_,_,rfl,rfl,(λh=>by subst h;exact p),λh=>by rw[show W09 i A.kept=true from(i05 _ _).2 h]at g;exact Nat.eq_of_beq_eq_true g⟩
     |succ k=>have:=d09 (i+1) r j h k b a;rwa [show i+1+k=i+(k+1) from by omega]at this
    ·exact h.elim
   ·exact h.elim
  ·rename_i c
   obtain⟨rfl,h⟩:=h
   cases k with
   |zero=>cases a;exact .inr ⟨X07 c,rfl⟩
   |succ k=>have:=d09 (i+1) r j h k b a;rwa [show i+1+k=i+(k+1) from by omega]at this
def D0b(A:Ann)(st:St):AV->Prop
 | .val _ | .hel _ _ _ _ | .dead=>True
 | .agg cs=>U0n cs=true
 | .box i _=>i<st.bx.length
 | .own i k=>(i ∉ A.owns∨i∈A.kept)/\stamp st i=some k
 | .oel _ _ _ _ _=>False
theorem g0o{st:St}{av:AV}{i off:Nat}(h:rdA st av = .box i off):i<st.bx.length:=by
 cases av with
 |box j o =>
  simp only[rdA]at h
  split at h
  all_goals simp_all[T02]
 |own j k =>
  grind[rdA]
 |oel j s idx sz k =>
  grind[rdA]
 |_=>cases h
theorem a0d{st:St}{av:AV}{i k:Nat}(h:rdA st av = .own i k):stamp st i=some k:=by
 grind[M07,stamp]
theorem I0a(A:Ann)(ds:List Nat)(st:St):∀(l:List (Nat×AV)) {K:List (Nat×AV)->Prop},h07 A ds st l K->∃ a,K a/\∀ t,t ∉ ds ->
  O3 a t = .dead∨(O3 a t=rdA st (O3 l t)/\D0b A st (O3 a t))
 | [],K,h=>⟨[],h,λt _ => .inl rfl⟩
 |(s,av)::r,K,h=>by
  have put:∀ f,(f = .dead∨(f=rdA st av/\D0b A st f))->(h07 A (s::ds) st r λl=>K ((s,f)::l))->∃ a,K a/\∀ t,t ∉ ds ->
    O3 a t = .dead∨(O3 a t=rdA st (O3 ((s,av)::r) t)/\D0b A st (O3 a t)):=by
   intro f p h
   obtain⟨a,c,d⟩:=I0a A (s::ds) st r h
   refine⟨_,c,λt j=>?_⟩
   rw[i4,i4]
   by_cases e:s=t
   ·rw[if_pos e,if_pos e];exact p
   ·rw[if_neg e,if_neg e];exact d t λg=>by
     rcases List.mem_cons.1 g with k|k
     ·exact e k.symm
     ·exact j k
  simp only[h07]at h
  split at h
  ·rename_i g
   obtain⟨a,c,d⟩:=I0a A ds st r h
   refine⟨a,c,λt j=>?_⟩
   rw[i4,if_neg (λe=>j (by rw[←e];exact(i05 _ _).1 g))]
   exact d t j
  ·split at h
   ·rename_i i k b
    split at h
    ·exact put _ (.inl rfl) h
    ·rename_i g
     refine put _ (.inr ⟨b.symm,?_,a0d b⟩) h
     cases c:W09 i A.owns with
     |false=>exact .inl (X07 c)
     |true =>
      cases d:W09 i A.kept with
      |true=>exact .inr ((i05 _ _).1 d)
      |false=>exact absurd d (g c)
   ·exact put _ (.inl rfl) h
   ·rename_i cs b
    split at h
    ·rename_i q
     exact put _ (.inr ⟨b.symm,q⟩) h
    ·exact put _ (.inl rfl) h
   ·rename_i c d n
    refine put _ (.inr ⟨rfl,?_⟩) h
    cases b:rdA st av with
    |own i k=>exact absurd b (c i k)
    |oel i m idx sz k=>exact absurd b (d i m idx sz k)
    |agg cs=>exact absurd b (n cs)
    |box i o=>exact g0o b
    |val v=>trivial
    |hel m idx sz k=>trivial
    |dead=>trivial
def O0k(st:St)(t:Nat)(av:AV):Prop :=
 av = .dead∨(∃ i k,av = .own i k/\stamp st i=some k/\rdA st (O3 st.fr t) = .own i k)∨(∃ i o,av = .box i o/\i<st.bx.length/\rdA st (O3 st.fr t) = .box i o)
theorem J0a(A:Ann)(st:St):∀(l:List Nat) (acc:List (Nat×AV)) {K:List (Nat×AV)->Prop},i0a A st l acc K->(∀ p∈acc,O0k st p.1 p.2) ->
  ∃ a,K a/\(∀ p∈a,p.1∈l∨p∈acc)/\(∀ p∈a,O0k st p.1 p.2)/\(∀ t∈l,t ∉ A.vars->∃ av,(t,av)∈a)/\(∀ p∈acc,p∈a)
 | [],acc,K,h,e=>⟨acc,h,λp c => .inr c,e,by simp,λ_ h=>h⟩
 |s::r,acc,K,h,e=>by
  have put:∀ d,O0k st s d->i0a A st r ((s,d)::acc) K->∃ a,K a/\(∀ p∈a,p.1∈s::r∨p∈acc)/\(∀ p∈a,O0k st p.1 p.2)/\(∀ t∈s::r,t ∉ A.vars->∃ av,(t,av)∈a)/\(∀ p∈acc,p∈a):=by
   intro d q h
   obtain⟨a,f,g,j,n,m⟩:=J0a A st r _ h (λp c=>by
    grind)
   grind
  simp only[i0a]at h
  split at h
  ·rename_i u
   obtain⟨a,f,g,j,n,m⟩:=J0a A st r _ h e
   refine⟨a,f,λp c=>(g p c).imp (mC _) id,j,λt v w=>?_,m⟩
   grind[absurd,i05]
  ·split at h
   ·rename_i i k b
    exact put _ (.inr (.inl ⟨i,k,rfl,a0d b,b⟩)) h
   ·rename_i i o b
    exact put _ (.inr (.inr ⟨i,o,rfl,g0o b,b⟩)) h
   ·exact put _ (.inl rfl) h
theorem v0f:∀(b a:List (Nat×AV)) (t:Nat),(∃ av,(t,av)∈b/\O3 (b++a) t=av)∨((∀ av,(t,av) ∉ b)/\O3 (b++a) t=O3 a t)
 | [],a,t => .inr ⟨by simp,rfl⟩
 |(s,av)::r,a,t=>by
  simp only[List.cons_append]
  rw[i4]
  by_cases e:s=t
  ·grind
  ·rw[if_neg e]
   rcases v0f r a t with⟨f,c,d⟩|⟨c,d⟩
   all_goals grind
theorem w0f{c e:St}:∀(b:List (Nat×AV)),K0d c e b=true->∀ t av,(t,av)∈b->(∀ i k,av = .own i k->∃ a,rdA e (O3 e.fr t) = .own i a)/\(∀ i o,av = .box i o->rdA e (O3 e.fr t) = .box i o)
 | [],_,t,av,h=>by cases h
 |(s,x)::r,d,t,av,h=>by
  have key:K0d c e r=true/\(∀ i k,x = .own i k->∃ a,rdA e (O3 e.fr s) = .own i a)/\(∀ i o,x = .box i o->rdA e (O3 e.fr s) = .box i o):=by
   simp only[K0d]at d
   grind[Nat.eq_of_beq_eq_true,absurd]
  rcases List.mem_cons.1 h with h|h
  ·cases h;exact key.2
  ·exact w0f r key.1 t av h
theorem K0a{fr:List (Nat×AV)}:∀(a:List (Nat×AV)),w0h fr a=C0p a->∀ t,O3 a t = .dead∨O3 fr t=O3 a t
 | [],_,t => .inl rfl
 |(s,av)::r,h,t=>by
  rw[i4]
  simp only[w0h,C0p]at h
  cases hd:E0m av with
  |true =>
   rw[hd]at h
   by_cases e:s=t
   ·rw[if_pos e]
    left
    cases av<;>first|rfl|cases hd
   ·rw[if_neg e]
    exact K0a r h t
  |false =>
   rw[hd]at h
   simp only[List.cons.injEq]at h
   by_cases e:s=t
   ·grind
   ·rw[if_neg e]
    exact K0a r h.2 t
theorem b0d{e f:St}{be:Nat->Nat}{oe:Nat->Value}:∀ {c cs':List c6} {vs:List Value},EqC e c cs'->h06 (λj k=>∃ s,stamp f j=some s/\k<=s) c->Y2 e oe cs' vs->Y2 f oe c vs
 | [],[],[],_,_,_=>trivial
 | .val v::r,.val p::n,x::vs,h,a,g=>⟨by rw[show x=p from g.1,h.1];rfl,b0d (be:=be) h.2 a g.2⟩
 | .own i k::r,.own j q::n,x::vs,h,a,g=>by
  obtain⟨m,⟨b,d⟩,h⟩:=h
  subst m
  obtain⟨⟨s,s1,s2⟩,a⟩:=a
  refine⟨⟨s,s1,s2,λ_=>?_⟩,b0d (be:=be) h a g.2⟩
  obtain⟨_,l⟩:=C0b d
  subst l
  obtain⟨s',o,t,u⟩:=g.1
  rw[a0d d]at o
  grind
 | [],_::_,_,h,_,_=>h.elim
 | .val _::_,[],_,h,_,_=>h.elim
 | .own _ _::_,[],_,h,_,_=>h.elim
 | .val _::_,.own _ _::_,_,h,_,_=>h.elim
 | .own _ _::_,.val _::_,_,h,_,_=>h.elim
 |_,_::_,[],_,_,g=>g.elim
 |_,[],_::_,_,_,g=>g.elim
theorem Z07{os:List Nat}{e b:St}{oe:Nat->Value}(c:∀ j,j ∉ os->∀ s,stamp b j=some s->stamp e j=some s):∀ {cs:List c6} {vs:List Value},i0b os cs=true ->
  h06 (λj k=>∃ s,stamp b j=some s/\k<=s) cs->Y2 e oe cs vs->Y2 b oe cs vs
 | [],[],_,_,_=>trivial
 | .val v::r,x::vs,h,a,g=>⟨g.1,Z07 c h a g.2⟩
 | .own i k::r,x::vs,h,a,g=>by
  simp only[i0b]at h
  split at h
  ·cases h
  ·rename_i f
   obtain⟨⟨s,s1,s2⟩,a⟩:=a
   refine⟨⟨s,s1,s2,λd=>?_⟩,Z07 c h a g.2⟩
   obtain⟨s',l,m,n⟩:=g.1
   grind[X07]
 | [],_::_,_,_,g=>g.elim
 |_::_,[],_,_,g=>g.elim
section
variable {P:Program} {h0:Hp} {w0:World} {be:Nat->Nat} {oe:Nat->Value} {H:Hp} {h:Hp} {a:Act} {w:World}
theorem g0r{A:Ann}{e f:St}(s:Sim P h0 w0 be oe H e h a w)(M:e.n=f.n)
  (G:∀ i b,nth f.bx i=some b->(∃ B ty cs',b = .live B ty/\nth e.bx i=some (.live cs' ty)/\EqC e B cs')∨(nth e.bx i=some b/\F0m A.owns b=true))
  (N:∀ i o,nth f.ow i=some o->(∃ s t sz by_ nn s' p xs,o=⟨s,.live t sz by_ nn xs⟩/\nth e.ow i=some ⟨s',.live t sz by_ p xs⟩/\(nn=true->p=true))/\i∈A.owns∨(nth e.ow i=some o/\i ∉ A.owns))
  (F:∀ i cs ty,nth f.bx i=some (.live cs ty)->h06 (λj k=>∃ s,stamp f j=some s/\k<=s) cs)
  (hf:∀ t,C3 f be oe (O3 f.fr t) (a.tmps.getD t undef)):Sim P h0 w0 be oe H f h a w:=by
 have O:∀ j,j ∉ A.owns->∀ s,stamp f j=some s->stamp e j=some s:=λj q l Y=>by
  grind[stamp,nth,absurd]
 have D:∀ i cs ty,nth f.bx i=some (.live cs ty)->∃ cs',nth e.bx i=some (.live cs' ty):=λi cs ty d=>by
  grind
 have C:∀ i l t sz by_ nn xs,nth f.ow i=some ⟨l,.live t sz by_ nn xs⟩->∃ s' p,nth e.ow i=some ⟨s',.live t sz by_ p xs⟩/\(nn=true->p=true):=λi l t sz by_ nn xs d=>by
  grind
 refine⟨s.mv,s.sub,λi cs ty d=>?_,λi b d=>?_,λi l t sz by_ nn xs d=>?_,λi l v d=>?_,λi j cs ty cs' T d q=>?_,λi j l t sz by_ nn xs s1 S R K Q V g d q=>?_,λi cs ty j l t sz by_ nn xs d q=>?_,s.dfr,by rw[s.siz,M],hf⟩
 ·rcases G i _ d with⟨B,U,cs',x,c,m⟩|⟨c,m⟩
  ·cases x
   obtain⟨y,vs,z,E⟩:=s.box i cs' ty c
   exact⟨y,vs,b0d (be:=be) m (F i _ _ d) z,E⟩
  ·obtain⟨y,vs,z,E⟩:=s.box i cs ty c
   exact⟨y,vs,Z07 O m (F i _ _ d) z,E⟩
 ·rcases G i _ d with⟨B,U,cs',x,c,m⟩|⟨c,m⟩
  ·cases x
  ·exact s.pub i b c
 ·obtain⟨s',p,c,m⟩:=C i _ _ _ _ _ _ d
  obtain⟨y,z⟩:=s.own i _ _ _ _ _ _ c
  refine⟨y,z.imp (λ⟨I,J,W⟩=>⟨I,J,?_⟩) id⟩
  grind
 ·rcases N i _ d with⟨⟨s1,S,R,K,Q,s',p,V,x,c,m⟩,_⟩|⟨c,_⟩
  ·cases x
  ·exact s.frz i l v c
 ·obtain⟨L,u⟩:=D i cs ty d
  obtain⟨X,c⟩:=D j cs' T q
  exact s.bb i j _ _ _ _ u c
 ·obtain⟨_,_,u,_⟩:=C i _ _ _ _ _ _ d
  obtain⟨_,_,c,_⟩:=C j _ _ _ _ _ _ q
  exact s.oo i j _ _ _ _ _ _ _ _ _ _ _ _ g u c
 ·obtain⟨L,u⟩:=D i cs ty d
  obtain⟨_,_,c,_⟩:=C j _ _ _ _ _ _ q
  exact s.bo i _ _ j _ _ _ _ _ _ u c
end
section
variable {P:Program} {h0:Hp} {w0:World} {be:Nat->Nat} {oe:Nat->Value} {H:Hp} {st:St} {h:Hp} {a:Act} {w:World}
theorem h0r(s:Sim P h0 w0 be oe H st h a w):∀ i cs ty,nth st.bx i=some (.live cs ty)->h06 (λj k=>∃ s,stamp st j=some s/\k<=s) cs:=by
 intro i cs ty f
 obtain⟨_,vs,g,_⟩:=s.box i cs ty f
 have:∀(cs:List c6) (vs:List Value),Y2 st oe cs vs->h06 (λj k=>∃ s,stamp st j=some s/\k<=s) cs:=by
  intro cs
  induction cs with
  |nil=>intro vs _;trivial
  |cons c r b =>
   intro vs g
   cases vs with
   |nil=>exact g.elim
   |cons v vs =>
    cases c with
    |val x=>exact b vs g.2
    |own j k =>
     obtain⟨s',d,e,_⟩:=g.1
     exact⟨⟨s',d,e⟩,b vs g.2⟩
 exact this cs vs g
theorem P0k(p:Nat->Prop)(h:∃ n,p n):∃ n,p n/\∀ m,p m->n<=m:=by
 obtain⟨n,a⟩:=h
 induction n using Nat.strongRecOn with
 |_ n b =>
  grind
theorem h0o:∀(a b:List Value),V0s a b=true->a.length=b.length
 | [],[],_=>rfl
 |_::r,_::c,h=>by simp[h0o r c h]
 | [],_::_,h=>by cases h
 |_::_,[],h=>by cases h
theorem t0u{A:Ann}{ds:List Nat}{st e m:St}{f l:List (Nat×AV)}{z:List Value}{av1:∀ t,(O3 (L0c A.vars z (f++l)) t=O3 (f++l) t/\t ∉ A.vars)∨(∃ v,O3 (L0c A.vars z (f++l)) t = .val v/\rdA e (O3 e.fr t) = .val v)}
  (s:Sim P h0 w0 be oe H e h a w) (O:m.fr=L0c A.vars z (f++l)) (D:m.bx.length=st.bx.length) (E:∀ i,stamp m i=stamp st i)
  (ad:∀ i k,(i ∉ A.owns∨i∈A.kept)->stamp st i=some k->stamp e i=stamp m i)
  (aa:∀ p∈f,p.1∈ds) (K:∀ p∈f,O0k st p.1 p.2) (ab:∀ t∈ds,t ∉ A.vars->∃ av,(t,av)∈f)
  (s1:∀ t,t ∉ ds->D0b A st (O3 l t)) (S:∀ t av,(t,av)∈f->(∀ i k,av = .own i k->∃ G,rdA e (O3 e.fr t) = .own i G)/\(∀ i o,av = .box i o->rdA e (O3 e.fr t) = .box i o))
  (T:∀ t,O3 l t = .dead∨O3 e.fr t=O3 l t):∀ t,C3 m be oe (O3 m.fr t) (a.tmps.getD t undef):=by
 intro t
 rw[O]
 have b:=s.fr t
 have n:=s.rdA b
 rcases av1 t with⟨q,af⟩|⟨v,q,L⟩
 ·rw[q]
  rcases v0f f l t with⟨av,u,y⟩|⟨u,y⟩
  ·rw[y]
   obtain⟨W,X⟩:=S t av u
   rcases K _ u with rfl|⟨i,k,rfl,d,_⟩|⟨i,o,rfl,M,_⟩
   ·trivial
   ·obtain⟨G,C⟩:=W i k rfl
    rw[C]at n
    refine⟨k,by rw[E,d],Nat.le_refl _,λ_=>?_⟩
    obtain⟨B,ai,Z,ah,aj,Q⟩:=M07 C
    exact n.own_cur Q
   ·rw[X i o rfl]at n
    exact⟨by rw[D];exact M,n.2⟩
  ·rw[y]
   have U:t ∉ ds:=λac=>by
    grind
   rcases T t with N|B
   ·rw[N];trivial
   have d:=s1 t U
   rw[B]at b
   cases hl:O3 l t with
   |val v=>rw[hl]at b;exact b
   |hel Y idx sz k=>rw[hl]at b;exact b
   |dead=>trivial
   |agg cs =>
    rw[hl]at b d
    obtain⟨vs,I,J⟩:=b
    refine⟨vs,I,?_⟩
    have:∀(cs:List c6) (vs:List Value),U0n cs=true->Y2 e oe cs vs->Y2 m oe cs vs:=by
     intro cs
     induction cs with
     |nil=>intro vs _ g;cases vs<;>exact g
     |cons c r V =>
      intro vs F g
      cases vs with
      |nil=>exact g.elim
      |cons v vs =>
       cases c with
       |val x=>exact⟨g.1,V vs F g.2⟩
       |own j k=>cases F
    exact this cs vs d J
   |box i o =>
    rw[hl]at b d
    exact⟨by rw[D];exact d,b.2⟩
   |own i k =>
    rw[hl]at b d
    obtain⟨ae,R⟩:=d
    obtain⟨s',I,J,ag⟩:=b
    refine⟨k,by rw[E,R],Nat.le_refl _,λ_=>?_⟩
    grind
   |oel i Y idx sz k=>rw[hl]at d;exact d.elim
 ·rw[q]
  rw[L]at n
  exact n
theorem S0d:∀(l:List (Nat×Nat×Nat×Nat)) (st:St) (oe:Nat->Value) {K:St->Prop},Sim P h0 w0 be oe H st h a w->m0k l st K->∃ st' oe',K st'/\Sim P h0 w0 be oe' H st' h a w
 | [],st,oe,K,s,c=>⟨st,oe,c,s⟩
 |(t,e,sz,by_)::r,⟨n,fr,bx,ow⟩,oe,K,s,c=>by
  simp only[m0k]at c
  split at c
  ·rename_i i m
   rw[d0b]at c
   have d:=s.rdA (s.fr t)
   have j:a.tmps.getD t undef = .slice none 0 0:=by
    have:rdA ⟨n,fr,bx,ow⟩ (O3 fr t) = .val (.slice none 0 0):=i
    rw[show rdA ⟨n,fr,bx,ow⟩ (O3 (St.mk n fr bx ow).fr t) = .val (.slice none 0 0) from this]at d
    exact d
   have f:j07 h H (.slice none 0 0) e sz false []:=⟨by simp,.inl ⟨rfl,rfl,rfl⟩⟩
   obtain⟨s1,k⟩:=s.newOwn (by_:=by_) (λb o g=>g) (I3.refl s.mv.vis) f (by simp[Value.ownBlock])
   refine S0d r _ _ (s1.refr (fr:=(t,.own ow.length 0)::fr) λu=>?_) c
   rw[i4]
   by_cases eu:t=u
   ·subst eu
    rw[if_pos rfl,j]
    exact⟨0,by simp[stamp,C03],Nat.le_refl _,λ_=>by simp⟩
   ·rw[if_neg eu]
    exact s1.fr u
  ·exact c.elim
theorem E0b:∀(l:List (Nat×Nat×Nat×Nat×Nat)) (st:St) (oe:Nat->Value) {K:St->Prop},Sim P h0 w0 be oe H st h a w->Z0e l st K->∃ st' oe',K st'/\Sim P h0 w0 be oe' H st' h a w
 | [],st,oe,K,s,f=>⟨st,oe,f,s⟩
 |(i,k,e,sz,by_)::r,⟨n,fr,bx,ow⟩,oe,K,s,f=>by
  simp only[Z0e]at f
  split at f
  rotate_left
  ·exact f.elim
  rename_i cs ty B
  split at f
  rotate_left
  ·exact f.elim
  rename_i N
  rw[d0b]at f
  have J:j07 h H (.slice none 0 0) e sz false []:=⟨by simp,.inl ⟨rfl,rfl,rfl⟩⟩
  obtain⟨s1,W⟩:=s.newOwn (by_:=by_) (λb o L=>L) (I3.refl s.mv.vis) J (by simp[Value.ownBlock])
  have A:=T02 B
  refine E0b r _ (λj=>if j=ow.length then .slice none 0 0 else oe j) ?_ f
  have p:F7 ⟨n,fr,bx,ow ++ [⟨0,.live e sz by_ false []⟩]⟩ be (λj=>if j=ow.length then .slice none 0 0 else oe j) ⟨n,fr,E01 bx i (.live (E01 cs k (.own ow.length 0)) ty),ow ++ [⟨0,.live e sz by_ false []⟩]⟩ be (λj=>if j=ow.length then .slice none 0 0 else oe j) :=
   ⟨by simp[A06],λ_ _=>rfl,λi s h=>⟨s,h,Nat.le_refl _,λ_=>rfl⟩⟩
  have u:∀ j cs' g,nth (E01 bx i (.live (E01 cs k (.own ow.length 0)) ty)) j=some (.live cs' g)->∃ D,nth bx j=some (.live D g):=λj cs' g d=>by
   grind[c8]
  refine⟨s1.mv,s1.sub,λj cs' g d=>?_,λj b d=>?_,s1.own,s1.frz,λj x S Z T aa F G=>?_,s1.oo,λj cs' g x X V Y R nn xs d M=>?_,s1.dfr,s1.siz,λt=>(s1.fr t).grow p⟩
  ·rw[c8 _ _ _ A]at d
   split at d
   ·rename_i E
    subst E
    cases d
    obtain⟨y,vs,m,z⟩:=s1.box j cs ty B
    refine⟨y,vs,?_,z⟩
    obtain⟨v,ab,Q⟩:=m.nth N
    have O:v = .slice none 0 0:=Q
    have:=(m.grow p).upd (k:=k) (c := .own ow.length 0) (v:=v) (by rw[O];exact⟨0,by simp[stamp,C03],Nat.le_refl _,λ_=>by simp⟩)
    rwa [show vs.set k v=vs from by
     grind[List.getElem?_eq_some_iff,List.set_getElem_self]]at this
   ·obtain⟨y,vs,m,z⟩:=s1.box j cs' g d
    exact⟨y,vs,m.grow p,z⟩
  ·rw[c8 _ _ _ A]at d
   split at d
   ·cases d
   ·exact s1.pub j b d
  ·obtain⟨C,q⟩:=u _ _ _ F
   obtain⟨U,I⟩:=u _ _ _ G
   exact s1.bb j x _ _ _ _ q I
  ·obtain⟨C,q⟩:=u _ _ _ d
   exact s1.bo j _ _ x _ _ _ _ _ _ q M
theorem L0a:∀(l:List Nat) {st:St} {h:Hp} {K:St->Hp->Prop},Sim P h0 w0 be oe H st h a w->n0k l st h K->∃ st' h',K st' h'/\Sim P h0 w0 be oe H st' h' a w
 | [],st,h,K,s,b=>⟨st,h,b,s⟩
 |t::r,st,h,K,s,b=>by
  simp only[n0k]at b
  obtain⟨⟨n,fr,bx,ow⟩,h',c,s1,_⟩:=X03 s (s.rdA (s.fr t)) b
  dsimp only at c
  split at c
  ·refine L0a r (s1.refr (fr:=(t,.val (a.tmps.getD t undef))::fr) λu=>?_) c
   rw[i4]
   by_cases eu:t=u
   ·subst eu
    rw[if_pos rfl]
    rfl
   ·rw[if_neg eu]
    exact s1.fr u
  ·exact c.elim
set_option maxHeartbeats 1000000 in
theorem L0m{X:Code}{O:List Nat}{Q:Ex->St->Hp->Prop}
  (C:∀(Q:Ex->St->Hp->Prop) (st:St) (h:Hp) (a:Act) (w:World) (be:Nat->Nat) (oe:Nat->Value) (H:Hp),Sim P h0 w0 be oe H st h a w->ev P X Q st h->X.wp P (u0f P h0 w0 Q) a w)
  (s:Sim P h0 w0 be oe H st h a w) (f:V0n (λQ=>ev P X Q) O Q st h):(Code.loop X).wp P (u0f P h0 w0 Q) a w:=by
 obtain⟨A,aM,μ,f⟩:=f
 obtain⟨st,oe,f,s⟩:=S0d _ _ _ s f
 obtain⟨st,oe,f,s⟩:=E0b _ _ _ s f
 obtain⟨st,h,f,s⟩:=L0a _ s f
 unfold D0m at f
 obtain⟨D,bq,f,br⟩:=X0c st _ f
 obtain⟨ab,f,aC⟩:=c0o st _ f
 obtain⟨aa,bc,⟨Y,f⟩,aD⟩:=d0o st _ f
 rw[K0h]at f
 obtain⟨E,f,aQ,aA,aB,_⟩:=J0a A st _ _ f (by simp)
 obtain⟨U,a2,s1⟩:=I0a A O st _ f
 have aR:∀ p∈E,p.1∈O:=λp R=>(aQ p R).resolve_right (by simp)
 have bD:∀ t,t ∉ O->D0b A st (O3 U t):=λt bm=>by
  rcases s1 t bm with h|⟨_,h⟩
  ·rw[h];trivial
  ·exact h
 have bf:=λ(vs:List Value) (ad:vs.length=(D++ab).length) (os:List (List (List Value))) (an:os.length=aa.length)=>B0b _ (A0b _ a2 vs ad) os an
 let z:List Value->List BSt->List Own->St:=λD bx ow=>⟨st.n,L0c A.vars D (E++U),bx,ow⟩
 let Inv:Nat->Act->World->Prop:=λm a w=>∃(vs:List Value) (os:List (List (List Value))) (af ay:List Value) (bx:List BSt) (ow:List Own) (h':Hp) (be:Nat->Nat) (oe:Nat->Value) (H:Hp),
  vs.length=(D++ab).length/\os.length=aa.length/\vs=af++ay/\af.length=A.vars.length/\(∀ V,f07 A.boxes ay st.bx V=V bx)/\(∀ V,g07 A.owns os st.ow V=V ow) /\
   atI A aM μ m vs os h'/\Sim P h0 w0 be oe H (z af bx ow) h' a w
 have aN:=h0r s
 have a0:∀ m a w,Inv m a w->X.wp P (Exit.then (λa w=>∃ T,Inv T a w/\T<m) (u0f P h0 w0 Q)) a w:=by
  rintro m a w ⟨vs,os,af,ay,bx,ow,h',be,oe,H,ad,an,rfl,bo,bg,bi,Y,aY⟩
  have S:=P0q (bf _ ad os an) Y
  rw[←bo,H0a,bg,bi]at S
  refine Code.wp_mono (λe ah az R=>?_) (C _ _ _ _ _ _ _ _ aY S)
  cases e with
  |normal =>
   obtain⟨e,g,aO,bB,aL,I,s2⟩:=R
   dsimp only at I
   obtain⟨e,g,I,s2⟩:=L0a _ s2 I
   unfold Q0q at I
   split at I
   ·rename_i a1 bh
    obtain⟨bd,bl,bk,q⟩:=I
    have J:=Nat.eq_of_beq_eq_true a1
    have B:=c09 0 _ _ bl
    have ae:=d09 0 _ _ bk
    simp only[Nat.zero_add]at B ae
    unfold D0m at q
    obtain⟨ac,aF,q,bs⟩:=X0c e _ q
    have a5:∀(is:List Nat) {K:List Value->Prop},a0f is e K->(∀ i∈is,i∈A.boxes)->(∀ i∈is,(nth st.bx i).isSome=true) ->
      ∀ i∈is,∃ cs ty cs',nth st.bx i=some (.live cs ty)/\nth e.bx i=some (.live cs' ty)/\ShC e cs cs':=by
     intro is K _ bI ao i d
     cases hb:nth st.bx i with
     |none=>have:=ao i d;rw[hb]at this;cases this
     |some b =>
      grind
    have ao:∀ i∈A.boxes,(nth st.bx i).isSome=true:=by
     have ai:∀(is:List Nat) (vs:List Value) (bx:List BSt),(f07 is vs bx λ_=>True)->∀ i∈is,(nth bx i).isSome=true:=by
      intro is
      induction is with
      |nil=>intro vs bx _ i d;cases d
      |cons j r C =>
       intro vs bx u i d
       simp only[f07]at u
       split at u
       ·rename_i cs ty J
        rcases List.mem_cons.1 d with rfl|d
        ·rw[J];rfl
        ·have a3:∀(cs:List c6) (vs:List Value) (K:List c6->List Value->Prop),X04 cs vs K->∃ a b,K a b:=by
          intro cs
          induction cs with
          |nil=>intro vs K h;exact⟨_,_,h⟩
          |cons c r C =>
           intro vs K h
           cases c with
           |val v =>
            cases vs with
            |nil=>exact h.elim
            |cons bJ vs=>obtain⟨a,b,h⟩:=C _ _ h;exact⟨_,_,h⟩
           |own i k=>obtain⟨a,b,h⟩:=C _ _ h;exact⟨_,_,h⟩
         obtain⟨a,b,u⟩:=a3 _ _ _ u
         have:=C _ _ u i d
         rw[c8 _ _ _ (T02 J)]at this
         grind
       ·exact u.elim
     exact ai A.boxes ab st.bx (by rw[aC];trivial)
    have bj:∀ i∈A.owns,(nth st.ow i).isSome=true:=by
     have ai:∀(is:List Nat) (vs:List (List (List Value))) (ow:List Own),(g07 is vs ow λ_=>True)->∀ i∈is,(nth ow i).isSome=true:=by
      intro is
      induction is with
      |nil=>intro vs bx _ i d;cases d
      |cons j r C =>
       intro vs ow u i d
       cases vs with
       |nil=>exact u.elim
       |cons x vs =>
        simp only[g07]at u
        split at u
        ·rename_i J
         rcases List.mem_cons.1 d with rfl|d
         ·rw[J];rfl
         ·have:=C _ _ u i d
          rw[c8 _ _ _ (T02 J)]at this
          grind
        ·exact u.elim
     exact ai A.owns aa st.ow (by rw[aD];trivial)
    obtain⟨aK,q,N,aJ,bE,bF,bG,bH⟩:=e0o e A.boxes st.bx (a5 _ q (λ_ h=>h) ao) q
    have ba:∀ i∈A.owns,∃ s F sz by_ nn ag s' L xs,nth st.ow i=some ⟨s,.live F sz by_ nn ag⟩/\nth e.ow i=some ⟨s',.live F sz by_ L xs⟩/\(nn=true->L=true):=λi d=>by
     cases hb:nth st.ow i with
     |none=>have:=bj i d;rw[hb]at this;cases this
     |some b =>
      rcases ae i b hb with⟨_,s,F,sz,by_,nn,ag,s',L,xs,rfl,g,aj,_⟩|⟨l,_⟩
      ·exact⟨s,F,sz,by_,nn,ag,s',L,xs,rfl,g,aj⟩
      ·exact absurd d l
    obtain⟨bC,bu,q,M,aG,bv,bz,bA⟩:=f0o e A.owns st.ow ba q
    split at q
    rotate_left
    ·exact q.elim
    rename_i bb
    rw[←aF,H0a,aJ,aG]at q
    obtain⟨Z,aW,al⟩:=X0s q
    have ap:∀ i,stamp (z ac N M) i=stamp st i:=λi=>by
     have:=bA i
     unfold stamp
     simp only[z]
     cases l:nth M i<;>cases g:nth st.ow i<;>rw[l,g]at this<;>simp at this<;>simp[this]
    refine⟨Z,⟨ac++aK,bC,ac,aK,N,M,g,aO,bB,aL,?_,?_,rfl,aF,aJ,aG,aW,?_⟩,al⟩
    ·rw[←ad];exact h0o _ _ bb
    ·rw[bu]
     have:aa.length=A.owns.length:=bc
     rw[this]
    ·refine g0r (A:=A) s2 J ?_ ?_ ?_ ?_
     ·intro i b d
      by_cases y:i∈A.boxes
      ·obtain⟨aP,ty,cs',ar,au,aw⟩:=bG i y
       have:nth N i=some b:=d
       rw[ar]at this
       cases this
       exact .inl ⟨aP,ty,cs',rfl,au,aw⟩
      ·have:nth N i=some b:=d
       rw[bF i y]at this
       rcases B i b this with⟨l,_⟩|⟨_,g,aj⟩
       ·exact absurd l y
       ·exact .inr ⟨g,aj⟩
     ·intro i o d
      by_cases y:i∈A.owns
      ·obtain⟨aH,F,sz,by_,nn,s',L,xs,ar,au,aw⟩:=bz i y
       have:nth M i=some o:=d
       rw[ar]at this
       cases this
       exact .inl ⟨⟨aH,F,sz,by_,nn,s',L,xs,rfl,au,aw⟩,y⟩
      ·have:nth M i=some o:=d
       rw[bv i y]at this
       rcases ae i o this with⟨l,_⟩|⟨_,g⟩
       ·exact absurd l y
       ·exact .inr ⟨g,y⟩
     ·intro i cs ty d
      have:=bH _ aN i cs ty d
      have a4:(λj k=>∃ s,stamp (z ac N M) j=some s/\k<=s)=(λj k=>∃ s,stamp st j=some s/\k<=s):=by
       funext j k;rw[ap]
      rw[a4]
      exact this
     ·refine t0u (A:=A) (ds:=O) (st:=st) (av1:=λt=>bs (E++U) t) s2 rfl bE ap ?_ aR aA aB bD (w0f E bh) (K0a _ bd)
      intro i k d ak
      show stamp e i=stamp (z ac N M) i
      rw[ap i]
      cases hb:nth st.ow i with
      |none=>unfold stamp at ak;rw[hb]at ak;cases ak
      |some b =>
       rcases ae i b hb with⟨l,aH,F,sz,by_,nn,ag,s',L,xs,rfl,g,_,aU⟩|⟨_,g⟩
       ·have:=aU (d.resolve_left (λh=>h l))
        simp[stamp,hb,g,this]
       ·unfold stamp
        rw[hb,g]
   ·exact I.elim
  |exit i=>exact R
  |ret=>exact R
  |_=>exact R
 have aZ:Sim P h0 w0 be oe H (z D st.bx st.ow) h a w:=by
  refine s.refr (fr:=L0c A.vars D (E++U)) λt=>?_
  have aS:=s.fr t
  have G:=s.rdA aS
  rcases br (E++U) t with⟨l,bp⟩|⟨v,l,g⟩
  ·rw[l]
   rcases v0f E U t with⟨av,ax,Z⟩|⟨ax,Z⟩
   ·rw[Z]
    rcases aA _ ax with rfl|⟨i,k,rfl,_,S⟩|⟨i,o,rfl,_,S⟩
    ·trivial
    ·rw[S]at G;exact G
    ·rw[S]at G;exact G
   ·rw[Z]
    have bn:t ∉ O:=λz=>by
     obtain⟨av,y⟩:=aB t z bp
     exact ax av y
    rcases s1 t bn with h|⟨h,_⟩
    ·rw[h];trivial
    ·rw[h];exact G
  ·rw[l]
   rw[g]at G
   exact G
 obtain⟨bt,Y⟩:=O0q (μ:=μ) Y
 have aV:Inv bt a w:=⟨D++ab,aa,D,ab,st.bx,st.ow,h,be,oe,H,rfl,rfl,rfl,bq,aC,aD,Y,aZ⟩
 classical
 let W:Act->World->Nat:=λa w=>if B:∃ m,Inv m a w then Classical.choose (P0k _ B)else 0
 refine wp_loop (λa w=>∃ m,Inv m a w) W ⟨_,aV⟩ λa w B=>?_
 have aX:W a w=Classical.choose (P0k _ B):=by simp only[W,dif_pos B]
 refine Code.wp_mono (λe ah az aE=>?_) (a0 _ a w (Classical.choose_spec (P0k _ B)).1)
 cases e with
 |normal =>
  obtain⟨T,am,al⟩:=aE
  refine⟨⟨T,am⟩,?_⟩
  have aq:∃ m,Inv m ah az:=⟨T,am⟩
  have:W ah az=Classical.choose (P0k _ aq):=by simp only[W,dif_pos aq]
  rw[aX,this]
  exact Nat.lt_of_le_of_lt ((Classical.choose_spec (P0k _ aq)).2 T am) al
 |_=>exact aE
end
section
variable {P:Program} {h0:Hp} {w0:World} {be:Nat->Nat} {oe:Nat->Value} {H:Hp} {st:St} {h:Hp} {a:Act} {w:World}
theorem x0f(c:Code):∀(Q:Ex->St->Hp->Prop) (st:St) (h:Hp) (a:Act) (w:World) (be:Nat->Nat) (oe:Nat->Value) (H:Hp),Sim P h0 w0 be oe H st h a w->ev P c Q st h->c.wp P (u0f P h0 w0 Q) a w:=by
 induction c with
 |skip=>exact λQ st h a w be oe H s f=>wp_skip ⟨st,h,be,oe,H,f,s⟩
 |region id ops d=>grind[j0j]
 |seq x y n o =>
  intro Q st h a w be oe H s f
  refine wp_seq (Code.wp_mono (λe a w j=>?_) (n _ _ _ _ _ _ _ _ s f))
  cases e with
  |normal=>obtain⟨st,h,be,oe,H,k,s⟩:=j;exact o _ _ _ _ _ _ _ _ s k
  |exit i=>exact j
  |ret=>exact j
  |_=>exact j
 |cond c x y n o =>
  intro Q st h a w be oe H s f
  simp only[ev]at f
  split at f
  ·rename_i b l
   have g:=s.rdO c
   rw[l]at g
   exact wp_cond_split g (λe=>n _ _ _ _ _ _ _ _ s (f.1 e)) (λe=>o _ _ _ _ _ _ _ _ s (f.2 e))
  ·exact f.elim
 |block id c m =>
  intro Q st h a w be oe H s f
  refine wp_block (Code.wp_mono (λe a w j=>?_) (m _ _ _ _ _ _ _ _ s f))
  cases e with
  |normal=>exact j
  |exit i =>
   obtain⟨st,h,be,oe,H,k,s⟩:=j
   simp only[Exit.inBlock]
   dsimp only at k
   cases l:Nat.beq i id with
   |true =>
    rw[l]at k
    rw[if_pos (Nat.eq_of_beq_eq_true l)]
    exact⟨st,h,be,oe,H,k,s⟩
   |false =>
    rw[l]at k
    rw[if_neg (Nat.ne_of_beq_eq_false l)]
    exact⟨st,h,be,oe,H,k,s⟩
  |ret=>exact j
  |_=>exact j
 |loop c m=>exact λQ st h a w be oe H s f=>L0m m s f
 |exit i=>exact λQ st h a w be oe H s f=>wp_exit ⟨st,h,be,oe,H,f,s⟩
 |ret=>exact λQ st h a w be oe H s f=>wp_ret ⟨st,h,be,oe,H,f,s⟩
 |_=>exact λQ st h a w be oe H s f=>f.elim
def i0r(tmps:Array Value):ResultVar->Sem Value
 | .tmp t=>pure (tmps.getD t undef)
 | .cell a t=>do loadVar t (←asAddr (tmps.getD a undef))
theorem a08:∀(l:List ResultVar) (st:St) (h:Hp) {K:List Value->St->Hp->Prop},Sim P h0 w0 be oe H st h a w->T0i P l st h K ->
  ∃ vs st' h',K vs st' h'/\Sim P h0 w0 be oe H st' h' a w/\(l.mapM (i0r a.tmps)).run P w = .ok vs w
 | [],st,h,K,s,c=>⟨[],st,h,c,s,rfl⟩
 | .tmp t::r,st,h,K,s,c=>by
  obtain⟨m,d,k,s1,_⟩:=X03 s (s.rdA (s.fr t)) c
  obtain⟨vs,u,p,n,s2,q⟩:=a08 r m d s1 k
  grind[Sem.run_bind,i0r,Sem.run_pure,Result.andThen_ok]
 | .cell t ty::r,st,h,K,s,c=>by
  simp only[T0i]at c
  split at c
  ·rename_i i off q
   split at c
   ·rename_i cs I C
    have g:=s.rdA (s.fr t)
    rw[q]at g
    obtain⟨d,vs,p,z⟩:=s.box i cs I C
    obtain⟨av,v,E,F,G⟩:=R.load_row (H:=H) (b:=be i) (o:=0) (be:=be) c p (λj v A=>by simp[Hp.cell,z,A])
    obtain⟨m,d,k,s1,_⟩:=X03 s F E
    obtain⟨J,u,y,n,s2,D⟩:=a08 r m d s1 k
    refine⟨_,u,y,n,s2,?_⟩
    have B:(loadVar ty ⟨be i,off,none⟩).run P w = .ok v w:=by
     obtain⟨x,f,e⟩:=R.wpR_sound _ _ w s.mv.vis (G (λx _=>x=v) rfl)
     rw[Nat.zero_add]at f
     rw[f,e]
    have f:a.tmps.getD t undef=ptr (be i) off:=g.2
    simp only[List.mapM_cons,Sem.run_bind,i0r,f,ptr,asAddr,Sem.run_pure,Result.andThen_ok,B,D]
   ·exact c.elim
  ·exact c.elim
theorem M0h:∀(args:List Value) (i s:Nat),O3 (m0b i args) s = .dead∨O3 (m0b i args) s = .val (if i<=s then args.getD (s-i) undef else undef)
 | [],i,s => .inl rfl
 |v::r,i,s=>by
  simp only[m0b]
  rw[i4]
  by_cases e:i=s
  ·subst e;right;simp
  ·rw[if_neg e]
   rcases M0h r (i+1) s with h'|h'
   all_goals grind
theorem I3.less{h h' H:Hp}{w d:World}(m:I3 h w H d)(c:∀ b o,h' b=some o->H b=some o):I3 h w h' d:=by
 refine⟨m.os,m.tape,m.output,m.size,m.keep,λb o a=>m.vis b o (c b o a),λb a=>?_,m.fz,m.dn⟩
 cases hc:h' b with
 |none=>exact absurd hc a
 |some o=>exact m.fresh b (by rw[c b o hc];simp)
theorem M0m{f:FuncId}{fn:Func}{args:List Value}{m:Value->Hp->Prop}(hf:P.funcs[f]?=some fn)(k:l0u P fn args h m):Tr P f args.toArray h m:=by
 refine⟨λw B=>?_⟩
 unfold l0u at k
 split at k
 ·rename_i c y
  split at k
  ·rename_i p
   have p:=Nat.le_of_ble_eq_true p
   have C:Sim P h w (λ_=>0) (λ_=>undef) h ⟨fn.ntmps,m0b 0 args,[],[]⟩ h { tmps:=args.toArray++Array.replicate (fn.ntmps-args.toArray.size) undef,defers:=[] } w:=by
    refine⟨I3.refl B,λ_ _ h=>h,(λi cs ty a=>nomatch a),(λi b a=>nomatch a),(λi s e sz by_ nn xs a=>nomatch a),(λi s v a=>nomatch a),(λi j cs ty cs' J a=>nomatch a),
     (λi j s e sz by_ nn xs s' E I D F K g a=>nomatch a),(λi cs ty j s e sz by_ nn xs a=>nomatch a),rfl,by simp;omega,λs=>?_⟩
    rcases M0h args 0 s with h'|h'
    ·grind[C3,O3,m0b]
    show C3 _ _ _ (O3 (m0b 0 args) s) _
    rw[h']
    simp only[Nat.zero_le,if_true,Nat.sub_zero]
    show _=_
    simp only[Array.getD_eq_getD_getElem?]
    grind
   refine calls_of_wp hf y (Code.wp_mono (λe l o n=>?_) (x0f c _ _ _ _ _ _ _ _ C k))
   have fin:∀ {st h' be oe H},T0i P fn.results.toList st h' (λvs _ h=>m (l0b vs) h)->Sim P h w be oe H st h' l o->l.defers = []/\∃ v,(results fn l.tmps).run P o = .ok v o/\∃ q h',Ending.returned v = .returned q/\m q h'/\I3 h w h' o:=by
    intro st h' be oe H d s
    obtain⟨vs,G,u,t,s2,z⟩:=a08 _ _ _ s d
    refine⟨s.dfr,l0b vs,?_,l0b vs,u,rfl,t,s2.mv.less s2.sub⟩
    have A:results fn l.tmps=(fn.results.mapM (i0r l.tmps) >>= λvs=>pure (if h:vs.size=1 then vs[0]else .tuple vs)):=by
     unfold results
     congr 1
    rw[A,Array.mapM_eq_mapM_toList]
    simp only[Sem.run_bind,Sem.run_map,z,Result.andThen_ok,Sem.run_pure]
    cases vs with
    |nil=>rfl
    |cons x r=>cases r<;>rfl
   cases e with
   |normal=>obtain⟨st,h',be,oe,H,d,s⟩:=n;exact fin d s
   |ret=>obtain⟨st,h',be,oe,H,d,s⟩:=n;exact fin d s
   |exit i=>obtain⟨st,h',be,oe,H,d,s⟩:=n;exact d.elim
   |_=>exact n.elim
  ·exact k.elim
 ·exact k.elim
end
open Go.RowKit Go.ChangeShapes Go.WideShapes Go.ChangeAt
theorem Tr.val{P:Program}{f:FuncId}{args:Array Value}{h:Hp}{x:Value}{a:Value->Hp->Prop}(t:Tr P f args h λv h'=>v=x/\h'=h)(d:a x h):Tr P f args h a :=
 t.mono λ_ _ ⟨b,c⟩=>by rw[b,c];exact d
theorem Tr.calls{P:Program}{f:FuncId}{args:Array Value}{c:World}{x:Value}(t:Tr P f args (λb=>c.heap[b]?) λv h'=>v=x/\∀ b o,c.heap[b]?=some o->h' b=some o):
  Calls P f args c λe d=>e = .returned x/\Below c.heap.size c d/\∀ a:Addr,a.block<c.heap.size->d.frozen? a=c.frozen? a:=by
 refine(t.run c (λb o h=>h)).mono ?_
 rintro e d ⟨v,h',rfl,⟨rfl,g⟩,m⟩
 refine⟨rfl,⟨m.os,m.tape,m.output,m.size,λk i=>?_⟩,m.fz⟩
 have:c.heap[k]?=some c.heap[k]:=by simp[i]
 rw[this]
 exact m.vis _ _ (g k _ this)
theorem w64{x:Int}(a : -9223372036854775808<=x)(b:x<=9223372036854775807):IntKind.i64.wrap x=x:=by
 simp[IntKind.wrap,IntKind.signed,IntKind.bits]
 omega
theorem R0p{n:Nat}(h:n<=maxLen):n<=9223372036854775807:=by
 grind[maxLen]
def J0(x:Int):Prop := -9223372036854775808<=x/\x<=9223372036854775807
theorem z0v{x:Int}(h:(Lit.int .i64 x).wf=true):J0 x:=by
 simpa [Lit.wf,IntKind.min,IntKind.max,IntKind.signed,IntKind.bits,J0] using h
section
variable {H:Type} {enc:TypeId×Value->H} {P:Program}
theorem r0a(g:laidOutB P=true){b e:World}(f:Below b.heap.size b e){l:Nat->Bool}:∀ {c:List TypeId} {vs:List Value} {ds:List (DataW H)} {ps:List MemPlace},
  (∀ t∈c,P.readableRec t=true/\t<P.types.size)->DataW.TrodAll enc P b 0 (λ_=>true) true c vs ds ps->(∀ p∈ps,p.block<b.heap.size)->(∀ p∈ps,l p.block=true) ->
  DataW.TrodAll enc P e 0 l true c vs ds ps
 | [],vs,ds,ps,_,h,_,_=>by
  obtain⟨rfl,rfl,rfl⟩:=trodAll_nil h
  exact rfl
 |t::c,vs,ds,ps,k,h,i,j=>by
  obtain⟨v,y,d,w,p,q,rfl,rfl,rfl,m,n⟩:=trodAll_cons h
  obtain⟨s,u⟩:=k t mS
  refine⟨p,q,WideElems.Trod_stays g s u m (λx a=>f.same (i x (List.mem_append_left _ a))) (λx a=>j x (List.mem_append_left _ a)),?_,rfl⟩
  exact r0a g f (λt o=>k t (mC _ o)) n (λx a=>i x (List.mem_append_right _ a)) (λx a=>j x (List.mem_append_right _ a))
theorem h0e{f:Func}{s:ChangeSpec}{m fresh y x:Bool}{h d:World}{args:Array Value}{v:Value}{ds i:List (DataW H)}{e pa pv:List MemPlace}
  (k:DataW.Whole enc P f.params.toList s.vars m h args.toList ds i e)
  (u:∀(b:Nat) (g:Nat->Bool) (z:Bool),DataW.TrodAll enc P d b g z f.resultTypes.toList (v.resultList f.resultTypes.size) (s.fn H (ds++i)).results [])
  (n:∀ g:Nat->Bool,(∀ p∈e,g p.block=true)->DataW.TrodAll enc P d 0 g true f.params.toList args.toList (s.fn H (ds++i)).args pa)
  (w:∀ g:Nat->Bool,(∀ p∈e,g p.block=true)->DataW.TrodVars enc P d g s.vars (s.fn H (ds++i)).vars pv)
  (o:e=pa++pv) (B:h.keptBut d (·∈e)) (A:∀ a:Addr,a.block<h.heap.size->d.frozen? a=h.frozen? a)
  (C:∀(j:Nat) (t:TypeId) (r:Value),f.resultTypes[j]?=some t->(v.resultList f.resultTypes.size)[j]?=some r->Value.okWide P d .any 0 t r) :
  s.post enc P f m fresh y x h args v d:=by
 have l:=λp c=>k.lt (p:=p) c
 refine⟨ds,i,e,[],pa,pv,k,u _ _ _,n _ (λp c=>by simpa using l p c),w _ (λp c=>by simpa using l p c),World.keptBut_mono (λp c=>⟨c,.inr (by rwa [o,List.mem_append]at c)⟩) B,λ_=>?_⟩
 obtain⟨_,_,_,_,_,D,E⟩:=k
 have q:([]++pa)++pv=e:=by simp[o]
 refine⟨C,_,_,([]++pa)++pv,⟨[]++pa,pv,trodAll_append (n _ (λ_ _=>rfl)) (u _ _ _),w _ (λ_ _=>rfl),rfl,?_,?_⟩,λp c _=>by rwa [q]at c⟩
 ·intro b off c
  rw[q]at c
  rw[A _ (l _ c)]
  exact D b off c
 grind
theorem j0r{f:Func}{s:ChangeSpec}{e fresh w n:Bool}{b c:World}{args:Array Value}{ds g:List (DataW H)}{o:List MemPlace}{m:TypeId}
  (C:laidOutB P=true) (E:∀ t∈f.params.toList,P.readableRec t=true/\t<P.types.size) (l:s.vars = []) (i:s.fn H (ds++g) = { results:=[.lit (.bool true)],args:=ds })
  (j:f.resultTypes = #[m]) (k:P.underlying m=some .bool) (d:DataW.Whole enc P f.params.toList s.vars e b args.toList ds g o)
  (u:Below b.heap.size b c) (x:∀ a:Addr,a.block<b.heap.size->c.frozen? a=b.frozen? a):s.post enc P f e fresh w n b args (.bool true) c:=by
 have D:=λp y=>d.lt (p:=p) y
 have v:=d
 obtain⟨p,q,B,h,rfl,_,_⟩:=d
 rw[l]at h
 obtain⟨rfl,rfl⟩:=trodVars_none h
 refine h0e (pa:=p) (pv:=[]) v (λ_ _ _=>?_) (λA z=>?_) (λA z=>?_) rfl (u.frame _) x (ok_one j rfl (okWide_bool_mk k _))
 ·rw[i,j]
  exact trodAll_mk1 (shut_bool k _)
 ·grind[r0a,List.mem_append_left]
 ·rw[i,l]
  exact rfl
end
end Go.H
