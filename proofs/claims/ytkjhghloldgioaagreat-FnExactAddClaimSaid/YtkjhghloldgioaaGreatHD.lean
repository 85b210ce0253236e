/- The library of the walks, part HD: plain laws over the model. -/
import Derived.Test.YtkjhghloldgioaaGreatHC
import Derived.ProofKit
namespace Go.H
set_option linter.unusedVariables false
set_option linter.unusedSimpArgs false
theorem L9{i:Nat}{o:Oper}(h:h01 i o=true):∃ e∈o.after,Region.binds .any e=true/\e.on=i:=by
 unfold h01 at h
 rw[List.any_eq_true]at h
 simp_all
theorem w09{o:Oper}{t:Nat}:∀ {l:List Oper} {i:Nat},D03 o t l i=true->∀ k x,l[k]?=some x->x.dst=some t->h01 (i+k) o=true
 | [],i,h,k,x,a,b=>by simp at a
 |y::r,i,h,0,x,a,b=>by
  simp_all[D03,Nat.beq_refl,Bool.and_eq_true]
 |y::r,i,h,k+1,x,a,b=>by
  simp only[List.getElem?_cons_succ]at a
  have c:D03 o t r (i+1)=true:=by
   simp only[D03]at h
   grind
  have:=w09 c k x a b
  rwa [show i+1+k=i+(k+1) from by omega]at this
theorem E04{o:Oper}{ops:List Oper}:∀ {l:List Operand},S0b o ops l=true->∀ t,Operand.tmp t∈l->D03 o t ops 0=true
 | [],h,t,a=>by cases a
 | .tmp u::r,h,t,a=>by
  simp only[S0b,Bool.and_eq_true]at h
  rcases List.mem_cons.1 a with e|a
  ·cases e;exact h.1
  ·exact E04 h.2 t a
 | .const v::r,h,t,a=>by
  rcases List.mem_cons.1 a with e|a
  ·cases e
  ·exact E04 (l:=r) h t a
 | .global v::r,h,t,a=>by
  rcases List.mem_cons.1 a with e|a
  ·cases e
  ·exact E04 (l:=r) h t a
 | .func v::r,h,t,a=>by
  rcases List.mem_cons.1 a with e|a
  ·cases e
  ·exact E04 (l:=r) h t a
theorem A08{ops:List Oper}:∀ {l:List Oper},c0o ops l=true->∀ o∈l,∀ t,Operand.tmp t∈o.op.operands->∀ k x,ops[k]?=some x->x.dst=some t->∃ e∈o.after,Region.binds .any e=true/\e.on=k
 | [],h,o,a=>by cases a
 |y::r,h,o,a=>by
  simp only[c0o,Bool.and_eq_true]at h
  rcases List.mem_cons.1 a with rfl|a
  ·intro t d k x c b
   have:=w09 (E04 h.1 t (by simpa using d)) k x c b
   simp_all[Nat.zero_add,L9]
  ·exact A08 h.2 o a
theorem u07{d:Nat}:∀ {l:List Oper},m09 d l=true->∀ o∈l,o.dst≠some d
 | [],h,o,a=>by cases a
 |y::r,h,o,a=>by
  simp only[m09]at h
  split at h
  ·rename_i c b
   simp only[Bool.and_eq_true,Bool.not_eq_true']at h
   rcases List.mem_cons.1 a with rfl|a
   ·grind[Nat.ne_of_beq_eq_false]
   ·exact u07 h.2 o a
  ·rename_i b
   rcases List.mem_cons.1 a with rfl|a
   ·grind
   ·exact u07 h o a
theorem w06{n:Nat}:∀ {l:List Oper},N0k n l=true->(∀ o∈l,∀ d,o.dst=some d->d<n) /\
  ∀(i j:Nat) (a b:Oper) (d:Nat),l[i]?=some a->l[j]?=some b->a.dst=some d->b.dst=some d->i=j
 | [],h=>⟨by simp,λi j a b d f=>by simp at f⟩
 |y::r,h=>by
  simp only[N0k]at h
  split at h
  ·rename_i d p
   simp only[Bool.and_eq_true]at h
   obtain⟨⟨v,k⟩,m⟩:=h
   obtain⟨g,s⟩:=w06 m
   have x:=u07 k
   refine⟨λo c e q=>?_,λi j a b e f w t u=>?_⟩
   ·rcases List.mem_cons.1 c with rfl|c
    ·simp_all
    ·exact g o c e q
   grind
  ·rename_i p
   obtain⟨g,s⟩:=w06 h
   grind
theorem d05:∀ {l:List Oper} {j:Nat},o0e l j=true->∀ k o,l[k]?=some o->∀ e∈o.after,Region.binds .any e=true->e.on<j+k
 | [],j,h,k,o,a=>by simp at a
 |y::r,j,h,k,o,a=>by
  simp only[o0e,Bool.and_eq_true,List.all_eq_true]at h
  cases k with
  |zero =>
   simp at a
   subst a
   intro e b c
   have:=h.1 e (by simpa using b)
   simp_all
  |succ k =>
   simp at a
   intro e b c
   have:=d05 h.2 k o a e b c
   omega
def I4:List Oper->List (Nat×AV)->List (Nat×AV)
 | [],fr=>fr
 |o::r,fr=>match o.dst with
  |some d=>(d,.dead)::I4 r fr
  |none=>I4 r fr
theorem x02{t:Nat}:∀ {l:List Oper} {fr:List (Nat×AV)},(∀ o∈l,o.dst≠some t)->J3 (I4 l fr) t=J3 fr t
 | [],fr,h=>rfl
 |o::r,fr,h=>by
  have c:=x02 (fr:=fr) λb a=>h b (mC _ a)
  simp only[I4]
  split
  all_goals simp_all[j4,if_neg,List.mem_cons_self]
theorem F03{t:Nat}:∀ {l:List Oper} {fr:List (Nat×AV)} {o:Oper},o∈l->o.dst=some t->J3 (I4 l fr) t = .dead
 | [],fr,o,h,_=>by cases h
 |y::r,fr,o,h,a=>by
  simp only[I4]
  split
  ·rename_i d b
   rw[j4]
   split
   ·rfl
   ·rename_i c
    rcases List.mem_cons.1 h with rfl|h
    ·grind
    ·exact F03 h a
  ·rename_i b
   rcases List.mem_cons.1 h with rfl|h
   ·rw[a]at b;cases b
   ·exact F03 h a
theorem V01(d:Nat)(f:K7)(r:List (Nat×K7))(s:Nat):R3 ((d,f)::r) s=if d=s then some f else R3 r s:=by
 simp only[R3]
 cases h:Nat.beq d s with
 |true=>rw[if_pos (Nat.eq_of_beq_eq_true h)]
 |false=>rw[if_neg (Nat.ne_of_beq_eq_false h)]
section
variable {P:Program} {h0:Hp} {w0:World} {be:Nat->Nat} {oe:Nat->Value} {H:Hp} {h:Hp} {a:Act} {w:World}
theorem Sim.refr{st:St}(b:Sim P h0 w0 be oe H st h a w){fr:List (Nat×AV)}(hf:∀ t,O2 st be oe (J3 fr t) (a.tmps.getD t undef)):Sim P h0 w0 be oe H { st with fr:=fr } h a w:=by
 have c:A8 st be oe { st with fr:=fr } be oe:=⟨Nat.le_refl _,λ_ _=>rfl,λi b h=>⟨b,h,Nat.le_refl _,λ_=>rfl⟩⟩
 refine⟨b.mv,b.sub,λi cs ty g=>?_,b.pub,b.own,b.frz,b.bb,b.oo,b.bo,b.dfr,b.siz,λt=>(hf t).grow c⟩
 obtain⟨d,vs,e,f⟩:=b.box i cs ty g
 exact⟨d,vs,e.grow c,f⟩
def v07(st:St)(be:Nat->Nat)(oe:Nat->Value)(h:Hp):K7->Value->Prop
 | .pu av,v=>O2 st be oe av v
 | .ef F,v=>F v h
theorem i04{L:List (Nat×K7)}{st:St}{h:Hp}{val:Nat->Value}{K:List (Nat×AV)->Prop}:∀ {l:List Operand} {acc:List (Nat×AV)},
  (∀ t,O2 st be oe (J3 acc t) (val t))->(∀ t,Operand.tmp t∈l->(∀ f,R3 L t=some f->v07 st be oe h f (val t))/\(R3 L t=none->O2 st be oe (J3 st.fr t) (val t))) ->
  F0f L st h l acc K->∃ fr,K fr/\∀ t,O2 st be oe (J3 fr t) (val t)
 | [],acc,c,b,a=>⟨acc,a,c⟩
 | .tmp t::r,acc,c,b,a=>by
  have i:∀ u,Operand.tmp u∈r->_:=λu d=>b u (mC _ d)
  have j:=b t mS
  have put:∀ av,O2 st be oe av (val t)->∀ u,O2 st be oe (J3 ((t,av)::acc) u) (val u):=λav g u=>by
   grind[j4]
  simp only[F0f]at a
  split at a
  ·rename_i av e
   exact i04 (put av (j.1 _ e)) i a
  ·rename_i F e
   exact i04 (put (.val (val t)) rfl) i (a _ (j.1 _ e))
  ·rename_i e
   exact i04 (put _ (j.2 e)) i a
 | .const v::r,acc,c,b,a=>i04 (l:=r) c (λu d=>b u (mC _ d)) a
 | .global v::r,acc,c,b,a=>i04 (l:=r) c (λu d=>b u (mC _ d)) a
 | .func v::r,acc,c,b,a=>i04 (l:=r) c (λu d=>b u (mC _ d)) a
def G0u(P:Program)(st:St)(h:Hp)(L:List (Nat×K7))(o:Oper):Prop :=
 o.guard=none/\∃ f,(∀ d,o.dst=some d->R3 L d=some f)/\match f with
  | .pu av=>Z0m P L o st=some av
  | .ef F=>(∀ v b c,Sub b c->F v b->F v c)/\∀ a,Sub h a->F0f L st a o.op.operands.toList [] λfr=>k00 P o { st with fr:=fr } a (p0u { st with fr:=fr } a F)
theorem r0d:∀ {L:List (Nat×K7)} {t:Nat} {f:K7},R3 L t=some f->(t,f)∈L
 | [],t,f,h=>by cases h
 |(d,a)::r,t,f,h=>by
  rw[V01]at h
  split at h
  ·grind
  ·exact mC _ (r0d h)
theorem G0s{st:St}{L:List (Nat×K7)}{o:Oper}{av:AV}{val:Nat->Value}(a:Z0m P L o st=some av)
  (l:∀ t,Operand.tmp t∈o.op.operands->(∀ f,R3 L t=some f->v07 st be oe h f (val t))/\(R3 L t=none->O2 st be oe (J3 st.fr t) (val t))) :
  ∃ fr,(∀ t,O2 st be oe (J3 fr t) (val t))/\k00 P o { st with fr:=fr } h λi st' j=>i=av/\st' = { st with fr:=fr }/\j=h:=by
 have one:∀ x:Operand,(∀ t,x = .tmp t->Operand.tmp t∈o.op.operands)->rdS L st x ≠ .dead->∃ fr,(∀ t,O2 st be oe (J3 fr t) (val t))/\rdO { st with fr:=fr } x=rdS L st x:=by
  intro x b c
  cases x with
  |tmp t =>
   obtain⟨k,m⟩:=l t (b t rfl)
   have mk:∀ A,O2 st be oe A (val t)->∀ u,O2 st be oe (J3 [(t,A)] u) (val u):=λA g u=>by
    rw[j4]
    split
    ·grind
    ·trivial
   have rd:∀ A,rdO { st with fr:=[(t,A)] } (.tmp t)=rdA st A:=λA=>by
    show Go.H.rdA _ (J3 [(t,A)] t)=_
    rw[j4,if_pos rfl]
    obtain⟨n,fr,bx,ow⟩:=st
    cases A<;>rfl
   cases hL:R3 L t with
   |none=>grind[rdS]
   |some f =>
    cases f with
    |pu A=>exact⟨_,mk _ (k _ hL),by grind[rdS]⟩
    |ef F=>grind[absurd,rdS]
  |const v=>exact⟨[],λt=>trivial,rfl⟩
  |global v=>exact⟨[],λt=>trivial,rfl⟩
  |func v=>exact⟨[],λt=>trivial,rfl⟩
 unfold Z0m at a
 split at a
 ·rename_i x b
  have c:rdS L st x ≠ .dead:=λe=>by rw[e]at a;cases a
  obtain⟨fr,g,e⟩:=one x (λt d=>by grind[Op.operands]) c
  refine⟨fr,g,?_⟩
  simp only[k00,b,e]
  revert a
  cases rdS L st x<;>intro a<;>first|(cases a;done)|(cases a;simp;done)
 ·rename_i x b
  have c:rdS L st x ≠ .dead:=λe=>by rw[e]at a;cases a
  obtain⟨fr,g,e⟩:=one x (λt d=>by grind[Op.operands]) c
  refine⟨fr,g,?_⟩
  simp only[k00,b,e]
  revert a
  cases rdS L st x<;>intro a<;>first|(cases a;done)|(cases a;simp;done)
 ·rename_i t x b
  have c:rdS L st x ≠ .dead:=λe=>by rw[e]at a;cases a
  obtain⟨fr,g,e⟩:=one x (λt d=>by grind[Op.operands]) c
  refine⟨fr,g,?_⟩
  simp only[k00,b,e]
  split at a
  all_goals grind[E0f,j06,q0j,j7]
 ·cases a
def O0t(P:Program)(h0:Hp)(w0:World)(ops:Array Oper)(st:St)(h:Hp)(L:List (Nat×K7))(listed:Array Bool)(a:Act)(w:World):Prop :=
 ∃ be oe H b,Sub h b/\Sim P h0 w0 be oe H { st with fr:=I4 ops.toList st.fr } b a w /\
  ∀ j o d f,ops[j]?=some o->o.dst=some d->listed.getD j false=true->R3 L d=some f->v07 st be oe b f (a.tmps.getD d undef)
theorem O2.fr{st:St}{fr:List (Nat×AV)}{av:AV}{v:Value}(g:O2 st be oe av v):O2 { st with fr:=fr } be oe av v:=by
 obtain⟨n,a,bx,ow⟩:=st
 show O2 ⟨n,fr,bx,ow⟩ be oe av v
 exact O2.grow (st:=⟨n,a,bx,ow⟩) (st':=⟨n,fr,bx,ow⟩) (be:=be) (oe:=oe) (be':=be) (oe':=oe) (av:=av) (x:=v) ⟨Nat.le_refl _,λ_ _=>rfl,λi b h=>⟨b,h,Nat.le_refl _,λ_=>rfl⟩⟩ g
theorem O03{ops:Array Oper}{st:St}{L:List (Nat×K7)}{listed:Array Bool}{j:Nat}{o:Oper}{Q:Exit->Act->World->Prop}
  (aE:∀(i j:Nat) (c ag:Oper) (d:Nat),ops.toList[i]?=some c->ops.toList[j]?=some ag->c.dst=some d->ag.dst=some d->i=j)
  (Z:∀ o∈ops.toList,∀ d,o.dst=some d->d<st.n)
  (V:∀ t f,(t,f)∈L->∃(i:Nat) (c:Oper),ops.toList[i]?=some c/\c.dst=some t)
  (al:∀(i:Nat) (c:Oper) (d:Nat),ops.toList[i]?=some c->c.dst=some d->∃ f,R3 L d=some f)
  (aa:ops[j]?=some o) (W:∀(j:Nat) (o:Oper),ops.toList[j]?=some o->G0u P st h L o) (an:∀ t,Operand.tmp t∈o.op.operands->∀(i:Nat) (c:Oper),ops.toList[i]?=some c->c.dst=some t->listed.getD i false=true)
  (M:O0t P h0 w0 ops st h L listed a w):o.wp P a w (O0t P h0 w0 ops st h L (listed.setIfInBounds j true)) Q:=by
 obtain⟨be,oe,H,y,ae,D,T⟩:=M
 have ab:ops.toList[j]?=some o:=by simpa using aa
 have Y:o∈ops.toList:=List.mem_of_getElem? ab
 obtain⟨aG,f,hf,ac⟩:=W j o ab
 have az:∀ d F,R3 L d=some (.ef F)->∀ v l k,Sub l k->F v l->F v k:=λd F J=>by
  obtain⟨i,c,l,k⟩:=V d _ (r0d J)
  obtain⟨_,aD,ao,ay⟩:=W i c l
  rw[ao d k]at J
  cases J
  exact ay.1
 have ai:∀ t,Operand.tmp t∈o.op.operands->(∀ f,R3 L t=some f->v07 st be oe y f (a.tmps.getD t undef))/\(R3 L t=none->O2 st be oe (J3 st.fr t) (a.tmps.getD t undef)):=λt N=>by
  refine⟨λf hf=>?_,λaw=>?_⟩
  ·obtain⟨i,c,l,k⟩:=V t f (r0d hf)
   exact T i c t f (by simpa using l) k (an t N i c l k) hf
  ·have g:=D.fr t
   have ar:J3 (I4 ops.toList st.fr) t=J3 st.fr t:=x02 λaC ax C=>by
    obtain⟨i,M,e⟩:=List.getElem_of_mem ax
    obtain⟨f,hf⟩:=al i aC t (by rw[List.getElem?_eq_getElem M,e]) C
    rw[aw]at hf;cases hf
   rw[←ar]
   exact O2.fr (st := { st with fr:=I4 ops.toList st.fr }) (fr:=st.fr) g
 have fin:∀ {fr:List (Nat×AV)} {z:Act} {s:World} {p:Hp} {be':Nat->Nat} {oe':Nat->Value} {q:Hp} {v:Value},Sub y p->z=a.put o.dst v->Sim P h0 w0 be' oe' q { st with fr:=fr } p a s ->
   A8 { st with fr:=fr } be oe { st with fr:=fr } be' oe'->v07 st be' oe' p f v->O0t P h0 w0 ops st h L (listed.setIfInBounds j true) z s:=by
  intro fr z s p be' oe' q v af B E m O
  subst B
  have aj:A8 { st with fr:=I4 ops.toList st.fr } be oe { st with fr:=I4 ops.toList st.fr } be' oe':=⟨m.bl,m.be,m.sm⟩
  have ak:A8 st be oe st be' oe':=⟨m.bl,m.be,m.sm⟩
  have s1:Sim P h0 w0 be' oe' q { st with fr:=I4 ops.toList st.fr } p a s :=
   E.refr (fr:=I4 ops.toList st.fr) λt=>O2.fr (st := { st with fr:=I4 ops.toList st.fr }) ((D.fr t).grow aj)
  have s2:Sim P h0 w0 be' oe' q { st with fr:=I4 ops.toList st.fr } p (a.put o.dst v) s:=by
   cases C:o.dst with
   |none=>exact s1
   |some d =>
    have ad:=s1.put (d:=d) (av := .dead) (v:=v) (Z o Y d C) trivial
    refine ad.refr (fr:=I4 ops.toList st.fr) λt=>?_
    have g:=ad.fr t
    grind[j4,F03]
  refine⟨be',oe',q,p,λb x am=>af b x (ae b x am),s2,λi c d g l k U G=>?_⟩
  by_cases hij:j=i
  ·subst hij
   rw[aa]at l;cases l
   rw[hf d k]at G;cases G
   have aq:d<a.tmps.size:=by rw[D.siz];exact Z o Y d k
   have:(a.put o.dst v).tmps.getD d undef=v:=by
    rw[k]
    simp[Act.put,aq]
   rw[this]
   exact O
  ·have ap:listed.getD i false=true:=by rw[getD_set_ne false hij]at U;exact U
   have au:∀ A,o.dst=some A->A≠d:=λA aF e=>by
    grind
   have:(a.put o.dst v).tmps.getD d undef=a.tmps.getD d undef:=by
    cases C:o.dst with
    |none=>rfl
    |some A=>simp[Act.put,Array.getElem?_setIfInBounds_ne (au A C)]
   rw[this]
   have ah:=T i c d g l k ap G
   cases g with
   |pu av=>exact O2.grow ak ah
   |ef F=>exact az d F G _ _ _ af ah
 cases f with
 |pu av =>
  obtain⟨fr,g,K⟩:=G0s (h:=y) ac ai
  have E:Sim P h0 w0 be oe H { st with fr:=fr } y a w:=D.refr (fr:=fr) λt=>O2.fr (g t)
  refine Oper.wp_mono (λz s R=>?_) (i01 E K)
  obtain⟨S,st',p,v,be',oe',q,⟨rfl,rfl,rfl⟩,B,s2,I,m⟩:=R
  exact fin (λ_ _ h=>h) B s2 m (O2.fr (st := { st with fr:=fr }) (fr:=st.fr) I)
 |ef F =>
  obtain⟨fr,K,g⟩:=i04 (acc:=[]) (be:=be) (oe:=oe) (val:=λt=>a.tmps.getD t undef) (λt=>trivial) (λt N=>ai t (by simpa using N)) (ac.2 y ae)
  have E:Sim P h0 w0 be oe H { st with fr:=fr } y a w:=D.refr (fr:=fr) λt=>O2.fr (g t)
  refine Oper.wp_mono (λz s R=>?_) (i01 E K)
  obtain⟨S,st',p,v,be',oe',q,X,B,s2,I,m⟩:=R
  cases S with
  |val u =>
   obtain⟨rfl,aA,aB⟩:=X
   have O:v=u:=I
   subst O
   exact fin aA B s2 m aB
  |_=>exact X.elim
theorem s0d{ops:Array Oper}(b:∀(k:Nat) (o:Oper),ops.toList[k]?=some o->∀ e∈o.after,Region.binds .any e=true->e.on<k){listed:Array Bool}(h:listed.size=ops.size)(g:Region.ready .any ops listed = []):
  ∀ j,j<ops.size->listed.getD j false=true:=by
 intro j
 induction j using Nat.strongRecOn with
 |_ j i =>
  intro a
  cases hl:listed.getD j false with
  |true=>rfl
  |false =>
   have f:j<listed.size:=by omega
   have:j∈Region.ready .any ops listed:=by
    refine mem_ready.2 ⟨?_,ops[j],by simp[a],λe d c=>?_⟩
    all_goals grind
   grind
theorem count_set{listed:Array Bool}{j:Nat}(a:listed.getD j true=false):(listed.setIfInBounds j true).toList.count true=listed.toList.count true+1:=by
 have b:j<listed.size:=by
  grind
 simp_all[Array.toList_setIfInBounds,List.count_set]
end
end Go.H
namespace Go.H
set_option linter.unusedVariables false
set_option linter.unusedSimpArgs false
theorem H0s{P:Program}{t:TypeId}{cs:List P6}{off:Nat}{av:AV}(h:E0f P t cs off=some av):j06 P t cs off λa=>a=av:=by
 grind[E0f,j06,q0j,j7]
section
variable {P:Program} {h0:Hp} {w0:World} {be:Nat->Nat} {oe:Nat->Value} {H:Hp} {h:Hp} {a:Act} {w:World}
theorem U07{L:List (Nat×K7)}{st stX:St}{x:Operand}
  (b:∀ t,x = .tmp t->(∀ av,R3 L t=some (.pu av)->O2 stX be oe av (a.tmps.getD t undef))/\(R3 L t=none->O2 stX be oe (J3 st.fr t) (a.tmps.getD t undef))):O2 stX be oe (t07 L st x) (a.eval x):=by
 cases x with
 |tmp t =>
  obtain⟨c,d⟩:=b t rfl
  show O2 stX be oe (t07 L st (.tmp t)) (a.tmps.getD t undef)
  simp only[t07]
  split
  ·grind
  ·trivial
  grind
 |const v=>exact rfl
 |global g=>trivial
 |func f=>trivial
theorem B08{L:List (Nat×K7)}{st stX:St}:∀(l:List Operand) {vs:List (Nat×Value)},(∀ t,Operand.tmp t∈l->O2 stX be oe (t07 L st (.tmp t)) (a.tmps.getD t undef))->p0e L st l=some vs ->
  (∀ p∈vs,p.2=a.eval (.tmp p.1))/\(∀ x∈l,(∃ t v,x = .tmp t/\(t,v)∈vs)∨(∀ ws,rho ws x=a.eval x))
 | [],vs,G,h=>by cases h;simp
 | .tmp t::r,vs,G,h=>by
  simp only[p0e]at h
  split at h
  ·rename_i v k
   split at h
   ·rename_i m j
    cases h
    obtain⟨c,e⟩:=B08 r (λu d=>G u (mC _ d)) j
    have g:=G t mS
    rw[k]at g
    have g:a.tmps.getD t undef=v:=g
    refine⟨λp i=>?_,λx b=>?_⟩
    ·rcases List.mem_cons.1 i with rfl|i
     ·exact g.symm
     ·exact c p i
    grind
   ·cases h
  ·cases h
 | .global _::r,vs,G,h=>by cases h
 | .const v::r,vs,G,h=>by
  obtain⟨c,e⟩:=B08 r (vs:=vs) (λu d=>G u (mC _ d)) h
  exact⟨c,λx b=>by
   rcases List.mem_cons.1 b with rfl|b
   ·exact .inr λ_=>rfl
   ·exact e x b⟩
 | .func f::r,vs,G,h=>by
  obtain⟨c,e⟩:=B08 r (vs:=vs) (λu d=>G u (mC _ d)) h
  exact⟨c,λx b=>by
   rcases List.mem_cons.1 b with rfl|b
   ·exact .inr λ_=>rfl
   ·exact e x b⟩
theorem d0l{L:List (Nat×K7)}{st stX:St}{o:Oper}{av:AV}(b:a0n P L o st=some av)
  (j:∀ t,Operand.tmp t∈o.op.operands->(∀ av,R3 L t=some (.pu av)->O2 stX be oe av (a.tmps.getD t undef))/\(R3 L t=none->O2 stX be oe (J3 st.fr t) (a.tmps.getD t undef))) :
  ∃ v,(execOp a.eval o).run P w = .ok (.value v) w/\O2 stX be oe av v:=by
 unfold a0n at b
 split at b
 ·rename_i vs f g
  obtain⟨d,e⟩:=B08 (a:=a) (stX:=stX) (be:=be) (oe:=oe) _ (λt h=>U07 (x := .tmp t) λu i=>by grind) g
  split at b
  ·cases b
  ·split at b
   ·rename_i v c
    cases b
    rw[N0f,o0d f d e]at c
    exact⟨v,k0o _ c w,rfl⟩
   ·cases b
 ·cases b
theorem b07{L b:List (Nat×K7)}{st:St}:∀ {l:List Operand},(∀ t,Operand.tmp t∈l->R3 L t=R3 b t)->p0e L st l=p0e b st l
 | [],h=>rfl
 | .tmp t::r,h=>by simp only[p0e,t07,h t mS,b07 λu a=>h u (mC _ a)]
 | .global _::r,h=>rfl
 | .const _::r,h=>b07 (l:=r) λu a=>h u (mC _ a)
 | .func _::r,h=>b07 (l:=r) λu a=>h u (mC _ a)
theorem W0f{L:List (Nat×K7)}{st:St}{o:Oper}{t:TypeId}{x:Operand}{i off:Nat}(b:o.op = .load t x)(a:t07 L st x = .box i off):∀ {l:List Oper},o∈l->i∈T01 L st l
 | [],h=>nomatch h
 |y::r,h=>by
  rcases List.mem_cons.1 h with rfl|h
  ·grind[T01,List.mem_cons_self]
  ·have:=W0f b a h
   grind[T01,mC]
theorem i0i{bx a:List BSt}{i:Nat}:∀ {l:List Nat},Q0a bx l=Q0a a l->i∈l->nth bx i=nth a i
 | [],_,h=>nomatch h
 |y::r,e,h=>by
  simp only[Q0a,List.cons.injEq]at e
  rcases List.mem_cons.1 h with rfl|h
  ·exact e.1
  ·exact i0i e.2 h
theorem x0p{L:List (Nat×K7)}{st stX:St}{o:Oper}{av:AV}(m:Sim P h0 w0 be oe H stX h a w)(E:∀ t x i off,o.op = .load t x->t07 L st x = .box i off->nth stX.bx i=nth st.bx i)(c:P0a P L o st=some av)
  (f:∀ t,Operand.tmp t∈o.op.operands->(∀ av,R3 L t=some (.pu av)->O2 stX be oe av (a.tmps.getD t undef))/\(R3 L t=none->O2 stX be oe (J3 st.fr t) (a.tmps.getD t undef))) :
  ∃ v,(execOp a.eval o).run P w = .ok (.value v) w/\O2 stX be oe av v:=by
 unfold P0a at c
 split at c
 ·rename_i x d
  split at c
  ·cases c
   simp_all[U07,Op.operands,execOp]
  ·cases c
 ·rename_i x d
  split at c
  ·cases c
   simp_all[U07,Op.operands,execOp]
  ·cases c
 ·rename_i t x d
  have g:=U07 (L:=L) (st:=st) (stX:=stX) (be:=be) (oe:=oe) (a:=a) (x:=x) λt e=>f t (by rw[d];simp[Op.operands,e])
  split at c
  ·rename_i i off l
   rw[l]at g
   split at c
   ·rename_i cs ty F
    split at c
    ·rename_i B s
     split at c
     ·cases c
      obtain⟨D,vs,p,q⟩:=m.box i cs ty (by grind)
      obtain⟨C,v,y,z,A⟩:=R.load_row (H:=H) (b:=be i) (o:=0) (be:=be) (H0s s) p (λj v u=>by simp[Hp.cell,q,u])
      subst y
      exact⟨v,R.run_of (R.exec_load d g.2 (by simpa using A)) w (S0q m),z⟩
     ·cases c
    ·cases c
   ·cases c
  ·cases c
 ·rename_i t x k d
  have g:=U07 (L:=L) (st:=st) (stX:=stX) (be:=be) (oe:=oe) (a:=a) (x:=x) λt e=>f t (by rw[d];simp[Op.operands,e])
  split at c
  ·rename_i i off n l e
   rw[l]at g
   cases c
   exact⟨ptr (be i) (off+n),R.run_of (R.exec_fieldAddr d e g.2) w (S0q m),g.1,rfl⟩
  ·cases c
 ·split at c
  ·exact d0l c f
  ·cases c
 ·split at c
  ·split at c
   ·exact d0l c f
   ·cases c
  ·cases c
 ·cases c
theorem h03{L:List (Nat×K7)}{st stX:St}{val:Nat->Value}{K:List (Nat×AV)->Prop}:∀ {l:List Operand} {acc:List (Nat×AV)},
  (∀ t,O2 stX be oe (J3 acc t) (val t))->(∀ t,Operand.tmp t∈l->(∀ av,R3 L t=some (.pu av)->O2 stX be oe av (val t))/\(R3 L t=none->O2 stX be oe (J3 st.fr t) (val t))) ->
  V06 L st.fr l acc K->∃ fr,K fr/\∀ t,O2 stX be oe (J3 fr t) (val t)
 | [],acc,c,b,a=>⟨acc,a,c⟩
 | .tmp t::r,acc,c,b,a=>by
  have f:∀ u,Operand.tmp u∈r->_:=λu d=>b u (mC _ d)
  have h:=b t mS
  have put:∀ av,O2 stX be oe av (val t)->∀ u,O2 stX be oe (J3 ((t,av)::acc) u) (val u):=λav g u=>by
   grind[j4]
  simp only[V06]at a
  split at a
  ·rename_i av e
   exact h03 (put av (h.1 _ e)) f a
  ·rename_i F e
   exact h03 (put .dead trivial) f a
  ·rename_i e
   exact h03 (put _ (h.2 e)) f a
 | .const v::r,acc,c,b,a=>h03 (l:=r) c (λu d=>b u (mC _ d)) a
 | .global v::r,acc,c,b,a=>h03 (l:=r) c (λu d=>b u (mC _ d)) a
 | .func v::r,acc,c,b,a=>h03 (l:=r) c (λu d=>b u (mC _ d)) a
theorem t0d:∀(L:List (Nat×K7)) (fr:List (Nat×AV)) (t:Nat),J3 (b0n L fr) t=match R3 L t with
  |some (.pu av)=>av
  |some (.ef _) => .dead
  |none=>J3 fr t
 | [],fr,t=>rfl
 |(d,.pu av)::r,fr,t=>by
  simp only[b0n]
  rw[j4,V01]
  split
  ·rfl
  ·exact t0d r fr t
 |(d,.ef F)::r,fr,t=>by
  simp only[b0n]
  rw[j4,V01]
  split
  ·rfl
  ·exact t0d r fr t
theorem e0l{L a:List (Nat×K7)}{o:Oper}{st:St}(h:∀ t,Operand.tmp t∈o.op.operands->R3 L t=R3 a t):P0a P L o st=P0a P a o st:=by
 have d:∀ x:Operand,(∀ t,x = .tmp t->Operand.tmp t∈o.op.operands)->t07 L st x=t07 a st x:=λx c=>by
  cases x with
  |tmp t=>grind[t07]
  |_=>rfl
 have e:a0n P L o st=a0n P a o st:=by
  unfold a0n
  rw[b07 (l:=o.op.operands.toList) λt b=>h t (by simpa using b)]
 unfold P0a
 split
 ·rename_i x c;rw[d x λt b=>by grind[Op.operands]]
 ·rename_i x c;rw[d x λt b=>by grind[Op.operands]]
 ·rename_i t x c;rw[d x λt b=>by grind[Op.operands]]
 all_goals grind[Op.operands,List.mem_cons_self,Call.operands]
theorem i03{L c:List (Nat×K7)}{f:List (Nat×AV)}{K:List (Nat×AV)->Prop}:∀ {l:List Operand} {acc:List (Nat×AV)},(∀ t,Operand.tmp t∈l->R3 L t=R3 c t)->V06 L f l acc K->V06 c f l acc K
 | [],acc,a,h=>h
 | .tmp t::r,acc,a,h=>by
  have e:=a t mS
  have d:∀ u,Operand.tmp u∈r->R3 L u=R3 c u:=λu b=>a u (mC _ b)
  simp only[V06]at h ⊢
  rw[←e]
  split at h
  ·exact i03 d h
  ·exact i03 d h
  ·exact i03 d h
 | .const _::r,acc,a,h=>i03 (l:=r) (λu b=>a u (mC _ b)) h
 | .func _::r,acc,a,h=>i03 (l:=r) (λu b=>a u (mC _ b)) h
 | .global _::r,acc,a,h=>i03 (l:=r) (λu b=>a u (mC _ b)) h
structure c07 (P:Program) (st:St) (h:Hp) (ops:List Oper) (k:Nat) (L:List (Nat×K7)) (X E:List (Nat×Oper)):Prop where
 key:∀ t f,R3 L t=some f->∃(i:Nat) (oi:Oper),i<k/\ops[i]?=some oi/\oi.dst=some t
 cov:∀(i:Nat) (oi:Oper) (d:Nat),i<k->ops[i]?=some oi->oi.dst=some d->∃ f,R3 L d=some f
 each:∀(j:Nat) (o:Oper),j<k->ops[j]?=some o->o.guard=none/\((j,o)∈E∨((∀ p∈E,p.1≠j)/\∃ av,(P0a P L o st=some av∨((j,o)∈X/\O0k P st h L o av))/\∀ d,o.dst=some d->R3 L d=some (.pu av)))
 eff:∀ p∈E,p.1<k/\ops[p.1]?=some p.2/\∀ d,p.2.dst=some d->∃ F,R3 L d=some (.ef F)
 nd:(E.map λp=>p.1).Nodup
 xx:∀ p∈X,p.1<k/\ops[p.1]?=some p.2
theorem c07.add{st:St}{h:Hp}{ops:List Oper}{k:Nat}{L:List (Nat×K7)}{X w E A:List (Nat×Oper)}{o:Oper}{f:K7}
  (Y:∀(i j:Nat) (q b:Oper) (d:Nat),ops[i]?=some q->ops[j]?=some b->q.dst=some d->b.dst=some d->i=j)
  (Z:∀(j:Nat) (o:Oper) (t i:Nat) (q:Oper),ops[j]?=some o->Operand.tmp t∈o.op.operands->ops[i]?=some q->q.dst=some t->i<j)
  (l:c07 P st h ops k L X E) (K:ops[k]?=some o) (B:o.guard=none) (O:w=X∨w=X ++ [(k,o)])
  (I:(A=E/\∃ av,f = .pu av/\(P0a P L o st=some av∨((k,o)∈w/\O0k P st h L o av)))∨(A=E ++ [(k,o)]/\∃ F,f = .ef F)):c07 P st h ops (k+1) (l09 o.dst f L) w A:=by
 have no:∀ d,o.dst=some d->R3 L d=none:=λd c=>by
  cases h:R3 L d with
  |none=>rfl
  |some g =>
   obtain⟨i,q,u,s,H⟩:=l.key d g h
   grind
 have up:∀ t g,R3 L t=some g->R3 (l09 o.dst f L) t=some g:=λt g m=>by
  cases c:o.dst with
  |none=>exact m
  |some d =>
   show R3 ((d,f)::L) t=some g
   grind[V01]
 have V:∀ d,o.dst=some d->R3 (l09 o.dst f L) d=some f:=λd c=>by
  rw[c];show R3 ((d,f)::L) d=some f;rw[V01,if_pos rfl]
 have dn:∀ t g,R3 (l09 o.dst f L) t=some g->R3 L t=some g∨(o.dst=some t/\g=f):=λt g m=>by
  cases c:o.dst with
  |none=>rw[c]at m;exact .inl m
  |some d =>
   rw[c]at m
   change R3 ((d,f)::L) t=some g at m
   grind[V01]
 have W:∀(j:Nat) (b:Oper),j<=k->ops[j]?=some b->P0a P L b st=P0a P (l09 o.dst f L) b st:=λj b J v=>e0l λt m=>by
  cases c:o.dst with
  |none=>rfl
  |some d =>
   show R3 L t=R3 ((d,f)::L) t
   rw[V01]
   grind
 have G:∀(j:Nat) (b:Oper) (av:AV),j<=k->ops[j]?=some b->O0k P st h L b av->O0k P st h (l09 o.dst f L) b av:=λj b av J v C=>by
  obtain⟨n,fr,bx,ow⟩:=st
  intro M Q
  refine i03 (λt m=>?_) (C M Q)
  cases c:o.dst with
  |none=>rfl
  |some d =>
   show R3 L t=R3 ((d,f)::L) t
   rw[V01]
   split
   all_goals grind
 have S:∀ p,p∈X->p∈w:=λp a=>by
  grind
 refine⟨λt g m=>?_,λi q d aa u s=>?_,λj b J v=>?_,λp a=>?_,?_,λp a=>?_⟩
 rotate_left 5
 ·rcases O with rfl|rfl
  ·obtain⟨u,s⟩:=l.xx p a
   grind
  ·rcases List.mem_append.1 a with a|a
   ·obtain⟨u,s⟩:=l.xx p a
    grind
   grind
 rotate_left 4
 ·rcases I with⟨rfl,_⟩|⟨rfl,_⟩
  ·exact l.nd
  ·rw[List.map_append,List.nodup_append]
   refine⟨l.nd,by simp,λx C y R e=>?_⟩
   obtain⟨p,a,rfl⟩:=List.mem_map.1 C
   have:=(l.eff p a).1
   simp at R
   omega
 ·rcases dn t g m with h|⟨h,_⟩
  ·obtain⟨i,q,u,s⟩:=l.key t g h
   exact⟨i,q,by omega,s⟩
  grind
 ·rcases Nat.lt_or_ge i k with h|h
  ·obtain⟨g,B⟩:=l.cov i q d h u s
   exact⟨g,up d g B⟩
  grind
 ·rcases Nat.lt_or_ge j k with h|h
  ·obtain⟨T,D⟩:=l.each j b h v
   refine⟨T,?_⟩
   rcases D with D|⟨D,av,z,U⟩
   ·grind
   ·right
    refine⟨λp a=>?_,av,z.imp (λz=>by grind) (λz=>⟨S _ z.1,G j b av (by omega) v z.2⟩),λd c=>up d _ (U d c)⟩
    grind
  ·have:j=k:=by omega
   subst this
   rw[K]at v;cases v
   refine⟨B,?_⟩
   rcases I with⟨rfl,av,rfl,a⟩|⟨rfl,F,rfl⟩
   ·right
    exact⟨λp a=>by have:=(l.eff p a).1;omega,av,a.imp (λa=>by grind) (λa=>⟨a.1,G _ o av (Nat.le_refl _) K a.2⟩),V⟩
   grind
 ·have ab:p∈E->p.1<k+1/\ops[p.1]?=some p.2/\∀ d,p.2.dst=some d->∃ F,R3 (l09 o.dst f L) d=some (.ef F):=λa=>by
   obtain⟨u,s,H⟩:=l.eff p a
   exact⟨by omega,s,λd c=>by obtain⟨F,N⟩:=H d c;exact⟨F,up d _ N⟩⟩
  grind
theorem d07{ops:List Oper}{st:St}{h:Hp}{K:List (Nat×K7)->List (Nat×Oper)->List (Nat×Oper)->Prop}
  (e:∀(i j:Nat) (b z:Oper) (d:Nat),ops[i]?=some b->ops[j]?=some z->b.dst=some d->z.dst=some d->i=j)
  (g:∀(j:Nat) (o:Oper) (t i:Nat) (b:Oper),ops[j]?=some o->Operand.tmp t∈o.op.operands->ops[i]?=some b->b.dst=some t->i<j) :
  ∀(l:List Oper) (k:Nat) (L:List (Nat×K7)) (X E:List (Nat×Oper)),(∀ j,l[j]?=ops[k+j]?)->c07 P st h ops k L X E->b05 P st h l k L X E K->∃ w x v,K w x v/\c07 P st h ops ops.length w x v
 | [],k,L,X,E,m,c,a=>by
  refine⟨L,X,E,a,?_⟩
  have G:ops.length<=k:=by
   have:=m 0
   simpa using this
  have lt:∀(i:Nat) (b:Oper),ops[i]?=some b->i<ops.length:=λi b h=>(List.getElem?_eq_some_iff.1 h).1
  exact⟨λt f h=>by obtain⟨i,b,_,y,A⟩:=c.key t f h;grind,λi b d D=>c.cov i b d (by omega),λj o F=>c.each j o (by omega),
   λp u=>by obtain⟨_,y,A⟩:=c.eff p u;grind,c.nd,λp u=>by obtain⟨_,y⟩:=c.xx p u;grind⟩
 |o::l,k,L,X,E,m,c,a=>by
  have s:ops[k]?=some o:=by simpa using (m 0).symm
  have q:∀ j,l[j]?=ops[k+1+j]?:=λj=>by have:=m (j+1);grind
  simp only[b05]at a
  split at a
  ·exact a.elim
  ·rename_i n
   split at a
   ·rename_i av B
    rw[r04]at a
    exact d07 e g l (k+1) _ _ _ q (c.add e g s n (.inl rfl) (.inl ⟨rfl,av,rfl,.inl B⟩)) a
   ·rcases a with⟨av,C,a⟩|a
    ·rw[r04]at a
     exact d07 e g l (k+1) _ _ _ q (c.add e g s n (.inr rfl) (.inl ⟨rfl,av,rfl,.inr ⟨by simp,C⟩⟩)) a
    ·exact d07 e g l (k+1) _ _ _ q (c.add e g s n (.inl rfl) (.inr ⟨rfl,_,rfl⟩)) a
theorem X0f:∀(r:List (Nat×Oper)) (q:Nat×Oper),n06 r=true->q∈r.tail->∃ p∈r,h01 p.1 q.2=true
 | [],q,_,h=>by cases h
 | [x],q,_,h=>by cases h
 |(i,o)::(j,b)::r,q,a,h=>by
  simp only[n06,Bool.and_eq_true]at a
  rcases List.mem_cons.1 h with rfl|h
  ·simp_all
  ·obtain⟨p,d,c⟩:=X0f ((j,b)::r) q a.2 h
   grind
theorem F04:∀(d r:List (Nat×Oper)),n06 (d++r)=true->n06 r=true
 | [],r,h=>h
 | [x],[],h=>rfl
 | [(i,o)],(j,a)::r,h=>by simp_all[List.singleton_append,n06,Bool.and_eq_true]
 |(i,o)::(j,a)::d,r,h=>by
  simp only[List.cons_append,n06,Bool.and_eq_true]at h
  exact F04 ((j,a)::d) r h.2
theorem w07{i:Nat}{o:Oper}:∀ {N:Nat},o06 N i o=true->∀ k,k<N->k≠i->∃ e∈o.after,Region.binds .any e=true/\e.on=k
 |0,_,k,a,_=>by omega
 |N+1,h,k,a,b=>by
  simp only[o06,Bool.and_eq_true,Bool.or_eq_true]at h
  by_cases e:k=N
  ·grind[absurd,Nat.eq_of_beq_eq_true,L9]
  ·exact w07 h.2 k (by omega) b
def Z0q(P:Program)(h0:Hp)(w0:World)(ops:Array Oper)(n:Nat)(fr:List (Nat×AV))(f:List BSt)(g:List Own)(i:Hp)(c:Nat)(F:List (Nat×Oper))(b:List (Nat×K7))(EV:List (Nat×Oper)->List (Nat×Oper)->List (Nat×K7)->St->Hp->Prop)(listed:Array Bool)(a:Act)(w:World):Prop :=
 ∃(dn r:List (Nat×Oper)) (L:List (Nat×K7)) (bx:List BSt) (ow:List Own) (h:Hp) (be:Nat->Nat) (oe:Nat->Value) (H:Hp),F=dn++r/\(dn.length<=c->ow=g/\Sub i h/\(bx=f∨∀ k,k<ops.size->listed.getD k false=true))/\(∀(j:Nat) (o:Oper),ops[j]?=some o->listed.getD j false=true->∀ e∈o.after,Region.binds .any e=true->listed.getD e.on false=true)/\(∀ p∈r,listed.getD p.1 true=false)/\(∀ p∈dn,listed.getD p.1 false=true) /\
  (Q0a bx (T01 b ⟨n,fr,f,g⟩ ops.toList)=Q0a f (T01 b ⟨n,fr,f,g⟩ ops.toList)∨∀ k,k<ops.size->listed.getD k false=true)/\Sim P h0 w0 be oe H ⟨n,I4 ops.toList fr,bx,ow⟩ h a w/\EV dn r L ⟨n,fr,bx,ow⟩ h /\
  (∀ t,(R3 b t=none->R3 L t=none)/\∀ av,R3 b t=some (.pu av)->R3 L t=some (.pu av)) /\
  ∀(j:Nat) (o:Oper) (d:Nat),ops[j]?=some o->o.dst=some d->listed.getD j false=true->∃ av,R3 L d=some (.pu av)/\O2 ⟨n,fr,bx,ow⟩ be oe av (a.tmps.getD d undef)
abbrev y0p(P:Program)(h0:Hp)(w0:World)(ops:Array Oper)(n:Nat)(fr:List (Nat×AV))(d:List BSt)(e:List Own)(f:Hp)(c:Nat)(E:List (Nat×Oper))(b:List (Nat×K7))(K:St->Hp->Prop)(listed:Array Bool)(a:Act)(w:World):Prop :=
 Z0q P h0 w0 ops n fr d e f c E b (λdn r L st h=>evC (T01 b ⟨n,fr,d,e⟩ ops.toList) ops.size P (c-dn.length) r L st h K) listed a w
theorem P0t{ops:Array Oper}{Q:Exit->Act->World->Prop}{Inv:Array Bool->Act->World->Prop}(i:∀(k:Nat) (o:Oper),ops.toList[k]?=some o->∀ e∈o.after,Region.binds .any e=true->e.on<k)
  (n:∀ listed a w j o,listed.size=ops.size->listed.getD j true=false->ops[j]?=some o->(∀ e∈o.after,Region.binds .any e=true->listed.getD e.on false=true)->Inv listed a w->o.guard=none/\o.wp P a w (Inv (listed.setIfInBounds j true)) Q)
  (g:∀ listed a w,(∀ j,j<ops.size->listed.getD j false=true)->Inv listed a w->Q .normal a w) :
  ∀(fuel:Nat) (listed:Array Bool) (a:Act) (w:World),listed.size=ops.size->listed.toList.count true+fuel=ops.size->Inv listed a w->wpAny P .any ops Q fuel listed a w
 |0,listed,a,w,f,t,d=>by
  have s:∀ j,j<ops.size->listed.getD j false=true:=λj l=>by
   have c:∀ b∈listed.toList,true=b:=List.count_eq_length.1 (by grind)
   have x:j<listed.size:=by omega
   have:=c listed[j] (by simp)
   simp[x,←this]
  refine⟨?_,g listed a w s d⟩
  cases m:Region.ready .any ops listed with
  |nil=>rfl
  |cons j r =>
   grind[Region.ready,List.mem_cons_self,mem_ready,Array.getElem?_eq_some_iff]
 |fuel+1,listed,a,w,f,t,d=>by
  refine⟨λm=>g listed a w (s0d i f m) d,λj l=>?_⟩
  obtain⟨c,o,h,q⟩:=mem_ready.1 l
  unfold wpOp
  simp only[h]
  obtain⟨u,z⟩:=n listed a w j o f c h q d
  have y:Region.wanted o (yielded ops a.tmps)=true:=by unfold Region.wanted;rw[u]
  rw[if_pos y]
  exact .inl (Oper.wp_mono (λp A v=>P0t i n g fuel _ p A (by simpa using f) (by rw[count_set c];omega) v) z)
theorem k0c{ops:Array Oper}{listed:Array Bool}{X:List (Nat×Oper)}
  (f:∀(k:Nat) (o:Oper),ops[k]?=some o->listed.getD k false=true->∀ e∈o.after,Region.binds .any e=true->listed.getD e.on false=true)
  (p:∀ y∈X,ops[y.1]?=some y.2):∀(n i a:Nat) (q:Oper),ops[a]?=some q->listed.getD a false=true->w0j X n i q=true->listed.getD i false=true
 |0,i,a,q,h,g,j=>by
  obtain⟨e,b,c,d⟩:=L9 j
  have:=f a q h g e b c
  rwa [d]at this
 |n+1,i,a,q,h,g,j=>by
  simp only[w0j,Bool.or_eq_true,List.any_eq_true,Bool.and_eq_true]at j
  rcases j with l|⟨y,t,l,s⟩
  ·obtain⟨e,b,c,d⟩:=L9 l
   have:=f a q h g e b c
   rwa [d]at this
  ·obtain⟨e,b,c,d⟩:=L9 l
   have m:=f a q h g e b c
   rw[d]at m
   exact k0c f p n i y.1 y.2 (p y t) m s
theorem u0d{E:List (Nat×Oper)}{listed:Array Bool}{j:Nat}{o:Oper}(h:∀ e∈o.after,Region.binds .any e=true->listed.getD e.on false=true)
  (d:∀ dn r,E=dn++r->n06 r=true) {dn r:List (Nat×Oper)} (c:E=dn++r) (k:∀ p∈r,listed.getD p.1 true=false) (b:(j,o)∈r):∃ a,r=(j,o)::a:=by
 obtain⟨q,a,rfl⟩:∃ q a,r=q::a:=by
  cases r with
  |nil=>cases b
  |cons q a=>exact⟨q,a,rfl⟩
 rcases List.mem_cons.1 b with e|f
 ·grind
 ·exfalso
  obtain⟨p,i,g⟩:=X0f (q::a) (j,o) (d dn _ c) f
  grind[L9,Nat.lt_or_ge,Array.getElem?_eq_none]
theorem n0o{ops:Array Oper}{n:Nat}{fr:List (Nat×AV)}{Z:List BSt}{aj:List Own}{aX:Hp}{c:Nat}{X E F:List (Nat×Oper)}{ad:List (Nat×K7)}{EV:List (Nat×Oper)->List (Nat×Oper)->List (Nat×K7)->St->Hp->Prop}{Q:Exit->Act->World->Prop}{listed:Array Bool}{j:Nat}{o:Oper}
  (bb:∀(i j:Nat) (l br:Oper) (d:Nat),ops.toList[i]?=some l->ops.toList[j]?=some br->l.dst=some d->br.dst=some d->i=j)
  (bi:∀ o∈ops.toList,∀ d,o.dst=some d->d<n) (am:c07 P ⟨n,fr,Z,aj⟩ aX ops.toList ops.toList.length ad X E) (aQ:∀ x∈F,x∈E) (bz:(j,o)∈E->(j,o)∈F) (bA:(F.map λp=>p.1).Nodup)
  (bT:∀ dn r,F=dn++r->(∀ p∈dn,listed.getD p.1 false=true)->(∀ p∈r,listed.getD p.1 true=false)->(j,o)∈r->∃ K,r=(j,o)::K)
  (aV:∀ dn K L bx ow h,F=dn++(j,o)::K->(∀ p∈dn,listed.getD p.1 false=true)->EV dn ((j,o)::K) L ⟨n,fr,bx,ow⟩ h->V06 L fr o.op.operands.toList [] λU=>k00 P o ⟨n,U,bx,ow⟩ h λav st' aa=>match st' with
   |⟨_,_,B,D⟩=>x0j (c-dn.length) ow D h aa/\f0o (c-dn.length) (J0f ops.size j o K) (T01 ad ⟨n,fr,Z,aj⟩ ops.toList) bx B/\e03 av λav=>P00 B λB=>P00 D λD=>EV (dn ++ [(j,o)]) K (l09 o.dst (.pu av) L) ⟨n,fr,B,D⟩ aa)
  (aU:G0f X (X++E) (F.drop c)=true)
  (au:listed.getD j true=false) (ax:ops[j]?=some o) (bZ:listed.size=ops.size)
  (bg:∀ t,Operand.tmp t∈o.op.operands->∀(i:Nat) (l:Oper),ops.toList[i]?=some l->l.dst=some t->listed.getD i false=true)
  (bh:∀ e∈o.after,Region.binds .any e=true->listed.getD e.on false=true)
  (aW:Z0q P h0 w0 ops n fr Z aj aX c F ad EV listed a w):o.guard=none/\o.wp P a w (Z0q P h0 w0 ops n fr Z aj aX c F ad EV (listed.setIfInBounds j true)) Q:=by
 obtain⟨dn,r,L,bx,ow,aa,be,oe,H,N,aq,bf,aJ,ae,b2,Y,af,O,an⟩:=aW
 have ay:ops.toList[j]?=some o:=by simpa using ax
 have aH:o∈ops.toList:=List.mem_of_getElem? ay
 have aG:j<ops.toList.length:=(List.getElem?_eq_some_iff.1 ay).1
 have aF:j<listed.size:=by simpa [bZ] using aG
 have a0 : ¬ ∀ k,k<ops.size->listed.getD k false=true:=λe=>by
  grind
 have aR:Q0a bx (T01 ad ⟨n,fr,Z,aj⟩ ops.toList)=Q0a Z (T01 ad ⟨n,fr,Z,aj⟩ ops.toList):=by
  grind
 obtain⟨bI,bN⟩:=am.each j o aG ay
 refine⟨bI,?_⟩
 have bt:∀ t,R3 L t≠none->∃(i:Nat) (l:Oper),ops.toList[i]?=some l/\l.dst=some t:=λt z=>by
  cases h0':R3 ad t with
  |none=>exact absurd ((O t).1 h0') z
  |some f=>obtain⟨i,l,_,s,R⟩:=am.key t f h0';exact⟨i,l,s,R⟩
 have frame:∀ t,(∀ aA∈ops.toList,aA.dst≠some t)->O2 ⟨n,fr,bx,ow⟩ be oe (J3 fr t) (a.tmps.getD t undef):=λt z=>by
  have g:=Y.fr t
  change O2 _ be oe (J3 (I4 ops.toList fr) t) _ at g
  rw[x02 z]at g
  exact O2.fr (st:=⟨n,I4 ops.toList fr,bx,ow⟩) (fr:=fr) g
 have aB:∀ t,Operand.tmp t∈o.op.operands->(∀ av,R3 L t=some (.pu av)->O2 ⟨n,fr,bx,ow⟩ be oe av (a.tmps.getD t undef))/\(R3 L t=none->O2 ⟨n,fr,bx,ow⟩ be oe (J3 fr t) (a.tmps.getD t undef)):=λt z=>by
  refine⟨λav bd=>?_,λbS=>frame t λaA bU I=>?_⟩
  ·obtain⟨i,l,m,s⟩:=bt t (by rw[bd];simp)
   obtain⟨M,C,G⟩:=an i l t (by simpa using m) s (bg t z i l m s)
   rw[bd]at C;cases C
   exact G
  ·obtain⟨i,aW,e⟩:=List.getElem_of_mem bU
   have m:ops.toList[i]?=some aA:=by rw[List.getElem?_eq_getElem aW,e]
   obtain⟨M,C,_⟩:=an i aA t (by simpa using m) I (bg t z i aA m I)
   rw[bS]at C;cases C
 have ac:∀ i,i≠j->∀ d,(listed.setIfInBounds j true).getD i d=listed.getD i d:=λi A d=>getD_set_ne d (Ne.symm A)
 have a1:∀ {B:List BSt} {D:List Own} {V:Hp} {be':Nat->Nat} {oe':Nat->Value} {T:Hp} {v:Value} {ak:World},Sim P h0 w0 be' oe' T ⟨n,I4 ops.toList fr,B,D⟩ V a ak->Sim P h0 w0 be' oe' T ⟨n,I4 ops.toList fr,B,D⟩ V (a.put o.dst v) ak:=by
  intro B D V be' oe' T v ak s1
  cases I:o.dst with
  |none=>exact s1
  |some d =>
   have u:=s1.put (d:=d) (av := .dead) (v:=v) (bi o aH d I) trivial
   refine u.refr (fr:=I4 ops.toList fr) λt=>?_
   have g:=u.fr t
   change O2 _ _ _ (J3 ((d,.dead)::I4 ops.toList fr) t) _ at g
   rw[j4]at g
   split at g
   ·rename_i e
    subst e
    rw[F03 aH I]
    trivial
   ·exact g
 have a2:∀(v:Value) (i:Nat) (l:Oper) (d:Nat),ops[i]?=some l->l.dst=some d->i≠j->(a.put o.dst v).tmps.getD d undef=a.tmps.getD d undef:=λv i l d m s A=>by
  cases I:o.dst with
  |none=>rfl
  |some a4 =>
   have ag:a4≠d:=λe=>by subst e;exact A (bb i j l o a4 (by simpa using m) ay s I)
   simp[Act.put,Array.getElem?_setIfInBounds_ne ag]
 have a3:∀(v:Value) (d:Nat),o.dst=some d->(a.put o.dst v).tmps.getD d undef=v:=λv d I=>by
  have aG:d<a.tmps.size:=by rw[Y.siz];exact bi o aH d I
  rw[I]
  simp[Act.put,aG]
 have aS:∀(i:Nat) (l:Oper),ops[i]?=some l->(listed.setIfInBounds j true).getD i false=true->∀ e∈l.after,Region.binds .any e=true->(listed.setIfInBounds j true).getD e.on false=true:=λi l m s e aD aE=>by
  by_cases A:i=j
  ·subst A
   rw[ax]at m;cases m
   exact getD_set_true (bh e aD aE)
  ·rw[ac i A]at s
   exact getD_set_true (bf i l m s e aD aE)
 rcases bN with ar|⟨bk,av,bV|⟨bK,bO⟩,bc⟩
 ·
  have bM:(j,o)∈r:=by
   have ar:=bz ar
   rw[N]at ar
   rcases List.mem_append.1 ar with ah|ah
   ·have m:=ae _ ah
    simp[aF]at m au
    rw[m]at au;cases au
   ·exact ah
  obtain⟨K,rfl⟩:=bT dn r N ae aJ bM
  have af:=aV dn K L bx ow aa N ae af
  obtain⟨U,af,aL⟩:=h03 (acc:=[]) (st:=⟨n,fr,bx,ow⟩) (stX:=⟨n,fr,bx,ow⟩) (be:=be) (oe:=oe) (val:=λt=>a.tmps.getD t undef) (λt=>trivial) (λt z=>aB t (by simpa using z)) af
  have aY:Sim P h0 w0 be oe H ⟨n,U,bx,ow⟩ aa a w:=Y.refr (fr:=U) λt=>O2.fr (st:=⟨n,fr,bx,ow⟩) (fr:=I4 ops.toList fr) (aL t)
  refine Oper.wp_mono (λbu ak ah=>?_) (i01 aY af)
  obtain⟨M,⟨W,ba,B,D⟩,V,v,be',oe',T,al,rfl,s2,aM,J⟩:=ah
  obtain⟨aT,S,al⟩:=al
  rw[r04,C03,C03]at al
  have bR:W=n:=by
   have C:a.tmps.size=W:=s2.siz
   have G:a.tmps.size=n:=Y.siz
   omega
  subst bR
  have aN:A8 ⟨W,fr,bx,ow⟩ be oe ⟨W,fr,B,D⟩ be' oe':=⟨J.bl,J.be,J.sm⟩
  have aO:A8 ⟨W,I4 ops.toList fr,bx,ow⟩ be oe ⟨W,I4 ops.toList fr,B,D⟩ be' oe':=⟨J.bl,J.be,J.sm⟩
  have aZ:Sim P h0 w0 be' oe' T ⟨W,I4 ops.toList fr,B,D⟩ V a ak :=
   s2.refr (fr:=I4 ops.toList fr) λt=>O2.fr (st:=⟨W,I4 ops.toList fr,B,D⟩) (fr:=ba) ((Y.fr t).grow aO)
  have b0:∀ d,o.dst=some d->R3 (l09 o.dst (.pu M) L) d=some (.pu M):=λd I=>by
   rw[I];show R3 ((d,.pu M)::L) d=_;rw[V01,if_pos rfl]
  have bm:∀ t,o.dst≠some t->R3 (l09 o.dst (.pu M) L) t=R3 L t:=λt z=>by
   cases I:o.dst with
   |none=>rfl
   |some d =>
    show R3 ((d,.pu M)::L) t=_
    rw[V01,if_neg λe=>z (by rw[I,e])]
  have bq:J0f ops.size j o K=true->∀ k,k<ops.size->(listed.setIfInBounds j true).getD k false=true:=λab k al=>by
   have bB:o06 ops.size j o=true:=by
    cases K with
    |nil=>exact ab
    |cons q b4=>cases ab
   by_cases hkj:k=j
   ·subst hkj;simp[aF]
   ·rw[ac k hkj]
    obtain⟨e,aD,aE,rfl⟩:=w07 bB k al hkj
    exact bh e aD aE
  refine⟨dn ++ [(j,o)],K,l09 o.dst (.pu M) L,B,D,V,be',oe',T,by rw[N];simp,λaw=>(by
   have b3:dn.length<c:=by simp only[List.length_append,List.length_singleton]at aw;omega
   obtain⟨C,G,ap⟩:=aq (by omega)
   obtain⟨aK,bE⟩:∃ aK,c-dn.length=aK+1:=⟨c-dn.length-1,by omega⟩
   rw[bE]at aT S
   refine⟨aT.1.trans C,λb o bC=>aT.2 b o (G b o bC),?_⟩
   cases ab:J0f ops.size j o K with
   |true=>exact .inr (bq ab)
   |false =>
    rw[ab]at S
    rcases ap with ap|ap
    ·exact .inl (S.trans ap)
    ·exact absurd ap a0),aS,λp u=>?_,λp u=>?_,?_,a1 aZ,al,λt=>?_,λi l d m s R=>?_⟩
  ·have ag:p.1≠j:=λe=>by
    have bj:=bA
    rw[N,List.map_append,List.nodup_append]at bj
    have s:=bj.2.1
    rw[List.map_cons,List.nodup_cons]at s
    exact s.1 (List.mem_map.2 ⟨p,u,e⟩)
   rw[ac _ ag]
   exact aJ p (mC _ u)
  ·rcases List.mem_append.1 u with u|u
   ·exact getD_set_true (ae p u)
   ·simp at u
    subst u
    simp[aF]
  ·cases ab:J0f ops.size j o K with
   |false =>
    rw[ab]at S
    left
    rw[←aR]
    cases hc:c-dn.length with
    |zero=>rw[hc]at S;exact S
    |succ aK =>
     rw[hc]at S
     have S:B=bx:=S
     rw[S]
   |true=>exact .inr (bq ab)
  ·by_cases z:o.dst=some t
   ·obtain⟨_,_,aC⟩:=am.eff (j,o) ar
    obtain⟨F,aC⟩:=aC t z
    exact⟨λe=>(by rw[aC]at e;cases e),λav e=>(by rw[aC]at e;cases e)⟩
   ·rw[bm t z]
    exact O t
  ·by_cases A:i=j
   ·subst A
    rw[ax]at m;cases m
    exact⟨M,b0 d s,by rw[a3 v d s];exact O2.fr (st:=⟨W,ba,B,D⟩) (fr:=fr) aM⟩
   ·rw[ac _ A]at R
    obtain⟨ao,C,G⟩:=an i l d m s R
    have bF:o.dst≠some d:=λe=>A (bb i j l o d (by simpa using m) ay s e)
    exact⟨ao,by rw[bm d bF];exact C,by rw[a2 v i l d m s A];exact G.grow aN⟩
 ·
  have bs:∀ {av:AV} {x:Value},O2 ⟨n,fr,bx,ow⟩ be oe av x->O2 ⟨n,I4 ops.toList fr,bx,ow⟩ be oe av x:=λg=>O2.fr (st:=⟨n,fr,bx,ow⟩) (fr:=I4 ops.toList fr) g
  obtain⟨v,bY,bv⟩:=x0p (st:=⟨n,fr,Z,aj⟩) (stX:=⟨n,I4 ops.toList fr,bx,ow⟩) Y (λb5 x i off C G=>i0i aR (W0f C G aH)) bV (λt z=>⟨λav e=>bs ((aB t z).1 av ((O t).2 av e)),λe=>bs ((aB t z).2 ((O t).1 e))⟩)
  refine U9 bY ?_
  refine⟨dn,r,L,bx,ow,aa,be,oe,H,N,(λaw=>⟨(aq aw).1,(aq aw).2.1,.inl ((aq aw).2.2.resolve_right a0)⟩),aS,λp u=>?_,λp u=>getD_set_true (ae p u),.inl aR,a1 Y,af,O,λi l d m s R=>?_⟩
  ·have ag:p.1≠j:=bk p (aQ _ (by rw[N];exact List.mem_append_right _ u))
   rw[ac _ ag]
   exact aJ p u
  ·by_cases A:i=j
   ·subst A
    rw[ax]at m;cases m
    exact⟨av,(O d).2 av (bc d s),by rw[a3 v d s];exact O2.fr (st:=⟨n,I4 ops.toList fr,bx,ow⟩) (fr:=fr) bv⟩
   ·rw[ac _ A]at R
    obtain⟨ao,C,G⟩:=an i l d m s R
    exact⟨ao,C,by rw[a2 v i l d m s A];exact G⟩
 ·
  have bG:dn.length<=c:=by
   rcases Nat.lt_or_ge c dn.length with bP|bJ
   ·exfalso
    obtain⟨⟨ai,q⟩,bn⟩:∃ b1,dn[c]?=some b1:=⟨_,List.getElem?_eq_getElem bP⟩
    have bo:(ai,q)∈dn:=List.mem_of_getElem? bn
    have bH:∃ t,F.drop c=(ai,q)::t:=by
     obtain⟨bQ,G⟩:=List.getElem?_eq_some_iff.1 bn
     refine⟨(dn++r).drop (c+1),?_⟩
     rw[N,List.drop_eq_getElem_cons (by simp;omega),List.getElem_append_left bQ,G]
    have bL:listed.getD j false=false:=by simp[aF]at au ⊢;exact au
    have bW:listed.getD ai false=true:=ae (ai,q) bo
    have bX:ops[ai]?=some q:=by
     have:=(am.eff (ai,q) (aQ _ (by rw[N];exact List.mem_append_left _ bo))).2.1
     simpa using this
    obtain⟨t,z⟩:=bH
    rw[z]at aU
    simp only[G0f,List.all_eq_true]at aU
    have:=k0c (X:=X++E) bf (λy az=>by
     rcases List.mem_append.1 az with az|az
     ·have aP:=(am.xx y az).2;simpa using aP
     ·have aP:=(am.eff y az).2.1;simpa using aP) 8 j ai q bX bW (aU (j,o) bK)
    rw[bL]at this;cases this
   ·exact bJ
  obtain⟨rfl,bp,bD⟩:=aq bG
  obtain rfl:=bD.resolve_right a0
  obtain⟨U,aV,aL⟩:=h03 (acc:=[]) (st:=⟨n,fr,bx,ow⟩) (stX:=⟨n,fr,bx,ow⟩) (be:=be) (oe:=oe) (val:=λt=>a.tmps.getD t undef) (λt=>trivial)
   (λt z=>⟨λav e=>(aB t (by simpa using z)).1 av ((O t).2 av e),λe=>(aB t (by simpa using z)).2 ((O t).1 e)⟩) (bO aa bp)
  have aY:Sim P h0 w0 be oe H ⟨n,U,bx,ow⟩ aa a w:=Y.refr (fr:=U) λt=>O2.fr (st:=⟨n,fr,bx,ow⟩) (fr:=I4 ops.toList fr) (aL t)
  refine Oper.wp_mono (λbu ak ah=>?_) (i01 aY aV)
  obtain⟨M,st',V,v,be',oe',T,⟨rfl,rfl,rfl⟩,rfl,s2,aM,J⟩:=ah
  have aN:A8 ⟨n,fr,bx,ow⟩ be oe ⟨n,fr,bx,ow⟩ be' oe':=⟨J.bl,J.be,J.sm⟩
  have aO:A8 ⟨n,I4 ops.toList fr,bx,ow⟩ be oe ⟨n,I4 ops.toList fr,bx,ow⟩ be' oe':=⟨J.bl,J.be,J.sm⟩
  have aZ:Sim P h0 w0 be' oe' T ⟨n,I4 ops.toList fr,bx,ow⟩ V a ak :=
   s2.refr (fr:=I4 ops.toList fr) λt=>O2.fr (st:=⟨n,I4 ops.toList fr,bx,ow⟩) (fr:=U) ((Y.fr t).grow aO)
  refine⟨dn,r,L,bx,ow,V,be',oe',T,N,λ_=>⟨rfl,bp,.inl rfl⟩,aS,λp u=>?_,λp u=>getD_set_true (ae p u),.inl rfl,a1 aZ,af,O,λi l d m s R=>?_⟩
  ·have ag:p.1≠j:=bk p (aQ _ (by rw[N];exact List.mem_append_right _ u))
   rw[ac _ ag]
   exact aJ p u
  ·by_cases A:i=j
   ·subst A
    rw[ax]at m;cases m
    exact⟨M,(O d).2 M (bc d s),by rw[a3 v d s];exact O2.fr (st:=⟨n,U,bx,ow⟩) (fr:=fr) aM⟩
   ·rw[ac _ A]at R
    obtain⟨ao,C,G⟩:=an i l d m s R
    exact⟨ao,C,by rw[a2 v i l d m s A];exact G.grow aN⟩
theorem t0u{ops:Array Oper}{n:Nat}{fr:List (Nat×AV)}{k:List BSt}{m:List Own}{l:Hp}{c:Nat}{X E:List (Nat×Oper)}{g:List (Nat×K7)}{K:St->Hp->Prop}{Q:Exit->Act->World->Prop}{listed:Array Bool}{j:Nat}{o:Oper}
  (v:∀(i j:Nat) (b s:Oper) (d:Nat),ops.toList[i]?=some b->ops.toList[j]?=some s->b.dst=some d->s.dst=some d->i=j)
  (G:∀ o∈ops.toList,∀ d,o.dst=some d->d<n) (u:c07 P ⟨n,fr,k,m⟩ l ops.toList ops.toList.length g X E) (y:n06 E=true) (B:G0f X (X++E) (E.drop c)=true)
  (D:listed.getD j true=false) (H:ops[j]?=some o) (J:listed.size=ops.size)
  (z:∀ t,Operand.tmp t∈o.op.operands->∀(i:Nat) (b:Oper),ops.toList[i]?=some b->b.dst=some t->listed.getD i false=true)
  (q:∀ e∈o.after,Region.binds .any e=true->listed.getD e.on false=true)
  (C:y0p P h0 w0 ops n fr k m l c E g K listed a w):o.guard=none/\o.wp P a w (y0p P h0 w0 ops n fr k m l c E g K (listed.setIfInBounds j true)) Q:=by
 refine n0o v G u (λx M=>M) id u.nd (λdn r f A I F=>?_) (λdn N L bx ow h f A p=>?_) B D H J z q C
 ·exact u0d q (λdn r f=>F04 dn r (by rw[←f];exact y)) f I F
 ·simp only[evC]at p
  have e:c-(dn ++ [(j,o)]).length=c-dn.length-1:=by simp;omega
  simp only[e]
  exact p
theorem Y0f:∀ {k:Nat} {E:List (Nat×Oper)} {f:Nat×Oper} {a:List (Nat×Oper)},b0i k E=some (f,a)->∃ A B,E=A++f::B/\a=A++B
 |_,[],f,a,h=>by simp[b0i]at h
 |0,x::r,f,a,h=>by
  simp only[b0i,Option.some.injEq,Prod.mk.injEq]at h
  obtain⟨rfl,rfl⟩:=h
  exact⟨[],r,rfl,rfl⟩
 |k+1,x::r,f,a,h=>by
  simp only[b0i]at h
  split at h
  ·rename_i c d b
   simp only[Option.some.injEq,Prod.mk.injEq]at h
   obtain⟨rfl,rfl⟩:=h
   obtain⟨A,B,rfl,rfl⟩:=Y0f b
   grind
  ·cases h
theorem j0i{f:Nat×Oper}:∀ {p:Nat} {E:List (Nat×Oper)},p0p f p E=true->∃ q,E[p]?=some q/\h01 f.1 q.2=true
 |_,[],h=>by simp[p0p]at h
 |0,(i,q)::r,h=>⟨(i,q),rfl,by simpa [p0p] using h⟩
 |p+1,x::r,h=>by
  obtain⟨q,a,b⟩:=j0i (E:=r) (p:=p) (by simpa [p0p] using h)
  grind
theorem a0r:∀ {X:List (Nat×Oper)},noX X=true->X = []
 | [],_=>rfl
 |_::_,h=>by simp[noX]at h
theorem v0d{Y:List (Nat×Oper)}:∀(E:List (Nat×Oper)),G0f [] Y E=true
 | []=>rfl
 |_::_=>rfl
theorem o0o{l:Array Bool}{j:Nat}(h:l.getD j true=false):l.getD j false=false:=by
 grind
theorem w0d{listed:Array Bool}:∀ {A B dn r:List (Nat×Oper)},A++B=dn++r->(∀ p∈A,listed.getD p.1 false=true)->(∀ p∈r,listed.getD p.1 true=false)->∃ C,dn=A++C/\B=C++r
 | [],B,dn,r,h,_,_=>⟨dn,rfl,by simpa using h⟩
 |x::A,B,[],r,h,a,b=>by
  grind
 |x::A,B,y::dn,r,h,a,b=>by
  simp only[List.cons_append,List.cons.injEq]at h
  obtain⟨rfl,h⟩:=h
  obtain⟨C,d,e⟩:=w0d h (λp c=>a p (mC _ c)) b
  grind
theorem f0l{rd:List Nat}{N c:Nat}{L:List (Nat×K7)}{K:St->Hp->Prop}{dn d:List (Nat×Oper)}{j:Nat}{o:Oper}{n:Nat}{fr:List (Nat×AV)}{bx:List BSt}{ow:List Own}{h:Hp}
  (i:evC rd N P (c-dn.length) ((j,o)::d) L ⟨n,fr,bx,ow⟩ h K):V06 L fr o.op.operands.toList [] λg=>k00 P o ⟨n,g,bx,ow⟩ h λav st' f=>match st' with
   |⟨_,_,a,b⟩=>x0j (c-dn.length) ow b h f/\f0o (c-dn.length) (J0f N j o d) rd bx a/\e03 av λav=>P00 a λa=>P00 b λb=>evC rd N P (c-(dn ++ [(j,o)]).length) d (l09 o.dst (.pu av) L) ⟨n,fr,a,b⟩ f K:=by
 simp only[evC]at i
 have e:c-(dn ++ [(j,o)]).length=c-dn.length-1:=by simp;omega
 simp_all
theorem b0r{f:Nat×Oper}{rd:List Nat}{N:Nat}{K:St->Hp->Prop}{h:Hp}{st:St}{L:List (Nat×K7)}:∀ {p:Nat} {E:List (Nat×Oper)},y0s f rd N P p E L st h K->evC rd N P 0 (f::E) L st h K
 |0,_,h=>h
 |_+1,_,h=>h.1
theorem u0u{ops:Array Oper}{n:Nat}{fr:List (Nat×AV)}{bx:List BSt}{ow:List Own}{q:Hp}{c:Nat}{X E F:List (Nat×Oper)}{d:List (Nat×K7)}{K:St->Hp->Prop}{R:Act->World->Prop}{listed:Array Bool}
  (v:c07 P ⟨n,fr,bx,ow⟩ q ops.toList ops.toList.length d X E) (C:∀ x∈F,x∈E)
  (D:∀ a w st h be oe H,K st h->Sim P h0 w0 be oe H st h a w->R a w) (I:∀ j,j<ops.size->listed.getD j false=true)
  (G:y0p P h0 w0 ops n fr bx ow q c F d K listed a w):R a w:=by
  obtain⟨dn,r,L,bx,O,A,be,oe,H,B,_,_,J,U,_,u,o,Q,y⟩:=G
  have M:r = []:=by
   cases r with
   |nil=>rfl
   |cons p Z =>
    have e:=J p mS
    have k:=(v.eff p (C _ (by rw[B];simp))).1
    grind
  subst M
  simp only[evC,C03]at o
  refine D a w _ A be oe H o (u.refr (fr:=b0n L fr) λt=>?_)
  rw[t0d]
  have N:∀ t,R3 L t≠none->∃(i:Nat) (b:Oper),ops[i]?=some b/\b.dst=some t/\i<ops.size:=λt Y=>by
   cases h0':R3 d t with
   |none=>grind
   |some f =>
    obtain⟨i,b,e,k,m⟩:=v.key t f h0'
    grind
  cases hL:R3 L t with
  |none =>
   have V:∀ s∈ops.toList,s.dst≠some t:=λs W T=>by
    grind[List.getElem_of_mem]
   have g:=u.fr t
   grind[O2,J3,I4,x02]
  |some f =>
   cases f with
   |ef F=>trivial
   |pu av =>
    obtain⟨i,b,e,k,m⟩:=N t (by rw[hL];simp)
    obtain⟨S,l,z⟩:=y i b t e k (I i m)
    rw[hL]at l;cases l
    exact O2.fr (st:=⟨n,fr,bx,O⟩) (fr:=I4 ops.toList fr) z
theorem g0l{ops:Array Oper}{st:St}{K:St->Hp->Prop}{Q:Exit->Act->World->Prop}{R:Act->World->Prop}(aK:Sim P h0 w0 be oe H st h a w)(ae:Z03 st.n ops.toList=true)
  (M:b05 P st h ops.toList 0 [] [] [] λL X E=>evD (T01 L st ops.toList) ops.size P X E L st h K)
  (ay:∀ a w st h be oe H,K st h->Sim P h0 w0 be oe H st h a w->R a w) :
  ∃ Inv:Array Bool->Act->World->Prop,(∀(k:Nat) (o:Oper),ops.toList[k]?=some o->∀ e∈o.after,Region.binds .any e=true->e.on<k) /\
   (∀ listed a w j o,listed.size=ops.size->listed.getD j true=false->ops[j]?=some o->(∀ e∈o.after,Region.binds .any e=true->listed.getD e.on false=true)->Inv listed a w->o.guard=none/\o.wp P a w (Inv (listed.setIfInBounds j true)) Q) /\
   (∀ listed a w,(∀ j,j<ops.size->listed.getD j false=true)->Inv listed a w->R a w)/\Inv (Array.replicate ops.size false) a w:=by
 simp only[Z03,Bool.and_eq_true]at ae
 obtain⟨⟨aN,aO⟩,aP⟩:=ae
 obtain⟨aj,W⟩:=w06 aN
 have ax:∀(k:Nat) (o:Oper),ops.toList[k]?=some o->∀ e∈o.after,Region.binds .any e=true->e.on<k:=λk o al e aX ae=>by
  have:=d05 aO k o al e aX ae
  omega
 have bp:=A08 aP
 obtain⟨J,X,E,O,I⟩:=d07 (ops:=ops.toList) W (λj o t i ab D u v bo=>by
  grind) ops.toList 0 [] [] [] (λj=>by simp) ⟨λt f h=>(by cases h),λi ab d y=>by omega,λj o br=>by omega,λp G=>(by cases G),by simp,λp G=>(by cases G)⟩ M
 obtain⟨n,fr,bx,ow⟩:=st
 have ad:∀(listed:Array Bool) (j:Nat) (o:Oper),ops[j]?=some o->(∀ e∈o.after,Region.binds .any e=true->listed.getD e.on false=true)->∀ t,Operand.tmp t∈o.op.operands->∀(i:Nat) (ab:Oper),ops.toList[i]?=some ab->ab.dst=some t->listed.getD i false=true:=λlisted j o u v t bu i ab bq aH=>by
  grind
 have init:∀(c:Nat) (F:List (Nat×Oper)) (EV:List (Nat×Oper)->List (Nat×Oper)->List (Nat×K7)->St->Hp->Prop),(∀ x∈F,x∈E)->EV [] F J ⟨n,fr,bx,ow⟩ h->Z0q P h0 w0 ops n fr bx ow h c F J EV (Array.replicate ops.size false) a w:=λc F EV aU Y=>by
  refine⟨[],F,J,bx,ow,h,be,oe,H,rfl,λ_=>⟨rfl,λ_ _ h=>h,.inl rfl⟩,λj o D u=>by(simp[Array.getElem?_replicate]at u;split at u<;>cases u),λp G=>?_,λp G=>(by cases G),.inl rfl,aK.refr (fr:=I4 ops.toList fr) λt=>?_,Y,λt=>⟨id,λav=>id⟩,λj o d D u v=>?_⟩
  ·have:=(I.eff p (aU p G)).1
   have u:p.1<ops.size:=by simpa using this
   simp[u]
  ·by_cases b:∃ o∈ops.toList,o.dst=some t
   ·obtain⟨o,D,u⟩:=b
    rw[F03 D u]
    trivial
   ·rw[x02 λo a3 O=>b ⟨o,a3,O⟩]
    exact aK.fr t
  ·simp[Array.getElem?_replicate]at v
   split at v<;>cases v
 rcases O with⟨c,⟨af,aY⟩,Y⟩|⟨k,p,O⟩
 ·refine⟨y0p P h0 w0 ops n fr bx ow h c E J K,ax,(λlisted a w j o Z D u v y=>t0u W aj I af aY D u Z (ad listed j o u v) v y),(λlisted a w ai y=>u0u I (λx b=>b) ay ai y),init c E _ (λx b=>b) Y⟩
 ·split at O
  ·rename_i f bm al
   obtain⟨⟨aV,af,a0⟩,Y⟩:=O
   obtain rfl:=a0r aV
   obtain⟨A,B,rfl,rfl⟩:=Y0f al
   obtain⟨q,T,ba⟩:=j0i a0
   have aZ:f∈A++f::B:=by simp
   have aD:=I.eff f aZ
   have ak:ops[f.1]?=some f.2:=by simpa using aD.2.1
   have aG:f.1<ops.size:=by simpa using aD.1
   have an:∀ x∈A++B,x∈A++f::B:=λx b=>by
    grind
   have bc:((A++B).map λp=>p.1).Nodup:=by
    have:=I.nd
    grind
   have perm:∀ l s,A++B=l++s->((l++f::s).map λp=>p.1).Nodup:=λl s e=>by
    have D:(A++f::B).Perm (l++f::s):=List.perm_middle.trans ((List.Perm.cons f (by rw[e])).trans List.perm_middle.symm)
    exact(D.map _).nodup I.nd
   have aa:∀ l s,A++B=l++s->∀ x,x∈l++f::s↔x∈A++f::B:=λl s e x=>by
    have D:x∈A++B↔x∈l++s:=by rw[e]
    simp only[List.mem_append,List.mem_cons]at D ⊢
    constructor
    all_goals grind
   let rd:=T01 J ⟨n,fr,bx,ow⟩ ops.toList
   let ac:List (Nat×Oper)->List (Nat×Oper)->List (Nat×K7)->St->Hp->Prop:=λdn r L st h=>y0s f rd ops.size P (p-dn.length) r L st h K
   refine⟨λlisted a w=>(listed.getD f.1 true=false/\Z0q P h0 w0 ops n fr bx ow h 0 (A++B) J ac listed a w) ∨
    (listed.getD f.1 false=true/\∃ l s,A++B=l++s/\(∀ p∈l,listed.getD p.1 false=true)/\y0p P h0 w0 ops n fr bx ow h 0 (l++f::s) J K listed a w),ax,(λlisted a w j o Z D u v y=>?_),(λlisted a w ai y=>?_),.inl ⟨by simp[aG],init 0 (A++B) ac an Y⟩⟩
   ·have a2:j<listed.size:=by grind
    have am:∀ {x:Nat},listed.getD x false=true->(listed.setIfInBounds j true).getD x false=true:=λh=>getD_set_true h
    rcases y with⟨hf,y⟩|⟨hf,l,s,m,az,y⟩
    ·have aE:=o0o hf
     by_cases ah:j=f.1
     ·
      subst ah
      rw[ak]at u;cases u
      obtain⟨dn,r,L,aQ,bd,aT,be',oe',aM,m,bg,ap,bz,aq,bh,bi,bj,bk,bl⟩:=y
      have aH:y0p P h0 w0 ops n fr bx ow h 0 (dn++f::r) J K listed a w :=
       ⟨dn,f::r,L,aQ,bd,aT,be',oe',aM,rfl,bg,ap,λp G=>by
        grind,aq,bh,bi,by show evC _ _ _ (0-dn.length) _ _ _ _ _;rw[Nat.zero_sub];exact b0r bj,bk,bl⟩
      have:=n0o (F:=dn++f::r) (j:=f.1) (o:=f.2) (Q:=Q) W aj I (λx b=>(aa dn r m x).1 b) (λb=>(aa dn r m _).2 b) (perm dn r m) (λaR U e au N aw=>by
       obtain⟨C,S,V⟩:=w0d (listed:=listed) e aq N
       cases C with
       |nil=>exact⟨r,by simpa using V.symm⟩
       |cons z C =>
        exfalso
        simp only[List.cons_append,List.cons.injEq]at V
        have:=au f (by rw[S,V.1];simp)
        rw[aE]at this;cases this) (λdn U L bx ow h m ag M=>f0l M) (v0d _) D ak Z (ad listed f.1 f.2 ak v) v aH
      exact⟨this.1,Oper.wp_mono (λar aL b => .inr ⟨by simp[a2],dn,r,m,λp G=>am (aq p G),b⟩) this.2⟩
     ·have bs:(j,o)≠f:=λe=>ah (by rw[←e])
      have aW:∀(j:Nat) (o:Oper),ops[j]?=some o->listed.getD j false=true->∀ e∈o.after,Region.binds .any e=true->listed.getD e.on false=true:=by
       obtain⟨_,_,_,_,_,_,_,_,_,_,_,ap,_⟩:=y
       exact ap
      have:=n0o (F:=A++B) (Q:=Q) (EV:=ac) W aj I an (λb=>by
       grind) bc (λdn r m ag bb a1=>u0d v (λdn r m=>F04 dn r (by rw[←m];exact af)) m bb a1) (λdn U L bn bv h m ag M=>by
       have bt:dn.length<p:=by
        rcases Nat.lt_or_ge dn.length p with g|g
        ·exact g
        ·exfalso
         have aF:listed.getD f.1 false=true:=by
          rw[m]at T
          obtain⟨e,aA,aB,aC⟩:=L9 ba
          rcases Nat.lt_or_ge p dn.length with N|N
          ·rw[List.getElem?_append_left N]at T
           have aJ:q∈dn:=List.mem_of_getElem? T
           have:=(I.eff q (an q (by rw[m];exact List.mem_append_left _ aJ))).2.1
           have:=aW q.1 q.2 (by simpa using this) (ag q aJ) e aA aB
           rwa [aC]at this
          ·have S:p=dn.length:=by omega
           rw[S,List.getElem?_append_right (Nat.le_refl _)]at T
           simp at T
           subst T
           have:=v e aA aB
           rwa [aC]at this
         rw[aE]at aF;cases aF
       obtain⟨ao,a4⟩:∃ ao,p-dn.length=ao+1:=⟨p-dn.length-1,by omega⟩
       have S:p-(dn ++ [(j,o)]).length=ao:=by simp;omega
       simp only[ac,a4,S,Nat.zero_sub]at M ⊢
       exact M.2) (v0d _) D u Z (ad listed j o u v) v y
      exact⟨this.1,Oper.wp_mono (λar aL b => .inl ⟨by rw[getD_set_ne true ah];exact hf,b⟩) this.2⟩
    ·have ah:j≠f.1:=λe=>by
      grind
     have:=n0o (F:=l++f::s) (Q:=Q) W aj I (λx b=>(aa l s m x).1 b) (λb=>(aa l s m _).2 b) (perm l s m) (λaR U e au N aw=>by
      obtain⟨C,S,V⟩:=w0d (listed:=listed) (A:=l ++ [f]) (B:=s) (by simpa using e) (λp G=>by
       grind) N
      exact u0d (E:=U) (dn:=[]) v (λdn bf aS=>F04 dn bf (by rw[←aS];exact F04 (l++C) U (by rw[List.append_assoc,←V,←m];exact af))) rfl N aw) (λdn U L bx ow h m ag M=>f0l M) (v0d _) D u Z (ad listed j o u v) v y
     exact⟨this.1,Oper.wp_mono (λar aL b => .inr ⟨am hf,l,s,m,λp G=>am (az p G),b⟩) this.2⟩
   ·rcases y with⟨hf,y⟩|⟨hf,l,s,m,az,y⟩
    ·have:=ai f.1 aG
     rw[o0o hf]at this;cases this
    ·exact u0u I (λx b=>(aa l s m x).1 b) ay ai y
  ·exact O.elim
theorem z0p{ops:Array Oper}{st:St}{K:St->Hp->Prop}{Q:Exit->Act->World->Prop}(j:Sim P h0 w0 be oe H st h a w)(g:Z03 st.n ops.toList=true)
  (i:b05 P st h ops.toList 0 [] [] [] λL X E=>evD (T01 L st ops.toList) ops.size P X E L st h K)
  (f:∀ a w st h be oe H,K st h->Sim P h0 w0 be oe H st h a w->Q .normal a w):wpAny P .any ops Q ops.size (Array.replicate ops.size false) a w:=by
 obtain⟨Inv,b,c,d,e⟩:=g0l (Q:=Q) (R:=λa w=>Q .normal a w) j g i f
 exact P0t (Inv:=Inv) b c d ops.size _ a w (by simp) (by simp[List.count_replicate]) e
theorem l0c{L l:Array Bool}{x:Bool}(h:L.toList=l.toList ++ [x]){j:Nat}(a:j<l.size)(b:Bool):L.getD j b=l.getD j b:=by
 rw[Array.getD_eq_getD_getElem?,Array.getD_eq_getD_getElem?,←Array.getElem?_toList,←Array.getElem?_toList,h,List.getElem?_append_left (by simpa using a)]
theorem A0p{L l:Array Bool}{x:Bool}(h:L.toList=l.toList ++ [x])(b:Bool):L.getD l.size b=x:=by
 rw[Array.getD_eq_getD_getElem?,←Array.getElem?_toList,h,List.getElem?_append_right (by simp)];simp
theorem v0u{ops ops0:Array Oper}{o:Oper}{Q:Exit->Act->World->Prop}{Inv:Array Bool->Act->World->Prop}{a:Act}{w:World}(t:ops.toList=ops0.toList ++ [o])
  (q:∀(k:Nat) (o:Oper),ops.toList[k]?=some o->∀ e∈o.after,Region.binds .any e=true->e.on<k)
  (B:o.guard=none) (G:∀ k,k<ops0.size->∃ e∈o.after,Region.binds .any e=true/\e.on=k)
  (I:∀ listed a w j o,listed.size=ops0.size->listed.getD j true=false->ops0[j]?=some o->(∀ e∈o.after,Region.binds .any e=true->listed.getD e.on false=true)->Inv listed a w->o.guard=none/\o.wp P a w (Inv (listed.setIfInBounds j true)) Q)
  (A:∀ listed a w,(∀ j,j<ops0.size->listed.getD j false=true)->Inv listed a w->o.wp P a w (λa w=>Q .normal a w) Q)
  (h0:Inv (Array.replicate ops0.size false) a w):wpAny P .any ops Q ops.size (Array.replicate ops.size false) a w:=by
 have M:ops.size=ops0.size+1:=by
  have:=congrArg List.length t
  simpa using this
 refine P0t (Inv:=λL a w=>(∃ l:Array Bool,l.size=ops0.size/\L.toList=l.toList ++ [false]/\Inv l a w)∨((∀ j,j<ops.size->L.getD j false=true)/\Q .normal a w)) q (λL a w j m J y b p d=>?_) (λL a w f d=>?_) ops.size _ a w (by simp) (by simp[List.count_replicate]) (.inl ⟨_,by simp,by grind,h0⟩)
 ·rcases d with⟨l,g,c,d⟩|⟨f,_⟩
  ·have E:j<ops.size:=(Array.getElem?_eq_some_iff.1 b).1
   by_cases hj:j<ops0.size
   ·have z:ops0[j]?=some m:=by
     rw[←Array.getElem?_toList]at b ⊢
     grind
    obtain⟨v,x⟩:=I l a w j m g (by rw[←l0c c (by omega)];exact y) z (λe i h=>by
     have:=q j m (by rw[Array.getElem?_toList];exact b) e i h
     rw[←l0c c (by omega)];exact p e i h) d
    refine⟨v,Oper.wp_mono (λu K C => .inl ⟨_,by simpa using g,?_,C⟩) x⟩
    rw[Array.toList_setIfInBounds,c,List.set_append_left _ _ (by simpa [g] using hj),Array.toList_setIfInBounds]
   ·have D:j=ops0.size:=by omega
    have H:m=o:=by
     rw[←Array.getElem?_toList,t,List.getElem?_append_right (by simp;omega)]at b
     rw[D]at b;simp at b;exact b.symm
    subst H
    have f:∀ k,k<ops0.size->l.getD k false=true:=λk s=>by
     obtain⟨e,i,h,rfl⟩:=G k s
     rw[←l0c c (by omega)];exact p e i h
    refine⟨B,Oper.wp_mono (λu K n => .inr ⟨λk s=>?_,n⟩) (A l a w f d)⟩
    by_cases hkj:k=j
    ·rw[hkj];simp[Array.getD_eq_getD_getElem?,J,E]
    ·have F:k<ops0.size:=by omega
     have:=f k F
     rw[←l0c c (by omega)]at this
     rw[Array.getD_eq_getD_getElem?,Array.getElem?_setIfInBounds_ne (by omega),←Array.getD_eq_getD_getElem?];exact this
  grind
 ·rcases d with⟨l,g,c,d⟩|⟨_,n⟩
  ·have:=f ops0.size (by omega)
   rw[←g,A0p c]at this;cases this
  ·exact n
theorem v0e{o:Oper}:∀(ops:List Oper),I0f ops=some o->ops=v02 ops ++ [o]
 | [],h=>by simp[I0f]at h
 | [x],h=>by grind[I0f,Option.some.injEq,v02]
 |x::y::r,h=>by
  simp only[I0f]at h
  have:=v0e (y::r) (by simp only[I0f];exact h)
  rw[show v02 (x::y::r)=x::v02 (y::r) by simp only[v02],List.cons_append,←this]
theorem B0p{ops:List Oper}{o:Oper}(h:J0q ops=some o):ops=v02 ops ++ [o]/\o.guard=none/\o06 (v02 ops).length (v02 ops).length o=true:=by
 unfold J0q at h
 split at h
 ·rename_i f e
  split at h
  ·rename_i d c b
   split at h
   ·rename_i a
    cases h
    simp only[Bool.and_eq_true]at a
    grind[v0e]
   ·cases h
  ·cases h
 ·cases h
end
end Go.H
namespace Go.H
set_option linter.unusedVariables false
set_option linter.unusedSimpArgs false
theorem f06:∀ {L:FL} {t:Nat} {x:List (Nat×Bool)×K7},W04 L t=some x->(t,x)∈L
 | [],t,x,h=>by cases h
 |(d,y)::r,t,x,h=>by
  simp only[W04]at h
  split at h
  ·simp_all
  ·exact mC _ (f06 h)
theorem o0b:∀ {L:FL} {t:Nat} {x:List (Nat×Bool)×K7},(t,x)∈L->∃ y,W04 L t=some y
 |(d,y)::r,t,x,h=>by
  simp only[W04]
  split
  ·exact⟨_,rfl⟩
  ·rename_i a
   rcases List.mem_cons.1 h with e|h
   ·simp_all
   ·exact o0b h
theorem C0p{bs:List BE}{x:BE}(e:∀ y∈bs,y.j≠x.j){j:Nat}{b:BE}(h:q04 bs j=some b):q04 (x::bs) j=some b:=by
 simp only[q04]
 split
 ·rename_i d
  obtain⟨a,c⟩:=c05 h
  simp_all
 ·exact h
abbrev Asg:=Nat->List (Nat×Bool)×Bool×K7
structure K0h (ops:List Oper) (A:Asg) (L:FL) (bs:List BE) (k:Nat):Prop where
 p1:∀ t x,(t,x)∈L->∃ i oi,i<k/\ops[i]?=some oi/\oi.dst=some t/\(A i).1=x.1/\(A i).2.2=x.2
 p2:∀ i oi d,i<k->ops[i]?=some oi->oi.dst=some d->∃ x,W04 L d=some x
 p3:∀ i,i<k->i<ops.length->cB bs (A i).1=some (A i).2.1
 p4:∀ x∈bs,x.j<k/\(∃ o,ops[x.j]?=some o/\o.dst=some x.d)/\(A x.j).1=x.ch/\(A x.j).2.2 = .pu (.val (.bool x.e))
structure I0a (bs bs':List BE):Prop where
 c:∀ ch c,cB bs ch=some c->cB bs' ch=some c
 e:∀ j b,q04 bs j=some b->q04 bs' j=some b
theorem I0a.refl(bs:List BE):I0a bs bs:=⟨λ_ _ h=>h,λ_ _ h=>h⟩
theorem I0a.trans{a b c:List BE}(d:I0a a b)(f:I0a b c):I0a a c:=⟨λch x h=>f.c ch x (d.c ch x h),λj b h=>f.e j b (d.e j b h)⟩
def OpU(P:Program)(st:St)(h:Hp)(L:FL)(bs:List BE)(o:Oper)(ch:List (Nat×Bool))(c:Bool):K7->Prop
 | .pu av=>R0a P L bs ch o st=some av∨∀ a,Sub h a->imp ch c (R08 L st a ch o.op.operands.toList [] λfr=>k00 P o { st with fr:=fr } a (e0o av { st with fr:=fr } a))
 | .ef F=>(∀ v b d,Sub b d->F v b->F v d)/\∀ a,Sub h a->imp ch c (R08 L st a ch o.op.operands.toList [] λfr=>P0k P o { st with fr:=fr } a (K0q { st with fr:=fr } a F))
theorem c0r{d:Option Tmp}{ch:List (Nat×Bool)}{f:K7}{L:FL}{p:Nat×List (Nat×Bool)×K7}(h:p∈y0j d ch f L):(∃ s,d=some s/\p=(s,ch,f))∨p∈L:=by
 cases d with
 |none=>exact .inr h
 |some s =>
  rcases List.mem_cons.1 h with h|h
  all_goals grind
theorem d0r{i:Nat}{d:Option Tmp}{ch:List (Nat×Bool)}{av:AV}{bs:List BE}{x:BE}(h:x∈z0j i d ch av bs):(∃ s e,d=some s/\av = .val (.bool e)/\x=⟨i,s,e,ch⟩)∨x∈bs:=by
 unfold z0j at h
 grind
theorem e0r{i:Nat}{d:Option Tmp}{ch:List (Nat×Bool)}{av:AV}{bs:List BE}(f:∀ y∈bs,y.j<i):I0a bs (z0j i d ch av bs):=by
 unfold z0j
 split
 ·split
  ·refine⟨λe c h=>j0n (λy a=>?_) h,λj b h=>C0p (λy a=>?_) h⟩<;>(grind)
  ·exact I0a.refl _
 ·exact I0a.refl _
theorem I0s(P:Program)(i:Nat)(L:FL)(bs:List BE)(st:St)(h:Hp)(K:St->Hp->Prop):evU P [] i L bs st h K=∀ a,Sub h a->G0h a L st.fr λfr=>K { st with fr:=fr } a:=by
 obtain⟨n,fr,bx,ow⟩:=st;rfl
theorem f0r(P:Program)(o:Oper)(l:List Oper)(i:Nat)(L:FL)(bs:List BE)(st:St)(h:Hp)(K:St->Hp->Prop)(b:evU P (o::l) i L bs st h K):
    ∃ ch c f,q01 bs o.guard=some ch/\cB bs ch=some c/\(OpU P st h L bs o ch c f/\∀ av,R0a P L bs ch o st=some av->f = .pu av)/\∃ k,k=(match f with
      | .pu av=>z0j i o.dst ch av bs
      | .ef _=>bs)/\evU P l (i+1) (y0j o.dst ch f L) k st h K:=by
  obtain⟨n,fr,bx,ow⟩:=st
  change (match q01 bs o.guard with
        |some ch=>match cB bs ch with
          |some c=>match R0a P L bs ch o ⟨n,fr,bx,ow⟩with
            |some av=>e03 av λav=>evU P l (i+1) (y0j o.dst ch (.pu av) L) (z0j i o.dst ch av bs) ⟨n,fr,bx,ow⟩ h K
            |none=>(∃ av,(∀ a,Sub h a->imp ch c (R08 L ⟨n,fr,bx,ow⟩ a ch o.op.operands.toList [] λfr=>k00 P o ⟨n,fr,bx,ow⟩ a (e0o av ⟨n,fr,bx,ow⟩ a))) /\
                  e03 av λav=>evU P l (i+1) (y0j o.dst ch (.pu av) L) (z0j i o.dst ch av bs) ⟨n,fr,bx,ow⟩ h K) ∨
                (∃ F:Value->Hp->Prop,(∀ v e d,Sub e d->F v e->F v d) /\
                  (∀ a,Sub h a->imp ch c (R08 L ⟨n,fr,bx,ow⟩ a ch o.op.operands.toList [] λfr=>P0k P o ⟨n,fr,bx,ow⟩ a (K0q ⟨n,fr,bx,ow⟩ a F))) /\
                  evU P l (i+1) (y0j o.dst ch (.ef F) L) bs ⟨n,fr,bx,ow⟩ h K)
          |none=>False
        |none=>False)at b
  split at b
  · rename_i ch j
    split at b
    · rename_i c g
      split at b
      · rename_i av q
        rw[r04]at b
        exact⟨ch,c,.pu av,j,g,⟨.inl q,λs a=>by grind⟩,_,rfl,b⟩
      · rename_i t
        have m:∀(f:K7) av,R0a P L bs ch o ⟨n,fr,bx,ow⟩=some av->f = .pu av:=λf av a=>by grind
        rcases b with⟨av,e,d⟩|⟨F,e,d,p⟩
        · rw[r04]at d
          exact⟨ch,c,.pu av,j,g,⟨.inr e,m _⟩,_,rfl,d⟩
        · exact⟨ch,c,.ef F,j,g,⟨⟨e,d⟩,m _⟩,_,rfl,p⟩
    · exact b.elim
  · exact b.elim
theorem Z0f{P:Program}{ops:List Oper}{st:St}{h:Hp}{K:St->Hp->Prop}(an:∀(i j:Nat) (n Q:Oper) (d:Nat),ops[i]?=some n->ops[j]?=some Q->n.dst=some d->Q.dst=some d->i=j):
  ∀(l:List Oper) (k:Nat) (L:FL) (bs:List BE) (q:Asg),(∀ j,l[j]?=ops[k+j]?)->k+l.length=ops.length->K0h ops q L bs k->evU P l k L bs st h K ->
   ∃(A:Asg) (J:FL) (v:List BE),(∀ i,i<k->A i=q i)/\I0a bs v/\K0h ops A J v ops.length /\
    (∀ j o,k<=j->ops[j]?=some o->∃ R C,q01 v o.guard=some (A j).1/\K0h ops A R C j/\I0a C v/\cB C (A j).1=some (A j).2.1/\(OpU P st h R C o (A j).1 (A j).2.1 (A j).2.2/\∀ av,R0a P R C (A j).1 o st=some av->(A j).2.2 = .pu av)) /\
    (∀ V,Sub h V->G0h V J st.fr λfr=>K { st with fr:=fr } V)
 | [],k,L,bs,q,W,ae,g,ad=>by
  have af:k=ops.length:=by simpa using ae
  grind[I0a.refl,I0s,List.getElem?_eq_some_iff]
 |o::l,k,L,bs,q,W,ae,g,ad=>by
  have Y:ops[k]?=some o:=by simpa using (W 0).symm
  have au:∀ j,l[j]?=ops[k+1+j]?:=λj=>by have:=W (j+1);grind
  have af:k+1+l.length=ops.length:=by grind
  obtain⟨ch,c,f,u,ac,aw,U,aq,ar⟩:=f0r P o l k L bs st h K ad
  let B:Asg:=λi=>if i=k then(ch,c,f)else q i
  have M:B k=(ch,c,f):=by simp[B]
  have aa:∀ i,i<k->B i=q i:=λi m=>by grind
  have az:∀ y∈bs,y.j<k:=λy ay=>(g.p4 y ay).1
  have I:I0a bs U:=by
   grind[e0r,I0a.refl]
  have ax:K0h ops B (y0j o.dst ch f L) U (k+1):=by
   refine⟨λt x a=>?_,λi n d m H O=>?_,λi m X=>?_,λx a=>?_⟩
   ·rcases c0r a with⟨ai,ah,e⟩|a
    ·grind
    ·obtain⟨i,n,s,D,E,G,am⟩:=g.p1 t x a
     grind
   ·rcases Nat.lt_or_ge i k with z|z
    ·obtain⟨x,a⟩:=g.p2 i n d z H O
     cases hd:o.dst with
     |none=>exact⟨x,a⟩
     |some ai=>exact o0b (x:=x) (mC _ (f06 a))
    ·have:i=k:=by omega
     subst this
     rw[Y]at H;cases H
     rw[O]
     exact o0b mS
   ·rcases Nat.lt_or_ge i k with z|z
    ·rw[aa i z];exact I.c _ _ (g.p3 i z X)
    ·have:i=k:=by omega
     subst this
     rw[M];exact I.c _ _ ac
   ·subst aq
    cases f with
    |ef F =>
     obtain⟨s,D,E,G⟩:=g.p4 x a
     grind
    |pu av =>
     rcases d0r a with⟨ai,e,ah,ao,rfl⟩|a
     ·refine⟨nS _,⟨o,Y,ah⟩,by rw[M],?_⟩
      rw[M,ao]
     ·obtain⟨s,D,E,G⟩:=g.p4 x a
      grind
  obtain⟨A,J,v,ab,S,aj,ak,al⟩:=Z0f an l (k+1) _ U B au af ax ar
  have T:A k=(ch,c,f):=by rw[ab k (nS _),M]
  have N:∀ i,i<k->A i=q i:=λi m=>by rw[ab i (Nat.lt_succ_of_lt m),aa i m]
  refine⟨A,J,v,N,I.trans S,aj,λj Q aA Z=>?_,al⟩
  rcases Nat.lt_or_ge k j with ag|ag
  ·exact ak j Q ag Z
  ·have:j=k:=by omega
   subst this
   rw[Y]at Z;cases Z
   refine⟨L,bs,?_,⟨λt x a=>?_,λi n d m H O=>g.p2 i n d m H O,λi m X=>?_,λx a=>?_⟩,I.trans S,by rw[T];exact ac,by rw[T];exact aw⟩
   ·rw[T]
    cases hg:o.guard with
    |none=>rw[hg]at u;exact u
    |some p =>
     obtain⟨aB,w⟩:=p
     rw[hg]at u
     simp only[q01]at u ⊢
     split at u
     ·rename_i b ap
      rw[(I.trans S).e _ _ ap]
      exact u
     ·cases u
   ·obtain⟨i,n,s,D,E,G,am⟩:=g.p1 t x a
    grind
   ·rw[N i m];exact g.p3 i m X
   ·obtain⟨s,D,E,G⟩:=g.p4 x a
    exact⟨s,D,by rw[N _ s];exact E,by rw[N _ s];exact G⟩
section
variable {P:Program} {h0:Hp} {w0:World} {be:Nat->Nat} {oe:Nat->Value} {H:Hp} {st:St} {h:Hp} {a:Act} {w:World} {o:Oper} {K:AV->St->Hp->Prop} {Q:Exit->Act->World->Prop}
theorem h0l(j:Sim P h0 w0 be oe H st h a w){t n:Nat}{f:Array (Nat×Operand)}(p:o.op = .buildSlice t n f)(A:f.toList = [])(c:L0q P t n st h K):o.wp P a w (Nx P h0 w0 st be oe K a o.dst) Q:=by
 unfold L0q at c
 split at c
 rotate_left
 ·exact c.elim
 rename_i e v
 split at c
 rotate_left
 ·exact c.elim
 rename_i sz u l
 have m:=Nat.eq_of_beq_eq_true l
 subst m
 have q:f = #[]:=by grind
 subst q
 have x:wpS P (execOp a.eval o) h (λi g=>∃ b,h b=none/\i = .value (.slice (some ⟨b,0,none⟩) 0 0)/\g=h.set b (.cells #[] e (0,0))):=by
  unfold execOp;rw[p]
  refine r9 _ _ _ ?_
  simp only[Instr.buildSlice,Q2,l7 (H00 v),g03 u,Nat.zero_mul,A3]
  rw[if_neg (by omega)]
  simp only[A3,if_true,Instr.fill,Array.map_empty,Q2,newRow,newObj,wpS]
  exact λb d=>⟨b,d,rfl,by rw[show Array.range 0 = #[] from rfl,Array.map_empty]⟩
 obtain⟨i,g,B,s,⟨b,d,rfl,rfl⟩,k⟩:=u01 _ _ _ (a0c j) x
 obtain⟨z,y⟩:=j.moved k
 exact U9 s ⟨_,_,_,_,_,_,_,c b d,rfl,y,rfl,A8.refl _ _ _⟩
theorem i0l(m:Sim P h0 w0 be oe H st h a w){t:TypeId}{p q:Operand}{as:Array Operand}{R:Array TypeId}(L:o.op = .call { callee := .builtin .append,args:=as,argTypes:=R })
  (F:as = #[p,q]) (N:R = #[t,t]) (d:M0q P t p q st h K):o.wp P a w (Nx P h0 w0 st be oe K a o.dst) Q:=by
 unfold M0q at d
 split at d
 rotate_left
 ·exact d.elim
 rename_i e aa
 split at d
 rotate_left
 ·exact d.elim
 rename_i sz by_ z Z S ac
 split at d
 rotate_left
 ·exact d.elim
 rename_i ad
 obtain⟨i,y,C,ag,ai⟩:=n0b Z S ac
 have A:=H00 aa
 have ae:z.cells.size=i.size:=by rw[C];simpa using B04 _ _ ad
 have g:=m.rdO p
 split at d
 rotate_left
 ·exact d.elim
 rename_i n s Y
 rw[Y]at g
 have v:a.eval p = .slice (some ⟨n,s,none⟩) 0 0:=g
 obtain⟨b,⟨M,W,J⟩,l⟩:=v08 m (Nat.succ_pos sz) d
 have af:i.size=sz+1:=C
 have ah:i.bytes=by_+1:=ag
 rw[←C]at l
 rw[←af]at J
 rw[←ah]at M
 have T:0<i.bytes:=by grind
 have am:b.length<=140737488355328:=Nat.le_trans (Nat.le_mul_of_pos_right _ T) M
 have X:((0+b.length:Nat):Int)<=9223372036854775807:=by omega
 have I:=c02 b (λx B=>(l.1 x B).1)
 have O:=a0c m
 by_cases hn:b = []
 ·have k:(Builtin.append_ #[t,t] o.type #[.slice (some ⟨n,s,none⟩) 0 0,a.eval q]).run P w = .ok (.slice (some ⟨n,s,none⟩) 0 0) w:=by
   subst hn
   rcases l.2 with⟨D,c,f,G⟩|⟨c,f,_⟩
   ·rw[f]
    simp[Builtin.append_,run_underlying A,sizeOf,typeInfo,y,Builtin.lenOf,Builtin.firstCells,loadCells,loadCellsFrom,storeCells]
   ·rw[f]
    simp[Builtin.append_,run_underlying A,sizeOf,typeInfo,y,Builtin.lenOf,Builtin.firstCells,storeCells]
  rw[←v]at k
  exact U9 (A05 L F N k) ⟨_,_,h,_,_,_,_,W hn,rfl,m,v,A8.refl _ _ _⟩
 ·rcases l.2 with⟨D,E,f,G⟩|⟨E,f,ab⟩
  rotate_left
  ·exact absurd ab hn
  have an:0<b.length:=by
   grind
  have k:=run_append_grow (P:=P) w t o.type e i z A y ai ⟨n,s,none⟩ 0 0 [] (by simp) (λj u V=>by simp at V) D b.length E b.flatten I G (by omega) X (growslice_fits (by omega) (by grind[P0b]))
  have al:=grownCap_ge w (0+b.length) 0 e
  have U:grownCap w (0+b.length) 0 e<=maxLen:=grownCap_le_maxLen w _ 0 e (by unfold maxLen;omega)
  rw[←f,←v]at k
  obtain⟨ak,aj⟩:=m.moved (D3.newD O (.cells ([].toArray++b.flatten.toArray++Builtin.zeroCells z.cells (grownCap w (0+b.length) 0 e-(0+b.length))) e (0,0)) rfl)
  refine U9 (A05 L F N k) ⟨_,_,_,_,_,_,_,J _ _ ⟨λx B=>l.1 x B,.inr ⟨w.heap.size,grownCap w (0+b.length) 0 e,_,?_,C04 O,rfl,by omega,U,?_,?_⟩⟩,rfl,aj,rfl,A8.refl _ _ _⟩
  ·rw[Nat.zero_add]
  ·simp only[Array.size_append,List.size_toArray,I,size_zeroCells,ae,List.length_nil,←Nat.add_mul,Nat.zero_add]
   grind
  grind
theorem j0l(e:Sim P h0 w0 be oe H st h a w)(b:P0k P o st h K):o.wp P a w (Nx P h0 w0 st be oe K a o.dst) Q:=by
 unfold P0k at b
 split at b
 ·grind[h0l,i01]
 ·rename_i as j d
  split at b
  ·rename_i x y t i f g
   split at b
   ·rename_i c
    have:=Nat.eq_of_beq_eq_true c
    subst this
    exact i0l e d (by grind) (by grind) b
   ·exact b.elim
  ·exact b.elim
 grind[i01]
end
section
variable {P:Program} {h0:Hp} {w0:World} {be:Nat->Nat} {oe:Nat->Value} {H:Hp} {h:Hp} {a:Act} {w:World}
def K0j(st:St)(be:Nat->Nat)(oe:Nat->Value)(h:Hp)(bs:List BE)(x:List (Nat×Bool)×K7)(v:Value):Prop:=cB bs x.1=some true->v07 st be oe h x.2 v
theorem j03{L:FL}{st:St}{h:Hp}{bs:List BE}{ch:List (Nat×Bool)}{val:Nat->Value}{K:List (Nat×AV)->Prop}(d:cB bs ch=some true):∀ {l:List Operand} {acc:List (Nat×AV)},
  (∀ t,O2 st be oe (J3 acc t) (val t))->(∀ t,Operand.tmp t∈l->(∀ x,W04 L t=some x->K0j st be oe h bs x (val t))/\(W04 L t=none->O2 st be oe (J3 st.fr t) (val t))) ->
  R08 L st h ch l acc K->∃ fr,K fr/\∀ t,O2 st be oe (J3 fr t) (val t)
 | [],acc,c,b,a=>⟨acc,a,c⟩
 | .tmp t::r,acc,c,b,a=>by
  have j:∀ u,Operand.tmp u∈r->_:=λu i=>b u (mC _ i)
  have k:=b t mS
  have put:∀ av,O2 st be oe av (val t)->∀ u,O2 st be oe (J3 ((t,av)::acc) u) (val u):=λav g u=>by
   grind[j4]
  simp only[R08]at a
  split at a
  ·rename_i n f e
   split at a
   ·rename_i m
    have hf:=k.1 _ e (t0a m d)
    cases f with
    |pu av=>exact j03 d (put av hf) j a
    |ef F=>exact j03 d (put (.val (val t)) rfl) j (a _ hf)
   ·exact a.elim
  ·rename_i e
   exact j03 d (put _ (k.2 e)) j a
 | .const v::r,acc,c,b,a=>j03 (l:=r) d c (λu i=>b u (mC _ i)) a
 | .global v::r,acc,c,b,a=>j03 (l:=r) d c (λu i=>b u (mC _ i)) a
 | .func v::r,acc,c,b,a=>j03 (l:=r) d c (λu i=>b u (mC _ i)) a
theorem k0i{st:St}{val:Nat->Value}{K:List (Nat×AV)->Prop}:∀ {L:FL} {fr:List (Nat×AV)},(∀ p∈L,p.2.1 = []->v07 st be oe h p.2.2 (val p.1)) ->
  (∀ t,(∀ x,(t,x) ∉ L)->O2 st be oe (J3 fr t) (val t))->G0h h L fr K->∃ fr,K fr/\∀ t,O2 st be oe (J3 fr t) (val t)
 | [],fr,b,c,a=>⟨fr,a,λt=>c t (by simp)⟩
 |(d,ch,f)::r,fr,b,c,a=>by
  have step:∀ av,O2 st be oe av (val d)->G0h h r ((d,av)::fr) K->∃ fr,K fr/\∀ t,O2 st be oe (J3 fr t) (val t):=λav g a =>
   k0i (L:=r) (fr:=(d,av)::fr) (λp e=>b p (mC _ e)) (λt i=>by
    grind[j4]) a
  cases ch with
  |nil =>
   have hf:=b (d,[],f) mS rfl
   cases f with
   |pu av=>exact step av hf a
   |ef F=>exact step (.val (val d)) rfl (a _ hf)
  |cons p q =>
   refine step .dead trivial ?_
   cases f<;>exact a
theorem g0r{st:St}{L:FL}{bs:List BE}{ch:List (Nat×Bool)}{o:Oper}{av:AV}(c:R0a P L bs ch o st=some av)(z:cB bs ch=some true)
  (an:∀ t,(∀ x,W04 L t=some x->K0j st be oe h bs x (a.tmps.getD t undef))/\(W04 L t=none->O2 st be oe (J3 st.fr t) (a.tmps.getD t undef))∨Operand.tmp t ∉ o.op.operands)
  (az:∀ x∈bs,∀ y,W04 L x.d=some y->y=(x.ch,.pu (.val (.bool x.e)))) (ai:∀ x∈bs,q04 bs x.j=some x) (ax:∀ x∈bs,∃ y,W04 L x.d=some y)
  (T:∀ {fr:List (Nat×AV)},(∀ t,O2 st be oe (J3 fr t) (a.tmps.getD t undef))->Sim P h0 w0 be oe H { st with fr:=fr } h a w) {Q:Exit->Act->World->Prop} :
  o.wp P a w (λE l=>∃ v be' oe' C,E=a.put o.dst v/\(∃ fr,Sim P h0 w0 be' oe' C { st with fr:=fr } h a l)/\A8 st be oe st be' oe'/\O2 st be' oe' av v) Q:=by
 have G:Sim P h0 w0 be oe H { st with fr:=[] } h a w:=T (λt=>trivial)
 have rd:∀(x:Operand) (I:List (Nat×Bool)),cB bs I=some true->(∀ t,x = .tmp t->Operand.tmp t∈o.op.operands)->O2 st be oe (rdU L st I x) (a.eval x):=by
  intro x I ag f
  cases x with
  |tmp t =>
   have Y:=(an t).resolve_right (λB=>B (f t rfl))
   simp only[rdU]
   split
   ·rename_i au A e
    split
    ·rename_i O
     have:=Y.1 _ e (t0a O ag)
     have g:O2 st be oe A (a.tmps.getD t undef):=this
     have s:=G.rdA (O2.fr (st:=st) (fr:=[]) g)
     have p:rdA { st with fr:=[] } A=rdA st A:=by obtain⟨n,fr,bx,ow⟩:=st;cases A<;>rfl
     rw[p]at s
     exact O2.fr (st := { st with fr:=[] }) (fr:=st.fr) s
    ·trivial
   ·trivial
   ·rename_i e
    have g:=Y.2 e
    have s:=G.rdA (O2.fr (st:=st) (fr:=[]) g)
    have p:rdA { st with fr:=[] } (J3 st.fr t)=rdA st (J3 st.fr t):=by obtain⟨n,fr,bx,ow⟩:=st;cases J3 fr t<;>rfl
    rw[p]at s
    exact O2.fr (st := { st with fr:=[] }) (fr:=st.fr) s
  |const v=>exact rfl
  |global v=>trivial
  |func v=>exact rfl
 have done:∀ {v:Value},(∀ l,(execOp a.eval o).run P l = .ok (.value v) l ∨ ¬ Vis H l)->O2 st be oe av v->o.wp P a w (λE l=>∃ v be' oe' C,E=a.put o.dst v/\(∃ fr,Sim P h0 w0 be' oe' C { st with fr:=fr } h a l)/\A8 st be oe st be' oe'/\O2 st be' oe' av v) Q:=λ{v} m g =>
  U9 ((m w).resolve_right λB=>B G.mv.vis) ⟨v,be,oe,H,rfl,⟨[],G⟩,A8.refl _ _ _,g⟩
 unfold R0a at c
 split at c
 ·rename_i x f
  have g:=rd x ch z (λt e=>by rw[f];simp[Op.operands,e])
  refine done (v:=a.eval x) (λl => .inl (by unfold execOp;rw[f];rfl)) ?_
  revert c
  cases m:rdU L st ch x<;>intro c<;>first|(cases c;done)|(cases c;rw[m]at g;exact g)
 ·rename_i x f
  have g:=rd x ch z (λt e=>by rw[f];simp[Op.operands,e])
  refine done (v:=a.eval x) (λl => .inl (by unfold execOp;rw[f];rfl)) ?_
  revert c
  cases m:rdU L st ch x<;>intro c<;>first|(cases c;done)|(cases c;rw[m]at g;exact g)
 ·rename_i t x f
  have g:=rd x ch z (λt e=>by rw[f];simp[Op.operands,e])
  split at c
  ·rename_i i off m
   rw[m]at g
   split at c
   ·rename_i cs ty B
    have ap:∃ u,x = .tmp u:=by
     cases x with
     |tmp u=>exact⟨u,rfl⟩
     |const v=>simp[rdU,rdO]at m
     |global v=>simp[rdU,rdO]at m
     |func v=>simp[rdU,rdO]at m
    obtain⟨u,rfl⟩:=ap
    have ah:k00 P o { st with fr:=[(u,.box i off)] } h λS st' ae=>S=av/\st' = { st with fr:=[(u,.box i off)] }/\ae=h:=by
     have al:rdO { st with fr:=[(u,.box i off)] } (.tmp u) = .box i off:=by
      show rdA _ (J3 [(u,AV.box i off)] u)=_
      rw[j4,if_pos rfl]
      simp only[rdA,B]
     simp only[k00,f,al,B]
     grind[E0f,j06,q0j,j7]
    have s1:=T (fr:=[(u,.box i off)]) (λaA=>by
     rw[j4]
     split
     ·rename_i e;subst e;exact g
     ·trivial)
    refine Oper.wp_mono (λE l f=>?_) (i01 s1 ah)
    obtain⟨S,st',aw,v,be',oe',C,⟨J,p,ac⟩,af,s2,s,F⟩:=f
    rw[p,ac]at s2
    rw[J,p]at s
    rw[p]at F
    exact⟨v,be',oe',C,af,⟨_,s2⟩,⟨F.bl,F.be,F.sm⟩,O2.fr (st := { st with fr:=[(u,.box i off)] }) (fr:=st.fr) s⟩
   ·cases c
  ·cases c
 ·rename_i t x k f
  have g:=rd x ch z (λt e=>by rw[f];simp[Op.operands,e])
  split at c
  ·rename_i i off K m X
   rw[m]at g
   cases c
   refine done (v:=ptr (be i) (off+K)) (λl=>?_) ⟨g.1,rfl⟩
   by_cases hvis:Vis H l
   ·exact .inl (R.run_of (R.exec_fieldAddr (H:=H) f X g.2) l hvis)
   ·exact .inr hvis
  ·rename_i sl j sz ar K m X
   rw[m]at g
   cases c
   obtain⟨b,Z,n,ab,J,p⟩:=g
   refine done (v:=ptr b (Z+(j.toNat*sz+ar)+K)) (λl=>?_) ⟨b,Z,n,ab,J,by simp[Nat.add_assoc]⟩
   grind[Vis,R.run_of,R.exec_fieldAddr]
  ·cases c
 ·rename_i aa x y f
  have g:=rd (.tmp aa) ch z (λt e=>by rw[f];cases e;simp[Op.operands])
  split at c
  ·rename_i e q O ak
   rw[O]at g
   have ad:a.eval (.tmp aa) = .bool e:=g
   split at c
   ·rename_i am
    obtain⟨aj,ay⟩:=q0d ak
    have V:=t0a am z
    have W:q.e=e:=by
     grind[rdU,bool,Go.H.rdA]
    have U:=ai q aj
    split at c
    ·rename_i bx by_ ao aq
     cases c
     refine done (v := .bool (cond e bx by_)) (λl => .inl ?_) rfl
     unfold execOp;rw[f]
     simp only[ad,Sem.run_bind,asBool,Sem.run_pure,Result.andThen_ok]
     cases e with
     |true =>
      have N:cB bs ((q.j,true)::q.ch)=some true:=by
       rw[X05,U,V];simp[lit,W]
      have D:=rd x _ N (λt e=>by rw[f];simp[Op.operands,e])
      rw[ao]at D
      have M:a.eval x = .bool bx:=D
      simp[M]
     |false =>
      have N:cB bs ((q.j,false)::q.ch)=some true:=by
       rw[X05,U,V];simp[lit,W]
      have D:=rd y _ N (λt e=>by rw[f];simp[Op.operands,e])
      rw[aq]at D
      have M:a.eval y = .bool by_:=D
      simp[M]
    ·cases c
   ·cases c
  ·cases c
 ·cases c
theorem Sim.untail{st:St}{t:List Own}(c:Sim P h0 w0 be oe H { st with ow:=st.ow++t } h a w)(hf:∀ u,O2 st be oe (J3 st.fr u) (a.tmps.getD u undef))
  (m:∀ i cs ty,nth st.bx i=some (.live cs ty)->∃ vs,M2 st oe cs vs/\H (be i)=some (.cells vs.toArray ty (0,0))):Sim P h0 w0 be oe H st h a w:=by
 have up:∀ i o,nth st.ow i=some o->nth (st.ow++t) i=some o:=λi o b=>by
  grind[q06,List.getElem?_append_left,List.getElem?_eq_some_iff]
 refine⟨c.mv,c.sub,λi cs ty b=>⟨(c.box i cs ty b).1,m i cs ty b⟩,c.pub,λi f e sz by_ nn xs b=>c.own i f e sz by_ nn xs (up i _ b),λi f v b=>c.frz i f v (up i _ b),c.bb,
  λi j s1 e sz by_ nn xs s2 l p k n q g b d=>c.oo i j s1 e sz by_ nn xs s2 l p k n q g (up i _ b) (up j _ d),λi cs ty j s1 e sz by_ nn xs b d=>c.bo i cs ty j s1 e sz by_ nn xs b (up j _ d),c.dfr,c.siz,hf⟩
def p0b(P:Program)(h0:Hp)(w0:World)(ops:Array Oper)(st:St)(h:Hp)(A:Asg)(sk:Nat->Bool)(kp:List (Nat×Value))(listed:Array Bool)(a:Act)(w:World):Prop :=
 ∃ be oe H b,Sub h b/\Sim P h0 w0 be oe H { st with fr:=I4 ops.toList st.fr } b a w/\(∀ p∈kp,a.tmps.getD p.1 undef=p.2) /\
  ∀ j o d,sk j=false->ops[j]?=some o->o.dst=some d->listed.getD j false=true->((A j).2.1=true->v07 st be oe b (A j).2.2 (a.tmps.getD d undef))/\((A j).2.1=false->a.tmps.getD d undef=undef)
theorem J0s{st st':St}(t:c0n st st'):∃ r,st' = { st with ow:=st.ow++r }:=by
 obtain⟨n,fr,bx,ow⟩:=st
 obtain⟨g,b,a,h⟩:=st'
 obtain⟨c,d,e,r,f⟩:=t
 grind
theorem K0s{b:Type}{l r:List b}{i:Nat}(a:i<l.length):nth (l++r) i=nth l i:=by
 rw[q06,q06,List.getElem?_append_left a]
theorem l0i{st:St}{r:List Own}{i a:Nat}(b:stamp st i=some a):stamp { st with ow:=st.ow++r } i=some a:=by
 grind[stamp,nth,K0s,f03]
theorem m0t{ops:Array Oper}{st:St}{A:Asg}{sk:Nat->Bool}{kp:List (Nat×Value)}{bi:FL}{aj:List BE}{listed:Array Bool}{j:Nat}{o:Oper}{Q:Exit->Act->World->Prop}
  (bv:∀(i j:Nat) (f a2:Oper) (d:Nat),ops.toList[i]?=some f->ops.toList[j]?=some a2->f.dst=some d->a2.dst=some d->i=j)
  (al:∀ o∈ops.toList,∀ d,o.dst=some d->d<st.n)
  (bu:∀(k:Nat) (o:Oper),ops.toList[k]?=some o->∀ e∈o.after,Region.binds .any e=true->e.on<k)
  (aR:∀ o∈ops.toList,∀ t,Operand.tmp t∈o.op.operands->∀(i:Nat) (f:Oper),ops.toList[i]?=some f->f.dst=some t->∃ e∈o.after,Region.binds .any e=true/\e.on=i)
  (bH:∀ o∈ops.toList,∀ i w,o.guard=some (i,w)->h01 i o=true)
  (ar:K0h ops.toList A bi aj ops.toList.length)
  (aP:∀ j o,ops.toList[j]?=some o->∃ T D,q01 aj o.guard=some (A j).1/\K0h ops.toList A T D j/\I0a D aj/\cB D (A j).1=some (A j).2.1/\(OpU P st h T D o (A j).1 (A j).2.1 (A j).2.2/\∀ av,R0a P T D (A j).1 o st=some av->(A j).2.2 = .pu av))
  (ce:sk j=false) (cg:∀(i:Nat) (f:Oper) (d:Nat),ops.toList[i]?=some f->f.dst=some d->sk i=true->∀ C∈ops.toList,Operand.tmp d ∉ C.op.operands)
  (bR:∀ i,sk i=true->(A i).2.2 = .pu (.val undef)) (cf:∀ p∈kp,∃(i:Nat) (f:Oper),ops.toList[i]?=some f/\f.dst=some p.1/\sk i=true)
  (aT:ops[j]?=some o) (aV:∀ e∈o.after,Region.binds .any e=true->listed.getD e.on false=true) (ah:p0b P h0 w0 ops st h A sk kp listed a w) :
  (Region.wanted o (yielded ops a.tmps)=true->o.wp P a w (p0b P h0 w0 ops st h A sk kp (listed.setIfInBounds j true)) Q) /\
  (Region.wanted o (yielded ops a.tmps)=false->p0b P h0 w0 ops st h A sk kp (listed.setIfInBounds j true) (a.put o.dst undef) w):=by
 obtain⟨be,oe,H,Z,aF,ad,keep,az⟩:=ah
 have am:ops.toList[j]?=some o:=by simpa using aT
 have ak:o∈ops.toList:=List.mem_of_getElem? am
 have aS:j<ops.toList.length:=(List.getElem?_eq_some_iff.1 am).1
 obtain⟨T,D,ab,W,bV,au,L,_⟩:=aP j o am
 have ag:cB aj (A j).1=some (A j).2.1:=ar.p3 j aS aS
 have aY:Region.wanted o (yielded ops a.tmps)=(A j).2.1:=by
  unfold Region.wanted
  cases hg:o.guard with
  |none =>
   rw[hg]at ab
   cases hch':(A j).1 with
   |nil=>rw[hch']at ag;exact oJ ag
   |cons p q=>rw[hch']at ab;cases ab
  |some p =>
   obtain⟨i,aL⟩:=p
   rw[hg]at ab
   simp only[q01]at ab
   split at ab
   ·rename_i b J
    obtain⟨bL,rfl⟩:=c05 J
    obtain⟨E,⟨C,s,N⟩,ao,af⟩:=ar.p4 b bL
    have aD:listed.getD b.j false=true:=by
     obtain⟨e,R,bA,an⟩:=L9 (bH o ak b.j aL hg)
     rw[←an];exact aV e R bA
    have bQ:sk b.j=false:=by
     cases e:sk b.j with
     |false=>rfl
     |true=>rw[bR b.j e]at af;cases af
    have hf:=az b.j C b.d bQ (by simpa using s) N aD
    have aQ:=ar.p3 b.j E E
    rw[ao]at aQ
    have ac:b.d<a.tmps.size:=by rw[ad.siz];exact al C (List.mem_of_getElem? s) b.d N
    have aH:a.tmps[b.d]?=some (if(A b.j).2.1=true then .bool b.e else undef):=by
     rw[Array.getElem?_eq_getElem ac]
     have bI:a.tmps.getD b.d undef=a.tmps[b.d]:=by simp[ac]
     cases K:(A b.j).2.1 with
     |true =>
      have:=hf.1 K
      rw[af,bI]at this
      have I:a.tmps[b.d] = .bool b.e:=this
      rw[I];rfl
     |false =>
      grind
    have aJ:yielded ops a.tmps b.j=if(A b.j).2.1=true then some b.e else none:=by
     unfold yielded
     have:ops[b.j]?=some C:=by simpa using s
     simp only[this,N,oB,aH]
     cases (A b.j).2.1<;>rfl
    have bE:(A j).1=(b.j,aL)::b.ch:=by
     grind
    rw[bE,X05,J,aQ]at ag
    simp only[Option.some.injEq]at ag
    simp only[aJ,←ag]
    cases (A b.j).2.1<;>cases aL<;>cases b.e<;>rfl
   ·cases ab
 have b3:∀ i f,ops.toList[i]?=some f->∀ F,(A i).2.2 = .ef F->∀ v G I,Sub G I->F v G->F v I:=λi f aw F bz=>by
  obtain⟨b4,b7,_,_,_,_,aU,_⟩:=aP i f aw
  rw[bz]at aU
  exact aU.1
 have fin:∀ {fr:List (Nat×AV)} {ae:Act} {S:World} {O:Hp} {be':Nat->Nat} {oe':Nat->Value} {M:Hp} {v:Value},Sub Z O->ae=a.put o.dst v->Sim P h0 w0 be' oe' M { st with fr:=fr } O a S ->
   A8 st be oe st be' oe'->((A j).2.1=true->v07 st be' oe' O (A j).2.2 v)->((A j).2.1=false->v=undef)->p0b P h0 w0 ops st h A sk kp (listed.setIfInBounds j true) ae S:=by
  intro fr ae S O be' oe' M v aX aa b0 ap aH bS
  subst aa
  have br:A8 { st with fr:=I4 ops.toList st.fr } be oe { st with fr:=I4 ops.toList st.fr } be' oe':=⟨ap.bl,ap.be,ap.sm⟩
  have s1:Sim P h0 w0 be' oe' M { st with fr:=I4 ops.toList st.fr } O a S :=
   b0.refr (fr:=I4 ops.toList st.fr) λt=>O2.fr (st := { st with fr:=I4 ops.toList st.fr }) ((ad.fr t).grow br)
  have s2:Sim P h0 w0 be' oe' M { st with fr:=I4 ops.toList st.fr } O (a.put o.dst v) S:=by
   cases V:o.dst with
   |none=>exact s1
   |some d =>
    have aE:=s1.put (d:=d) (av := .dead) (v:=v) (al o ak d V) trivial
    refine aE.refr (fr:=I4 ops.toList st.fr) λt=>?_
    have g:=aE.fr t
    grind[j4,F03]
  have cq:∀ d,o.dst≠some d->(a.put o.dst v).tmps.getD d undef=a.tmps.getD d undef:=λd V=>by
   cases aC:o.dst with
   |none=>rfl
   |some U=>simp[Act.put,Array.getElem?_setIfInBounds_ne (λe=>V (by rw[aC,e]):U≠d)]
  refine⟨be',oe',M,O,λb x J=>aX b x (aF b x J),s2,λp aE=>?_,λi f d aG G I aO=>?_⟩
  ·grind
  by_cases hij:j=i
  ·subst hij
   rw[aT]at G;cases G
   have ac:d<a.tmps.size:=by rw[ad.siz];exact al o ak d I
   have:(a.put o.dst v).tmps.getD d undef=v:=by
    rw[I]
    simp[Act.put,ac]
   rw[this]
   exact⟨aH,bS⟩
  ·have bK:listed.getD i false=true:=by rw[getD_set_ne false hij]at aO;exact aO
   have bN:∀ U,o.dst=some U->U≠d:=λU aC e=>by
    subst e
    exact hij (bv j i o f U am (by simpa using G) aC I)
   have:(a.put o.dst v).tmps.getD d undef=a.tmps.getD d undef:=by
    cases V:o.dst with
    |none=>rfl
    |some U=>simp[Act.put,Array.getElem?_setIfInBounds_ne (bN U V)]
   rw[this]
   obtain⟨ai,bW⟩:=az i f d aG G I bK
   refine⟨λK=>?_,bW⟩
   have ai:=ai K
   cases hA:(A i).2.2 with
   |pu av=>rw[hA]at ai;exact O2.grow ap ai
   |ef F=>rw[hA]at ai;exact b3 i f (by simpa using G) F hA _ _ _ aX ai
 refine⟨λbU=>?_,λbT=>?_⟩
 rotate_left
 ·have K:(A j).2.1=false:=by rw[←aY];exact bT
  exact fin (fr:=I4 ops.toList st.fr) (λ_ _ h=>h) rfl ad (A8.refl _ _ _) (λh=>by rw[K]at h;cases h) (λ_=>rfl)
 have K:(A j).2.1=true:=by rw[←aY];exact bU
 rw[K]at au L
 have cd:cB aj (A j).1=some true:=by rw[ag,K]
 have b2:∀ t x,W04 T t=some x->K0j st be oe Z D x (a.tmps.getD t undef)∨Operand.tmp t ∉ o.op.operands:=λt x m=>by
  by_cases B:Operand.tmp t∈o.op.operands
  ·refine .inl λbG=>?_
   obtain⟨i,f,E,s,N,ao,af⟩:=W.p1 t x (f06 m)
   obtain⟨e,R,J,an⟩:=aR o ak t B i f s N
   have aD:listed.getD i false=true:=by rw[←an];exact aV e R J
   have bF:(A i).2.1=true:=by
    have G:=ar.p3 i (List.getElem?_eq_some_iff.1 s).1 (List.getElem?_eq_some_iff.1 s).1
    rw[ao,bV.c _ _ bG]at G
    exact(oJ G).symm
   have aG:sk i=false:=by
    grind
   have:=(az i f t aG (by simpa using s) N aD).1 bF
   rwa [af]at this
  ·exact .inr B
 have bq:∀ t,Operand.tmp t∈o.op.operands->W04 T t=none->O2 st be oe (J3 st.fr t) (a.tmps.getD t undef):=λt B bO=>by
  have g:=ad.fr t
  have bM:J3 (I4 ops.toList st.fr) t=J3 st.fr t:=x02 λC bP V=>by
   obtain⟨i,ah,e⟩:=List.getElem_of_mem bP
   have aw:ops.toList[i]?=some C:=by rw[List.getElem?_eq_getElem ah,e]
   obtain⟨bp,R,J,an⟩:=aR o ak t B i C aw V
   have ac:=bu j o am bp R J
   rw[an]at ac
   obtain⟨x,m⟩:=W.p2 i C t ac aw V
   rw[bO]at m;cases m
  rw[←bM]
  exact O2.fr (st := { st with fr:=I4 ops.toList st.fr }) (fr:=st.fr) g
 have a3:∀ t,Operand.tmp t∈o.op.operands->(∀ x,W04 T t=some x->K0j st be oe Z D x (a.tmps.getD t undef))/\(W04 T t=none->O2 st be oe (J3 st.fr t) (a.tmps.getD t undef)):=λt B =>
  ⟨λx m=>(b2 t x m).resolve_right λal=>al B,bq t B⟩
 have mk:∀ {fr:List (Nat×AV)},(∀ t,O2 st be oe (J3 fr t) (a.tmps.getD t undef))->Sim P h0 w0 be oe H { st with fr:=fr } Z a w:=λ{fr} g=>ad.refr (fr:=fr) λt=>O2.fr (g t)
 cases hA:(A j).2.2 with
 |pu av =>
  rw[hA]at L
  rcases L with L|L
  ·refine Oper.wp_mono (λae S m=>?_) (g0r (be:=be) (oe:=oe) (H:=H) (h:=Z) L au (λt=>?_) (λx m y aJ=>?_) (λx m=>?_) (λx m=>?_) mk)
   ·obtain⟨v,be',oe',M,aa,⟨fr,s2⟩,Y,s⟩:=m
    exact fin (λ_ _ h=>h) aa s2 Y (λ_=>by rw[hA];exact s) (λh=>by rw[K]at h;cases h)
   ·grind
   ·obtain⟨E,⟨C,s,N⟩,ao,af⟩:=W.p4 x m
    obtain⟨i,f,a0,a1,ci,cj,ck⟩:=W.p1 x.d y (f06 aJ)
    grind
   ·have aK:∀(l:List BE),x∈l->∃ b,q04 l x.j=some b:=by
     intro l
     induction l with
     |nil=>intro h;cases h
     |cons z l aZ =>
      intro h
      simp only[q04]
      split
      ·exact⟨_,rfl⟩
      grind[absurd,Nat.ne_of_beq_eq_false]
    obtain⟨b,J⟩:=aK D m
    obtain⟨bC,bB⟩:=c05 J
    obtain⟨_,⟨cl,ax,aM⟩,aN,ay⟩:=W.p4 b bC
    obtain⟨_,⟨cm,bk,bm⟩,bn,bo⟩:=W.p4 x m
    rw[bB]at ax aN ay
    rw[bk]at ax;cases ax
    rw[bm]at aM
    rw[bo]at ay
    have ca:x.d=b.d:=by simpa using aM
    have cb:x.ch=b.ch:=bn.symm.trans aN
    have cc:x.e=b.e:=by simpa using ay
    rw[J]
    obtain⟨b8,b6,be',b5⟩:=b
    obtain⟨cx,cv,cw,cu⟩:=x
    grind
   ·obtain⟨E,⟨C,s,N⟩,_,_⟩:=W.p4 x m
    exact W.p2 x.j C x.d E s N
  ·obtain⟨fr,R,g⟩:=j03 (acc:=[]) (be:=be) (oe:=oe) (val:=λt=>a.tmps.getD t undef) au (λt=>trivial) (λt B=>a3 t (by simpa using B)) (u09 (bs:=D) (L Z aF) rfl)
   refine Oper.wp_mono (λae S m=>?_) (i01 (mk g) R)
   obtain⟨bj,st',O,v,be',oe',M,⟨rfl,rfl,rfl⟩,aa,s2,s,Y⟩:=m
   exact fin (λ_ _ h=>h) aa s2 ⟨Y.bl,Y.be,Y.sm⟩ (λ_=>by rw[hA];exact O2.fr (st := { st with fr:=fr }) (fr:=st.fr) s) (λh=>by rw[K]at h;cases h)
 |ef F =>
  rw[hA]at L
  obtain⟨_,L⟩:=L
  obtain⟨fr,R,g⟩:=j03 (acc:=[]) (be:=be) (oe:=oe) (val:=λt=>a.tmps.getD t undef) au (λt=>trivial) (λt B=>a3 t (by simpa using B)) (u09 (bs:=D) (L Z aF) rfl)
  refine Oper.wp_mono (λae S m=>?_) (j0l (mk g) R)
  obtain⟨bj,st',O,v,be',oe',M,bJ,aa,s2,s,Y⟩:=m
  obtain⟨co,I,⟨B,a0,a1⟩,bg,bt⟩:=s04 s2 s bJ
  obtain⟨r,rfl⟩:=J0s B
  have aq:A8 st be oe st be' oe':=by
   have aB:=Y.trans bt
   refine⟨aB.bl,aB.be,λi bf aW=>?_⟩
   obtain⟨s1,a4,cn,ba⟩:=aB.sm i bf aW
   have bb:stamp { n:=st.n,fr:=fr,bx:=st.bx,ow:=st.ow++r } i=some bf:=l0i (st := { st with fr:=fr }) aW
   grind
  have bD:∀ i cs ty,nth st.bx i=some (.live cs ty)->∃ vs,M2 { st with fr:=fr } oe' cs vs/\M (be' i)=some (.cells vs.toArray ty (0,0)):=λi cs ty ah=>by
   obtain⟨_,X,a4,_⟩:=ad.box i cs ty ah
   obtain⟨_,vs,ba,bb⟩:=bg.box i cs ty ah
   refine⟨vs,?_,bb⟩
   have aK:∀(cs:List P6) (X vs:List Value),M2 { st with fr:=I4 ops.toList st.fr } oe cs X->M2 { n:=st.n,fr:=fr,bx:=st.bx,ow:=st.ow++r } oe' cs vs->M2 { st with fr:=fr } oe' cs vs:=by
    intro cs
    induction cs with
    |nil=>intro X vs _ g;cases vs with
     |nil=>trivial
     |cons v vs=>exact g.elim
    |cons c cs aZ =>
     intro X vs aA E
     cases X with
     |nil=>exact aA.elim
     |cons cr X =>
      cases vs with
      |nil=>exact E.elim
      |cons ct vs =>
       refine⟨?_,aZ X vs aA.2 E.2⟩
       cases c with
       |val x=>exact E.1
       |own k s1 =>
        obtain⟨bh,bc,_,_⟩:=aA.1
        obtain⟨cp,bd,bX,bY⟩:=E.1
        have bZ:stamp { n:=st.n,fr:=fr,bx:=st.bx,ow:=st.ow++r } k=some bh:=l0i (st := { st with fr:=fr }) bc
        rw[bZ]at bd
        cases bd
        exact⟨bh,bc,bX,bY⟩
   exact aK cs X vs a4 ba
  have b1:Sim P h0 w0 be' oe' M { st with fr:=fr } I a S:=Sim.untail (st := { st with fr:=fr }) (t:=r) bg (λu=>O2.grow (st := { st with fr:=fr }) (st' := { st with fr:=fr }) ⟨aq.bl,aq.be,aq.sm⟩ (O2.fr (g u))) bD
  exact fin (fr:=fr) a0 aa b1 aq (λ_=>by rw[hA];exact a1) (λh=>by rw[K]at h;cases h)
theorem p0b.start{ops:Array Oper}{st:St}{A:Asg}{sk:Nat->Bool}(f:Sim P h0 w0 be oe H st h a w):p0b P h0 w0 ops st h A sk [] (Array.replicate ops.size false) a w:=by
 refine⟨be,oe,H,h,λ_ _ h=>h,f.refr (fr:=I4 ops.toList st.fr) λt=>?_,λp k=>(by cases k),λj o d _ c e b=>?_⟩
 ·by_cases hx:∃ o∈ops.toList,o.dst=some t
  ·obtain⟨o,c,e⟩:=hx
   rw[F03 c e]
   trivial
  ·rw[x02 λo i g=>hx ⟨o,i,g⟩]
   exact f.fr t
 ·simp[Array.getElem?_replicate]at b
  split at b<;>cases b
theorem p0o{ops:Array Oper}{st:St}{A:Asg}{sk:Nat->Bool}{kp:List (Nat×Value)}{s:FL}{D:List BE}{K:St->Hp->Prop}{listed:Array Bool}
  (T:∀ i,sk i=true->(A i).2.2 = .pu (.val undef)) (Y:∀(i j:Nat) (b C:Oper) (d:Nat),ops.toList[i]?=some b->ops.toList[j]?=some C->b.dst=some d->C.dst=some d->i=j)
  (f:K0h ops.toList A s D ops.toList.length) (N:∀ c,Sub h c->G0h c s st.fr λfr=>K { st with fr:=fr } c) (ab:∀ j,j<ops.size->listed.getD j false=true)
  (l:p0b P h0 w0 ops st h A sk kp listed a w):∃ be oe H c fr,K { st with fr:=fr } c/\Sim P h0 w0 be oe H { st with fr:=I4 ops.toList st.fr } c a w/\(∀ p∈kp,a.tmps.getD p.1 undef=p.2) /\
   ∀ t,(∀(i:Nat) (b:Oper),ops.toList[i]?=some b->b.dst=some t->sk i=false)->O2 st be oe (J3 fr t) (a.tmps.getD t undef):=by
 obtain⟨be,oe,H,c,S,W,keep,X⟩:=l
 have M:∀ t,(∃(i:Nat) (b:Oper),ops.toList[i]?=some b/\b.dst=some t/\sk i=true) ∨ ¬ ∃(i:Nat) (b:Oper),ops.toList[i]?=some b/\b.dst=some t/\sk i=true:=λt=>Classical.em _
 have m:∃ val:Nat->Value,∀ t,((∃(i:Nat) (b:Oper),ops.toList[i]?=some b/\b.dst=some t/\sk i=true)->val t=undef)/\((¬ ∃(i:Nat) (b:Oper),ops.toList[i]?=some b/\b.dst=some t/\sk i=true)->val t=a.tmps.getD t undef) :=
  Classical.axiomOfChoice (r:=λt v=>((∃(i:Nat) (b:Oper),ops.toList[i]?=some b/\b.dst=some t/\sk i=true)->v=undef)/\((¬ ∃(i:Nat) (b:Oper),ops.toList[i]?=some b/\b.dst=some t/\sk i=true)->v=a.tmps.getD t undef)) λt=>by
   rcases M t with h|h
   ·exact⟨undef,λ_=>rfl,λn=>absurd h n⟩
   grind
 obtain⟨val,m⟩:=m
 obtain⟨fr,aa,g⟩:=k0i (st:=st) (be:=be) (oe:=oe) (val:=val) (λp R J=>by
  obtain⟨t,x⟩:=p
  obtain⟨i,b,h0,E,F,G,I⟩:=f.p1 t x R
  cases hsk:sk i with
  |true =>
   have e:=(m t).1 ⟨i,b,E,F,hsk⟩
   have u:=T i hsk
   rw[I]at u
   show v07 st be oe c x.2 (val t)
   rw[u,e];exact rfl
  |false =>
  have y : ¬ ∃(i:Nat) (b:Oper),ops.toList[i]?=some b/\b.dst=some t/\sk i=true:=λ⟨k,ok,q,B,U⟩=>by
   grind
  have Z:(A i).2.1=true:=by
   have:=f.p3 i h0 h0
   rw[G,show x.1 = [] from J]at this
   exact(oJ this).symm
  grind) (λt z=>by
  have y : ¬ ∃(i:Nat) (b:Oper),ops.toList[i]?=some b/\b.dst=some t/\sk i=true:=λ⟨k,ok,q,B,U⟩=>by
   obtain⟨x,o⟩:=f.p2 k ok t (List.getElem?_eq_some_iff.1 q).1 q B
   exact z x (f06 o)
  rw[(m t).2 y]
  have O:J3 (I4 ops.toList st.fr) t=J3 st.fr t:=x02 λV Q L=>by
   obtain⟨i,l,e⟩:=List.getElem_of_mem Q
   obtain⟨x,o⟩:=f.p2 i V t l (by rw[List.getElem?_eq_getElem l,e]) L
   exact z x (f06 o)
  have:=W.fr t
  rw[O]at this
  exact O2.fr (st := { st with fr:=I4 ops.toList st.fr }) (fr:=st.fr) this) (N c S)
 grind
theorem C08:∀ {l:List Oper},o0f l=true->∀ o∈l,∀ i w,o.guard=some (i,w)->h01 i o=true
 | [],h,o,a=>by cases a
 |y::r,h,o,a=>by
  simp only[o0f,Bool.and_eq_true]at h
  rcases List.mem_cons.1 a with rfl|a
  ·grind
  ·exact C08 h.2 o a
theorem w0u{ops:Array Oper}{Q:Exit->Act->World->Prop}{Inv:Array Bool->Act->World->Prop}(hB:∀(k:Nat) (o:Oper),ops.toList[k]?=some o->∀ e∈o.after,Region.binds .any e=true->e.on<k)
  (hstep:∀ listed a w j o,ops[j]?=some o->(∀ e∈o.after,Region.binds .any e=true->listed.getD e.on false=true)->Inv listed a w ->
   (Region.wanted o (yielded ops a.tmps)=true->o.wp P a w (Inv (listed.setIfInBounds j true)) Q)/\(Region.wanted o (yielded ops a.tmps)=false->Inv (listed.setIfInBounds j true) (a.put o.dst undef) w))
  (hQ:∀ listed a w,(∀ j,j<ops.size->listed.getD j false=true)->Inv listed a w->Q .normal a w) :
  ∀(fuel:Nat) (listed:Array Bool) (a:Act) (w:World),listed.size=ops.size->listed.toList.count true+fuel=ops.size->Inv listed a w->wpAny P .any ops Q fuel listed a w
 |0,listed,a,w,hsz,hc,hi=>by
  have hall':∀ j,j<ops.size->listed.getD j false=true:=λj hj=>by
   have h1:∀ b∈listed.toList,true=b:=List.count_eq_length.1 (by grind)
   have hlt:j<listed.size:=by omega
   have:=h1 listed[j] (by simp)
   simp[hlt,←this]
  refine⟨?_,hQ listed a w hall' hi⟩
  simp_all[Region.ready,List.mem_cons_self,mem_ready,Array.getElem?_eq_some_iff]
 |fuel+1,listed,a,w,hsz,hc,hi=>by
  refine⟨λhr=>hQ listed a w (s0d hB hsz hr) hi,λj hj=>?_⟩
  obtain⟨h1,o,h2,h3⟩:=mem_ready.1 hj
  unfold wpOp
  simp only[h2]
  obtain⟨ht,hf⟩:=hstep listed a w j o h2 h3 hi
  have next:∀ a' w',Inv (listed.setIfInBounds j true) a' w'->wpAny P .any ops Q fuel (listed.setIfInBounds j true) a' w':=λa' w' hi'=>w0u hB hstep hQ fuel _ a' w' (by simpa using hsz) (by rw[count_set h1];omega) hi'
  cases hw:Region.wanted o (yielded ops a.tmps)with
  |true =>
   rw[if_pos rfl]
   exact .inl (Oper.wp_mono next (ht hw))
  |false =>
   grind
theorem n0t{ops:Array Oper}{Q:Exit->Act->World->Prop}{Inv:Array Bool->Act->World->Prop}(hB:∀(k:Nat) (o:Oper),ops.toList[k]?=some o->∀ e∈o.after,Region.binds .any e=true->e.on<k)
  (hstep:∀ listed a w j o,ops[j]?=some o->(∀ e∈o.after,Region.binds .any e=true->listed.getD e.on false=true)->Inv listed a w ->
   (Region.wanted o (yielded ops a.tmps)=true->o.wp P a w (Inv (listed.setIfInBounds j true)) Q)/\(Region.wanted o (yielded ops a.tmps)=false->Inv (listed.setIfInBounds j true) (a.put o.dst undef) w))
  (hQ:∀ listed a w,(∀ j,j<ops.size->listed.getD j false=true)->Inv listed a w->Q .normal a w) :
  ∀(l:List Oper) (k:Nat) (listed:Array Bool) (a:Act) (w:World),(∀ j,l[j]?=ops.toList[k+j]?)->k+l.length=ops.size->listed.size=ops.size->(∀ j,j<k->listed.getD j false=true)->Inv listed a w->wpList P ops Q l a w
 | [],k,listed,a,w,hl,hk,hsz,hp,hi=>hQ listed a w (λj hj=>hp j (by simp at hk;omega)) hi
 |o::l,k,listed,a,w,hl,hk,hsz,hp,hi=>by
  have ho:ops.toList[k]?=some o:=by simpa using (hl 0).symm
  have hl':∀ j,l[j]?=ops.toList[k+1+j]?:=λj=>by have:=hl (j+1);grind
  obtain⟨ht,hf⟩:=hstep listed a w k o (by simpa using ho) (λe he hb=>hp _ (hB k o ho e he hb)) hi
  have next:∀ a' w',Inv (listed.setIfInBounds k true) a' w'->wpList P ops Q l a' w':=λa' w' hi' =>
   n0t hB hstep hQ l (k+1) _ a' w' hl' (by grind) (by simpa using hsz) (λj hj=>by
    by_cases e:k=j
    ·subst e
     have:k<listed.size:=by grind
     simp[this]
    ·rw[getD_set_ne false e];exact hp j (by omega)) hi'
  unfold wpList
  cases hw:Region.wanted o (yielded ops a.tmps)with
  |true =>
   rw[if_pos rfl]
   exact .inl (Oper.wp_mono next (ht hw))
  |false =>
   grind
theorem k0l{ops:Array Oper}{st:St}{K:St->Hp->Prop}{Q:Exit->Act->World->Prop}(hb:l05 st.n ops.toList=true)(he:evU P ops.toList 0 [] [] st h K)
  (hQ:∀ a w st h be oe H,K st h->Sim P h0 w0 be oe H st h a w->Q .normal a w) :
  (∀ {be:Nat->Nat} {oe:Nat->Value} {H:Hp} {a:Act} {w:World},Sim P h0 w0 be oe H st h a w->wpAny P .any ops Q ops.size (Array.replicate ops.size false) a w) /\
  (∀ {be:Nat->Nat} {oe:Nat->Value} {H:Hp} {a:Act} {w:World},Sim P h0 w0 be oe H st h a w->wpList P ops Q ops.toList a w):=by
 simp only[l05,Z03,Bool.and_eq_true]at hb
 obtain⟨⟨⟨b1,b2⟩,b3⟩,b4⟩:=hb
 obtain⟨hn,hD⟩:=w06 b1
 have hB:∀(k:Nat) (o:Oper),ops.toList[k]?=some o->∀ e∈o.after,Region.binds .any e=true->e.on<k:=λk o hk e he' hb=>by
  have:=d05 b2 k o hk e he' hb
  omega
 have hdep:=A08 b3
 have hgd:=C08 b4
 obtain⟨A,Lf,Bf,_,_,hP,hall,hfin⟩:=Z0f (ops:=ops.toList) hD ops.toList 0 [] [] (λ_=>([],true,.pu .dead)) (λj=>by simp) (by simp)
  ⟨λt x h=>(by cases h),λi oi d hi=>by omega,λi hi=>by omega,λx hx=>(by cases hx)⟩ he
 have step:∀ listed a w j o,ops[j]?=some o->(∀ e∈o.after,Region.binds .any e=true->listed.getD e.on false=true)->p0b P h0 w0 ops st h A (λ_=>false) [] listed a w ->
   (Region.wanted o (yielded ops a.tmps)=true->o.wp P a w (p0b P h0 w0 ops st h A (λ_=>false) [] (listed.setIfInBounds j true)) Q)/\(Region.wanted o (yielded ops a.tmps)=false->p0b P h0 w0 ops st h A (λ_=>false) [] (listed.setIfInBounds j true) (a.put o.dst undef) w) :=
  λlisted a w j o h1 h2 h3=>m0t hD hn hB hdep hgd hP (λj o ho=>hall j o (Nat.zero_le _) ho) rfl (λ_ _ _ _ _ h=>nomatch h) (λ_ h=>nomatch h) (λ_ hp=>nomatch hp) h1 h2 h3
 have done:∀ listed a w,(∀ j,j<ops.size->listed.getD j false=true)->p0b P h0 w0 ops st h A (λ_=>false) [] listed a w->Q .normal a w:=λlisted a w hl hi=>by
  obtain⟨be,oe,H,h',fr,hk,s,_,g⟩:=p0o (sk:=λ_=>false) (λ_ h=>nomatch h) hD hP hfin hl hi
  exact hQ a w _ h' be oe H hk (s.refr (fr:=fr) λt=>O2.fr (g t λ_ _ _ _=>rfl))
 refine⟨λs=>?_,λs=>?_⟩
 ·exact w0u hB step done ops.size _ _ _ (by simp) (by simp[List.count_replicate]) (p0b.start s)
 ·exact n0t hB step done ops.toList 0 _ _ _ (λj=>by simp) (by simp) (by simp) (λj hj=>by omega) (p0b.start s)
end
end Go.H
namespace Go.H
set_option linter.unusedVariables false
set_option linter.unusedSimpArgs false
def B05(H:Hp):List (Nat×Obj)->Hp
 | []=>H
 |p::l=>(B05 H l).set p.1 p.2
theorem e05{H:Hp}{b:Nat}:∀ {l:List (Nat×Obj)},(∀ p∈l,p.1≠b)->B05 H l b=H b
 | [],_=>rfl
 |p::l,h=>by
  rw[B05,Hp.set_other _ _ λe=>h p mS e.symm]
  exact e05 λq a=>h q (mC _ a)
theorem x06{H:Hp}:∀ {l:List (Nat×Obj)},(l.map λp=>p.1).Nodup->∀ {p:Nat×Obj},p∈l->B05 H l p.1=some p.2
 | [],_,p,h=>nomatch h
 |q::l,a,p,h=>by
  rw[List.map_cons,List.nodup_cons]at a
  rcases List.mem_cons.1 h with rfl|h
  ·exact Hp.set_same _ _ _
  ·rw[B05,Hp.set_other _ _ λe=>a.1 (List.mem_map.2 ⟨p,h,e⟩)]
   exact x06 a.2 h
theorem x09{H:Hp}{l:List (Nat×Obj)}(b:Nat):(∃ p∈l,p.1=b)∨∀ p∈l,p.1≠b:=by
 grind
theorem a0g{a H:Hp}{f w:World}{l:List (Nat×Obj)}(k:Vis (B05 a l) f)(i:∀ p∈l,a p.1=none/\p.1<f.heap.size)(g:(l.map λp=>p.1).Nodup)(m:D3 a f H w):
  D3 (B05 a l) f (B05 H l) w:=by
 refine⟨m.os,m.tape,m.output,m.size,λb e j=>?_,λb o c=>?_,λb e=>?_,m.fz,m.dn⟩
 ·rcases x09 (H:=a) (l:=l) b with⟨p,d,rfl⟩|c
  ·grind[x06]
  ·rw[e05 c]at j;exact m.keep b e j
 ·rcases x09 (H:=a) (l:=l) b with⟨p,d,rfl⟩|h
  ·rw[x06 g d]at c;cases c
   rw[m.keep p.1 (i p d).2 (i p d).1]
   exact k p.1 _ (x06 g d)
  ·rw[e05 h]at c;exact m.vis b o c
 ·rcases x09 (H:=a) (l:=l) b with⟨p,d,rfl⟩|h
  ·grind[x06]
  ·rw[e05 h]at e ⊢
   exact m.fresh b e
section
variable {P:Program} {h0:Hp} {w0:World} {be:Nat->Nat} {oe:Nat->Value} {H:Hp} {h:Hp} {a:Act} {w:World}
theorem Sim.base{st:St}(b:Sim P h0 w0 be oe H st h a w){c:Hp}{e d:World}(m:D3 c e H d):Sim P c e be oe H st h a d :=
 ⟨m,b.sub,b.box,b.pub,b.own,b.frz,b.bb,b.oo,b.bo,b.dfr,b.siz,b.fr⟩
theorem Sim.more{st:St}(c:Sim P h0 w0 be oe H st h a w){l:List (Nat×Obj)}(v:∀ p∈l,H p.1=none){j:Hp}{n:World}(m:D3 j n (B05 H l) w):Sim P j n be oe (B05 H l) st h a w:=by
 have keep:∀ b,H b≠none->B05 H l b=H b:=λb d=>e05 λp x e=>d (by grind)
 refine⟨m,λb o d=>by rw[keep b (by rw[c.sub b o d];simp)];exact c.sub b o d,λi cs ty f=>?_,c.pub,λi k e sz by_ nn xs f=>?_,c.frz,c.bb,c.oo,c.bo,c.dfr,c.siz,c.fr⟩
 ·obtain⟨s,vs,t,u⟩:=c.box i cs ty f
  grind
 ·refine(c.own i k e sz by_ nn xs f).keep λg q=>?_
  obtain⟨y,_,_,_,z⟩:=(c.own i k e sz by_ nn xs f).block q
  grind
theorem Sim.claim{st:St}(c:Sim P h0 w0 be oe H st h a w){cs:List P6}{vs:List Value}{t:TypeId}{b:Nat}(D:M2 st oe cs vs)(C:H b=some (.cells vs.toArray t (0,0)))(E:h b=none)
  (J:∀ i cs ty,nth st.bx i=some (.live cs ty)->be i≠b) (K:∀ i s e sz by_ nn xs g,nth st.ow i=some ⟨s,.live e sz by_ nn xs⟩->(oe i).ownBlock=some g->g≠b) :
  let be':=λj=>if j=st.bx.length then b else be j
  let st':St := { st with bx:=st.bx ++ [.live cs t] }
  Sim P h0 w0 be' oe H st' h a w/\A8 st be oe st' be' oe:=by
 intro be' st'
 have l:A8 st be oe st' be' oe:=by
  refine⟨by simp[st'],λi d=>?_,λi c F=>⟨c,F,Nat.le_refl _,λ_=>rfl⟩⟩
  grind
 have m:∀ i cs ty,nth st.bx i=some (.live cs ty)->be' i=be i:=λi cs ty d=>by simp[be',Nat.ne_of_lt (f03 d)]
 have k:∀ i x,nth st'.bx i=some x->(i=st.bx.length/\x = .live cs t)∨(i≠st.bx.length/\nth st.bx i=some x):=by
  grind[R03]
 refine⟨⟨c.mv,c.sub,?_,?_,c.own,c.frz,?_,c.oo,?_,c.dfr,c.siz,λt=>(c.fr t).grow l⟩,l⟩
 ·intro i cs' ty d
  rcases k i _ d with⟨rfl,e⟩|⟨e,f⟩
  ·cases e
   exact⟨by simp[be',E],vs,D.grow l,by simp[be',C]⟩
  ·obtain⟨z,I,A,B⟩:=c.box i cs' ty f
   rw[m i cs' ty f]
   exact⟨z,I,A.grow l,B⟩
 ·intro i u d
  rcases k i _ d with⟨_,e⟩|⟨e,f⟩
  ·cases e
  ·simp[be',e,c.pub i u f]
 ·intro i j v G L M d o e
  rcases k i _ d with⟨rfl,n⟩|⟨n,f⟩<;>rcases k j _ o with⟨rfl,y⟩|⟨y,q⟩
  ·rfl
  ·grind
  ·grind
  ·rw[m i _ _ f,m j _ _ q]at e;exact c.bb i j _ _ _ _ f q e
 ·intro i v G j s e sz by_ nn xs d o p
  rcases k i _ d with⟨rfl,n⟩|⟨n,f⟩
  ·grind
  ·rw[m i _ _ f]at p;exact c.bo i _ _ j _ _ _ _ _ _ f o p
def m0c(a:Act)(d:Nat):Nat:=match a.tmps.getD d undef with
 | .pointer (some ⟨b,_,_⟩)=>b
 |_=>0
theorem V07{a:Act}{d b:Nat}(e:a.tmps.getD d undef=ptr b 0):m0c a d=b:=by
 unfold m0c;rw[e];rfl
def H0u(P:Program)(H h:Hp)(a:Act)(n:Nat)(o:Oper):Prop:=p06 o=true->∃ d t z,o.op = .alloc t/\o.dst=some d/\d<n/\E02 P t=some z/\a.tmps.getD d undef=ptr (m0c a d) 0/\H (m0c a d)=some (.cells z.cells t (0,0))/\h (m0c a d)=none
def I0u(a:Act)(o c:Oper):Prop:=p06 o=true->p06 c=true->∀ d b,o.dst=some d->c.dst=some b->m0c a d≠m0c a b
theorem L0j{st:St}{h:Hp}{d:Nat}:j09 ⟨st,h,[],[]⟩ d=false:=rfl
theorem k0n{K:St->Hp->Prop}{fd:List (Nat×AV)}:∀(l:List Oper) (st:St) (be:Nat->Nat),Sim P h0 w0 be oe H { st with fr:=fd } h a w ->
  (∀ t,(∀ o∈l,p06 o=true->o.dst≠some t)->O2 st be oe (J3 st.fr t) (a.tmps.getD t undef))->(∀ o∈l,H0u P H h a st.n o)->l.Pairwise (I0u a) ->
  (∀ i cs ty,nth st.bx i=some (.live cs ty)->∀ o∈l,p06 o=true->∀ d,o.dst=some d->be i≠m0c a d) ->
  (∀ i k e sz by_ nn xs g,nth st.ow i=some ⟨k,.live e sz by_ nn xs⟩->(oe i).ownBlock=some g->∀ o∈l,p06 o=true->∀ d,o.dst=some d->g≠m0c a d) ->
  doA (x05 P) l st h K->∃ st' be',K st' h/\Sim P h0 w0 be' oe H st' h a w
 | [],st,be,x,q,_,_,_,_,j=>⟨st,be,j,x.refr (fr:=st.fr) λt=>O2.fr (st:=st) (q t λo p=>nomatch p)⟩
 |o::l,st,be,x,q,y,s,A,p,j=>by
  rw[List.pairwise_cons]at s
  have j:(match p06 o with
   |true=>x05 P o st h λst h=>doA (x05 P) l st h K
   |false=>doA (x05 P) l st h K):=j
  cases hal:p06 o with
  |false =>
   rw[hal]at j
   exact k0n l st be x (λt T=>q t λc b F=>by
    grind) (λc b=>y c (mC _ b)) s.2 (λi cs ty f c b=>A i cs ty f c (mC _ b)) (λi k e sz by_ nn xs g f m c b=>p i k e sz by_ nn xs g f m c (mC _ b)) j
  |true =>
   rw[hal]at j
   obtain⟨d,t,z,N,v,V,O,Q,B,R⟩:=y o mS hal
   simp only[x05,k00,N,O,h0d,v,D0f,L0j]at j
   have J:Nat.blt d (st.withBx (st.bx ++ [.live (vals z.cells.toList) t])).n=true:=by
    grind
   simp only[J]at j
   obtain⟨n,fr,bx,ow⟩:=st
   have M:doA (x05 P) l ⟨n,(d,.box bx.length 0)::fr,bx ++ [.live (vals z.cells.toList) t],ow⟩ h K:=j
   have I:z.cells=z.cells.toList.toArray:=by simp
   rw[I]at B
   obtain⟨s2,E⟩:=x.claim (M2.vals _ oe _) B R (λi cs ty f=>A i cs ty f o mS hal d v) (λi k e sz by_ nn xs g f m=>p i k e sz by_ nn xs g f m o mS hal d v)
   refine k0n l ⟨n,(d,.box bx.length 0)::fr,bx ++ [.live (vals z.cells.toList) t],ow⟩ _ s2 (λu U=>?_) (λc b=>y c (mC _ b)) s.2 (λi cs ty f c b G C L=>?_) (λi k e sz by_ nn xs g f m c b=>p i k e sz by_ nn xs g f m c (mC _ b)) M
   ·show O2 _ _ _ (J3 ((d,.box bx.length 0)::fr) u) _
    rw[j4]
    split
    ·rename_i e
     subst e
     refine⟨by simp,?_⟩
     rw[Q];simp
    ·rename_i e
     have D:=q u λc b F S=>by
      grind
     exact O2.fr (st:=⟨n,fd,bx ++ [.live (vals z.cells.toList) t],ow⟩) (O2.grow E (O2.fr (st:=⟨n,fr,bx,ow⟩) (fr:=fd) D))
   ·simp only[R03]at f
    split at f
    ·rename_i e
     subst e
     simp only[if_pos]
     exact s.1 c b hal G d C v L
    grind
theorem e07{d:Nat}:∀ {l:List Operand},n09 d l=false->Operand.tmp d ∉ l
 | [],_,h=>nomatch h
 |x::r,a,h=>by
  rcases List.mem_cons.1 h with e|b
  ·subst e
   simp[n09]at a
  ·cases x<;>simp only[n09,Bool.or_eq_false_iff]at a
   ·exact e07 a.2 b
   all_goals exact e07 a b
theorem w0e{d:Nat}:∀ {l:List Oper},H0f d l=false->∀ o∈l,Operand.tmp d ∉ o.op.operands
 | [],_,o,h=>nomatch h
 |y::r,a,o,h=>by
  simp only[H0f,Bool.or_eq_false_iff]at a
  rcases List.mem_cons.1 h with rfl|h
  ·exact λb=>e07 a.1 (by simpa using b)
  ·exact w0e a.2 o h
theorem l0l{all:List Oper}:∀ {l:List Oper},okA P all l=true->∀ o∈l,p06 o=true->∃ t d z,o.op = .alloc t/\o.guard=none/\o.dst=some d/\E02 P t=some z/\∀ c∈all,Operand.tmp d ∉ c.op.operands
 | [],_,o,h,_=>nomatch h
 |y::r,a,o,h,b=>by
  simp only[okA,Bool.and_eq_true]at a
  rcases List.mem_cons.1 h with rfl|h
  ·grind[p06,w0e]
  ·exact l0l a.2 o h b
theorem m0l{o:Oper}(h:p06 o=false):E01 o=o:=by
 grind[E01,p06]
theorem E9(o:Oper):(E01 o).dst=o.dst:=by unfold E01;split<;>rfl
theorem n0l(o:Oper):(E01 o).after=o.after:=by unfold E01;split<;>rfl
theorem o0l(o:Oper):(E01 o).guard=o.guard:=by unfold E01;split<;>rfl
theorem G9:∀(l:List Oper) (i:Nat),(N6 l)[i]?=(l[i]?).map E01
 | [],i=>by simp[N6]
 |o::r,0=>by simp[N6]
 |o::r,i+1=>by simp[N6,G9 r i]
theorem m0i:∀(l:List Oper),(N6 l).length=l.length
 | []=>rfl
 |o::r=>by simp[N6,m0i r]
theorem p0l{o:Oper}{d:Nat}(h:Operand.tmp d∈(E01 o).op.operands):Operand.tmp d∈o.op.operands:=by
 grind[p06,m0l,E01,Op.operands]
abbrev J0u:=List (Nat×Nat×Obj)
def skA(a:List Oper)(i:Nat):Bool:=match a[i]? with
 |some o=>p06 o
 |none=>false
def x0d(P:Program)(h0:Hp)(w0:World)(e:List Oper)(st:St)(h:Hp)(A:Asg)(listed:Array Bool)(a:Act)(w:World):Prop :=
 ∃(c:J0u) (f:Hp) (g:World),D3 h0 w0 (B05 f (c.map λp=>p.2)) g/\(∀ p∈c,f p.2.1=none/\p.2.1<g.heap.size)/\((c.map λp=>p.2).map λp=>p.1).Nodup /\
  p0b P f g (N6 e).toArray st h A (skA e) (c.map λp=>(p.1,ptr p.2.1 0)) listed a w /\
  (∀(j:Nat) (o:Oper) t d z,e[j]?=some o->o.op = .alloc t->o.dst=some d->E02 P t=some z->listed.getD j false=true->∃ b,(d,b,Obj.cells z.cells t (0,0))∈c) /\
  ∀ p∈c,∃(j:Nat) (o:Oper),e[j]?=some o/\p06 o=true/\o.dst=some p.1/\listed.getD j false=true
theorem x0d.start{f:List Oper}{st:St}{A:Asg}{N:Nat}(g:Sim P h0 w0 be oe H st h a w):x0d P h0 w0 f st h A (Array.replicate N false) a w:=by
 refine⟨[],H,w,g.mv,λp b=>(by cases b),by simp,?_,λj o t d z _ _ _ _ e=>?_,λp b=>(by cases b)⟩
 ·have l:Sim P H w be oe H st h a w:=g.base (D3.refl g.mv.vis)
  refine⟨be,oe,H,h,λ_ _ h=>h,l.refr (fr:=I4 (N6 f) st.fr) λt=>?_,λp b=>(by cases b),λj o d _ i k c=>?_⟩
  ·by_cases hx:∃ o∈N6 f,o.dst=some t
   ·obtain⟨o,i,k⟩:=hx
    rw[F03 i k]
    trivial
   ·rw[x02 λo n m=>hx ⟨o,n,m⟩]
    exact l.fr t
  ·simp[Array.getElem?_replicate]at c
   split at c<;>cases c
 ·simp[Array.getElem?_replicate]at e
  split at e<;>cases e
theorem o0t{f:List Oper}{st:St}{A:Asg}{ar:FL}{Y:List BE}{listed:Array Bool}{j:Nat}{o:Oper}{Q:Exit->Act->World->Prop}
  (ac:∀(i j:Nat) (l ao:Oper) (d:Nat),(N6 f)[i]?=some l->(N6 f)[j]?=some ao->l.dst=some d->ao.dst=some d->i=j)
  (ad:∀ o∈N6 f,∀ d,o.dst=some d->d<st.n)
  (az:∀(k:Nat) (o:Oper),(N6 f)[k]?=some o->∀ e∈o.after,Region.binds .any e=true->e.on<k)
  (aF:∀ o∈N6 f,∀ t,Operand.tmp t∈o.op.operands->∀(i:Nat) (l:Oper),(N6 f)[i]?=some l->l.dst=some t->∃ e∈o.after,Region.binds .any e=true/\e.on=i)
  (aG:∀ o∈N6 f,∀ i w,o.guard=some (i,w)->h01 i o=true)
  (aA:K0h (N6 f) A ar Y (N6 f).length)
  (aC:∀ j o,(N6 f)[j]?=some o->∃ Z I,q01 Y o.guard=some (A j).1/\K0h (N6 f) A Z I j/\I0a I Y/\cB I (A j).1=some (A j).2.1/\(OpU P st h Z I o (A j).1 (A j).2.1 (A j).2.2/\∀ av,R0a P Z I (A j).1 o st=some av->(A j).2.2 = .pu av))
  (aT:∀(i:Nat) (l:Oper) (d:Nat),(N6 f)[i]?=some l->l.dst=some d->skA f i=true->∀ af∈N6 f,Operand.tmp d ∉ af.op.operands)
  (aR:∀ i,skA f i=true->(A i).2.2 = .pu (.val undef)) (aB:∀ o∈f,p06 o=true->∃ t d z,o.op = .alloc t/\o.guard=none/\o.dst=some d/\E02 P t=some z/\∀ af∈f,Operand.tmp d ∉ af.op.operands)
  (ba:listed.getD j true=false)
  (J:f[j]?=some o) (aP:∀ e∈o.after,Region.binds .any e=true->listed.getD e.on false=true) (aH:x0d P h0 w0 f st h A listed a w) :
  (Region.wanted o (yielded (N6 f).toArray a.tmps)=true->o.wp P a w (x0d P h0 w0 f st h A (listed.setIfInBounds j true)) Q) /\
  (Region.wanted o (yielded (N6 f).toArray a.tmps)=false->x0d P h0 w0 f st h A (listed.setIfInBounds j true) (a.put o.dst undef) w):=by
 obtain⟨s,S,X,ae,K,V,am,ai,ab⟩:=aH
 have aN:o∈f:=List.mem_of_getElem? J
 have G:(N6 f)[j]?=some (E01 o):=by rw[G9,J];rfl
 have aL:listed.getD j false=false:=by
  grind
 have aK:j<listed.size:=by
  grind
 have ay:∀ p∈s,∃(i:Nat) (l:Oper),(N6 f)[i]?=some l/\l.dst=some p.1/\skA f i=true:=λp c=>by
  obtain⟨i,l,m,C,y,_⟩:=ab p c
  exact⟨i,E01 l,by rw[G9,m];rfl,by rw[E9];exact y,by unfold skA;rw[m];exact C⟩
 cases hisa:p06 o with
 |false =>
  have aJ:=m0l hisa
  rw[aJ]at G
  have aS:skA f j=false:=by unfold skA;rw[J];exact hisa
  have up:∀ aa D,p0b P S X (N6 f).toArray st h A (skA f) (s.map λp=>(p.1,ptr p.2.1 0)) (listed.setIfInBounds j true) aa D->x0d P h0 w0 f st h A (listed.setIfInBounds j true) aa D:=λaa D aX=>by
   refine⟨s,S,X,ae,K,V,aX,λi l t d z m C y F N=>?_,λp c=>?_⟩
   ·by_cases e:j=i
    ·grind[p06]
    ·rw[getD_set_ne false e]at N
     exact ai i l t d z m C y F N
   grind[getD_set_true]
  have bc:=m0t (P:=P) (h0:=S) (w0:=X) (ops:=(N6 f).toArray) (Q:=Q) (sk:=skA f) (kp:=s.map λp=>(p.1,ptr p.2.1 0)) (by simpa using ac) (by simpa using ad) (by simpa using az) (by simpa using aF) (by simpa using aG) (by simpa using aA) (by simpa using aC) aS (by simpa using aT) aR (λp c=>by
   obtain⟨q,B,rfl⟩:=List.mem_map.1 c
   simpa using ay q B) (by simpa using G) aP am
  grind[Oper.wp_mono]
 |true =>
  obtain⟨t,d,z,aY,aZ,E,a0,bb⟩:=aB o aN hisa
  refine⟨λ_=>?_,λL=>?_⟩
  rotate_left
  ·unfold Region.wanted at L;rw[aZ]at L;cases L
  obtain⟨be,oe,H,R,aQ,O,keep,ax⟩:=am
  have an:D3 h0 w0 (B05 H (s.map λp=>p.2)) w:=ae.trans (a0g ae.vis (λp c=>by
   obtain⟨q,B,rfl⟩:=List.mem_map.1 c
   exact K q B) V O.mv)
  have ah:∀ p∈s,H p.2.1=none:=λp c=>O.mv.none_of (K p c).2 (K p c).1
  have L:wpS P (execOp a.eval o) (B05 H (s.map λp=>p.2)) (λn ag=>∃ b,B05 H (s.map λp=>p.2) b=none/\n = .value (ptr b 0)/\ag=(B05 H (s.map λp=>p.2)).set b (.cells z.cells t (0,0))):=by
   unfold execOp;rw[aY]
   refine r9 _ _ _ ?_
   simp only[Instr.alloc,newVar,newRow,newObj,Q2,f0c a0,A3,wpS]
   exact λb T=>⟨b,T,rfl,rfl⟩
  obtain⟨n,ag,D,aO,⟨b,T,rfl,rfl⟩,U⟩:=u01 _ _ _ an.vis L
  refine U9 aO ?_
  have ak:∀ p∈s,p.2.1≠b:=λp c e=>by
   have:=x06 (H:=H) V (List.mem_map.2 ⟨p,c,rfl⟩)
   rw[e,T]at this;cases this
  have aj:H b=none:=by
   rw[←T,e05]
   intro p c
   obtain⟨q,B,rfl⟩:=List.mem_map.1 c
   exact ak q B
  have aW:Vis H D:=λx a1 M=>by
   refine U.vis x a1 ?_
   rw[Hp.set_other _ _ λe=>by subst e;rw[aj]at M;cases M]
   rw[e05]
   ·exact M
   ·intro p c e
    obtain⟨q,B,rfl⟩:=List.mem_map.1 c
    rw[←e,ah q B]at M;cases M
  have aM:d<a.tmps.size:=by rw[O.siz];exact ad (E01 o) (List.mem_of_getElem? G) d (by rw[E9];exact E)
  have a4:(a.put o.dst (ptr b 0)).tmps.getD d undef=ptr b 0:=by rw[E];simp[Act.put,aM]
  have aq:∀ u,u≠d->(a.put o.dst (ptr b 0)).tmps.getD u undef=a.tmps.getD u undef:=λu aU=>by
   rw[E];simp[Act.put,Array.getElem?_setIfInBounds_ne (Ne.symm aU)]
  have a2:∀ p∈s,p.1≠d:=λp c e=>by
   obtain⟨i,l,m,C,y,F⟩:=ab p c
   have:=ac i j (E01 l) (E01 o) d (by rw[G9,m];rfl) G (by rw[E9,y,e]) (by rw[E9];exact E)
   subst this
   rw[aL]at F;cases F
  have s1:Sim P H D be oe H { st with fr:=I4 (N6 f) st.fr } R a D:=(by simpa using O:Sim P S X be oe H { st with fr:=I4 (N6 f) st.fr } R a w).base (D3.refl aW)
  have s2:Sim P H D be oe H { st with fr:=I4 (N6 f) st.fr } R (a.put o.dst (ptr b 0)) D:=by
   have c:=s1.put (d:=d) (av := .dead) (v:=ptr b 0) (ad (E01 o) (List.mem_of_getElem? G) d (by rw[E9];exact E)) trivial
   rw[E]
   refine c.refr (fr:=I4 (N6 f) st.fr) λu=>?_
   have g:=c.fr u
   rw[j4]at g
   split at g
   ·rename_i e
    subst e
    rw[F03 (List.mem_of_getElem? G) (by rw[E9];exact E)]
    trivial
   ·exact g
  refine⟨(d,b,.cells z.cells t (0,0))::s,H,D,?_,λp c=>?_,?_,⟨be,oe,H,R,aQ,by simpa using s2,λp c=>?_,λi l u W m C y=>?_⟩,λi l a3 aw z' m C y F N=>?_,λp c=>?_⟩
  ·exact an.trans U
  ·rcases List.mem_cons.1 c with rfl|c
   ·exact⟨aj,U.vis.lt (by rw[Hp.set_same];simp)⟩
   ·exact⟨ah p c,Nat.lt_of_lt_of_le (K p c).2 (Nat.le_trans O.mv.size U.size)⟩
  ·rw[List.map_cons,List.map_cons,List.nodup_cons]
   refine⟨λaE=>?_,V⟩
   obtain⟨q,B,e⟩:=List.mem_map.1 aE
   obtain⟨p,c,rfl⟩:=List.mem_map.1 B
   exact ak p c e
  ·rw[List.map_cons]at c
   rcases List.mem_cons.1 c with rfl|c
   ·exact a4
   ·obtain⟨q,B,rfl⟩:=List.mem_map.1 c
    rw[aq _ (a2 q B)]
    exact keep _ c
  ·have al:j≠i:=λe=>by
    subst e
    have ap:p06 o=false:=by unfold skA at W;rw[J]at W;exact W
    rw[hisa]at ap;cases ap
   rw[getD_set_ne false al]at y
   have aV:u≠d:=λe=>by
    subst e
    exact al (ac j i (E01 o) l u G (by simpa using m) (by rw[E9];exact E) C)
   rw[aq u aV]
   exact ax i l u W m C y
  ·by_cases e:j=i
   ·grind[List.mem_cons_self]
   ·rw[getD_set_ne false e]at N
    obtain⟨au,aD⟩:=ai i l a3 aw z' m C y F N
    exact⟨au,mC _ aD⟩
  ·rcases List.mem_cons.1 c with rfl|c
   ·exact⟨j,o,J,hisa,E,by simp[aK]⟩
   ·obtain⟨i,l,m,C,y,F⟩:=ab p c
    exact⟨i,l,m,C,y,getD_set_true F⟩
theorem n0i{a m:Type}{f:a->m}:∀ {l:List a},(l.map f).Nodup->∀ {p q:a},p∈l->q∈l->f p=f q->p=q
 | [],_,p,q,h,_,_=>nomatch h
 |x::l,b,p,q,g,j,e=>by
  rw[List.map_cons,List.nodup_cons]at b
  rcases List.mem_cons.1 g with c|i<;>rcases List.mem_cons.1 j with d|k
  ·rw[c,d]
  ·grind
  ·grind
  ·exact n0i b.2 i k e
theorem L0s{c:List Oper}{st:St}{A:Asg}{U:FL}{ac:List BE}{K:St->Hp->Prop}{listed:Array Bool}
  (W:∀(i j:Nat) (M ab:Oper) (d:Nat),(N6 c)[i]?=some M->(N6 c)[j]?=some ab->M.dst=some d->ab.dst=some d->i=j)
  (an:∀ o∈N6 c,∀ d,o.dst=some d->d<st.n)
  (ap:∀ i,skA c i=true->(A i).2.2 = .pu (.val undef)) (aj:∀ o∈c,p06 o=true->∃ t d z,o.op = .alloc t/\o.guard=none/\o.dst=some d/\E02 P t=some z/\∀ au∈c,Operand.tmp d ∉ au.op.operands)
  (ah:K0h (N6 c) A U ac (N6 c).length) (ak:∀ m,Sub h m->G0h m U st.fr λfr=>doA (x05 P) c { st with fr:=fr } m K) (Y:∀ j,j<c.length->listed.getD j false=true)
  (B:x0d P h0 w0 c st h A listed a w):∃ st' m be oe H,K st' m/\Sim P h0 w0 be oe H st' m a w:=by
 obtain⟨N,aC,aJ,aa,Z,S,aq,ag,aD⟩:=B
 obtain⟨be,oe,H,m,fr,am,E,keep,g⟩:=p0o (K:=λst h=>doA (x05 P) c st h K) (ops:=(N6 c).toArray) ap (by simpa using W) (by simpa using ah) ak (λj u=>Y j (by simpa [m0i] using u)) aq
 have ar:D3 h0 w0 (B05 H (N.map λp=>p.2)) w:=aa.trans (a0g aa.vis (λp J=>by
  grind) S E.mv)
 have Q:∀ p∈N,H p.2.1=none:=λp J=>E.mv.none_of (Z p J).2 (Z p J).1
 have ax:=E.more (l:=N.map λp=>p.2) (λp J=>by
  grind) ar
 have F:∀ o∈c,p06 o=true->∃ t d z b,o.op = .alloc t/\o.dst=some d/\E02 P t=some z/\(d,b,Obj.cells z.cells t (0,0))∈N/\a.tmps.getD d undef=ptr b 0:=λo v s=>by
  obtain⟨t,d,z,C,q,D,k,x⟩:=aj o v s
  obtain⟨j,u⟩:=List.getElem?_of_mem v
  obtain⟨b,I⟩:=ag j o t d z u C D k (Y j (List.getElem?_eq_some_iff.1 u).1)
  exact⟨t,d,z,b,C,D,k,I,keep _ (List.mem_map.2 ⟨_,I,rfl⟩)⟩
 have ao:∀ b,H b=none->m b=none:=λb I=>by
  cases e:m b with
  |none=>rfl
  |some o=>rw[E.sub b o e]at I;cases I
 refine(k0n (K:=K) (fd:=I4 (N6 c).toArray.toList st.fr) c { st with fr:=fr } be ax (λt aF=>?_) (λo v s=>?_) ?_ (λi cs ty B o v s d y=>?_) (λi ay e sz by_ nn xs aB B al o v s d y=>?_) am).elim λst' L=>L.elim λbe' L=>⟨st',m,be',oe,_,L.1,L.2⟩
 ·refine O2.fr (st:=st) (fr:=fr) (g t λi M O T=>?_)
  have O:(N6 c)[i]?=some M:=by simpa using O
  rw[G9]at O
  grind[p06,skA,absurd,E9,List.mem_of_getElem?]
 ·obtain⟨t,d,z,b,C,q,D,k,x⟩:=F o v s
  have R:=V07 x
  obtain⟨j,u⟩:=List.getElem?_of_mem v
  refine⟨d,t,z,C,q,an (E01 o) (List.mem_of_getElem? (i:=j) (by rw[G9,u];rfl)) d (by rw[E9];exact q),D,by rw[R];exact x,by rw[R];exact x06 S (List.mem_map.2 ⟨_,k,rfl⟩),by rw[R];exact ao b (Q _ k)⟩
 ·rw[List.pairwise_iff_getElem]
  intro i j B u aE s ai d ad y X e
  obtain⟨t,V,z,b,C,q,D,k,x⟩:=F _ (List.getElem_mem B) s
  obtain⟨aH,aA,z',az,O,T,aG,av,aw⟩:=F _ (List.getElem_mem u) ai
  rw[q]at y;cases y
  rw[T]at X;cases X
  rw[V07 x,V07 aw]at e
  subst e
  have:=n0i (f:=λp:Nat×Nat×Obj=>p.2.1) (by have:=S;rw[List.map_map]at this;exact this) k av rfl
  have af:d=ad:=congrArg Prod.fst this
  subst af
  have:=W i j (E01 c[i]) (E01 c[j]) d (by rw[G9,List.getElem?_eq_getElem B];rfl) (by rw[G9,List.getElem?_eq_getElem u];rfl) (by rw[E9];exact q) (by rw[E9];exact T)
  omega
 ·obtain⟨t,V,z,b,C,q,D,k,x⟩:=F o v s
  rw[q]at y;cases y
  rw[V07 x]
  intro e
  obtain⟨_,vs,_,G⟩:=E.box i cs ty B
  rw[e,Q _ k]at G;cases G
 ·obtain⟨t,V,z,b,C,q,D,k,x⟩:=F o v s
  rw[q]at y;cases y
  rw[V07 x]
  intro ae
  obtain⟨_,_,_,_,G⟩:=(E.own i ay e sz by_ nn xs B).block al
  rw[ae,Q _ k]at G;cases G
theorem x0u{ops:Array Oper}{Q:Exit->Act->World->Prop}{Inv:Array Bool->Act->World->Prop}(hB:∀(k:Nat) (o:Oper),ops.toList[k]?=some o->∀ e∈o.after,Region.binds .any e=true->e.on<k)
  (hstep:∀ listed a w j o,listed.size=ops.size->listed.getD j true=false->ops[j]?=some o->(∀ e∈o.after,Region.binds .any e=true->listed.getD e.on false=true)->Inv listed a w ->
   (Region.wanted o (yielded ops a.tmps)=true->o.wp P a w (Inv (listed.setIfInBounds j true)) Q)/\(Region.wanted o (yielded ops a.tmps)=false->Inv (listed.setIfInBounds j true) (a.put o.dst undef) w))
  (hQ:∀ listed a w,(∀ j,j<ops.size->listed.getD j false=true)->Inv listed a w->Q .normal a w) :
  ∀(fuel:Nat) (listed:Array Bool) (a:Act) (w:World),listed.size=ops.size->listed.toList.count true+fuel=ops.size->Inv listed a w->wpAny P .any ops Q fuel listed a w
 |0,listed,a,w,hsz,hc,hi=>by
  have hall':∀ j,j<ops.size->listed.getD j false=true:=λj hj=>by
   have h1:∀ b∈listed.toList,true=b:=List.count_eq_length.1 (by grind)
   have hlt:j<listed.size:=by omega
   have:=h1 listed[j] (by simp)
   simp[hlt,←this]
  refine⟨?_,hQ listed a w hall' hi⟩
  cases hr:Region.ready .any ops listed with
  |nil=>rfl
  |cons j r =>
   grind[Region.ready,List.mem_cons_self,mem_ready,Array.getElem?_eq_some_iff]
 |fuel+1,listed,a,w,hsz,hc,hi=>by
  refine⟨λhr=>hQ listed a w (s0d hB hsz hr) hi,λj hj=>?_⟩
  obtain⟨h1,o,h2,h3⟩:=mem_ready.1 hj
  unfold wpOp
  simp only[h2]
  obtain⟨ht,hf⟩:=hstep listed a w j o hsz h1 h2 h3 hi
  have next:∀ a' w',Inv (listed.setIfInBounds j true) a' w'->wpAny P .any ops Q fuel (listed.setIfInBounds j true) a' w':=λa' w' hi'=>x0u hB hstep hQ fuel _ a' w' (by simpa using hsz) (by rw[count_set h1];omega) hi'
  cases hw:Region.wanted o (yielded ops a.tmps)with
  |true =>
   rw[if_pos rfl]
   exact .inl (Oper.wp_mono next (ht hw))
  |false =>
   grind
theorem y0d{x:Nat}:∀ {l:List Nat},d0n x l=true↔x∈l
 | []=>by simp[d0n]
 |y::r=>by
  simp only[d0n,Bool.or_eq_true,List.mem_cons,y0d (l:=r)]
  simp_all
theorem o0i{ops:List Oper}{i:Nat}:∀ {l:List Nat},A0s ops i l=true->∃ j o,j∈l/\ops[j]?=some o/\h01 i o=true
 | [],h=>by cases h
 |j::r,h=>by
  simp only[A0s,Bool.or_eq_true]at h
  rcases h with h|h
  ·grind[q06,List.mem_cons_self]
  ·obtain⟨c,o,a,b⟩:=o0i h
   grind
theorem q0b{ops:List Oper}{G:Nat->Prop}(a:∀ i j o,G j->ops[j]?=some o->h01 i o=true->G i):∀(n:Nat) (acc:List Nat),(∀ j∈acc,G j)->∀ i∈c0i ops n acc,G i
 |0,acc,h=>h
 |n+1,acc,h=>by
  unfold c0i
  split
  ·rename_i b
   obtain⟨j,o,c,d,e⟩:=o0i b
   exact q0b a n _ λi f=>by
    grind
  ·exact q0b a n acc h
theorem r0b{d:Nat}:∀ {l:List Oper},U0b d l=false->∀ o∈l,o.dst≠some d
 | [],_,o,h=>nomatch h
 |y::r,a,o,h=>by
  simp only[U0b,Bool.or_eq_false_iff]at a
  rcases List.mem_cons.1 h with rfl|h
  ·intro b
   simp_all
  ·exact r0b a.2 o h
theorem x07{b:List Nat}{t:Nat}:∀ {l:List Oper} {k:Nat},L07 b t l k=true->∀(i:Nat) (o:Oper),l[i]?=some o->o.dst=some t->k+i∈b
 | [],k,_,i,o,h,_=>by simp at h
 |y::r,k,a,i,o,h,c=>by
  simp only[L07,Bool.and_eq_true]at a
  cases i with
  |zero =>
   simp_all[y0d]
  |succ i =>
   have:=x07 a.2 i o (by simpa using h) c
   grind
theorem X0a{i d:Nat}:∀ {l:List Oper},M07 i d l=true->∀ o∈l,Operand.tmp d∈o.op.operands->h01 i o=true
 | [],_,o,h,_=>nomatch h
 |y::r,b,o,h,c=>by
  simp only[M07,Bool.and_eq_true,Bool.or_eq_true]at b
  rcases List.mem_cons.1 h with rfl|h
  ·rcases b.1 with a|a
   ·have e:n09 d o.op.operands.toList=false:=by simpa using a
    exact absurd (show Operand.tmp d∈o.op.operands.toList by simpa using c) (e07 e)
   ·exact a
  ·exact X0a b.2 o h c
theorem b0g:∀ {l:List Oper},Q0k l=true->∀ o∈l,m0e o.op=false
 | [],_,o,h=>nomatch h
 |y::r,a,o,h=>by
  simp only[Q0k,Bool.and_eq_true]at a
  rcases List.mem_cons.1 h with rfl|h
  ·simpa using a.1
  ·exact b0g a.2 o h
def y09(o:Oper)(x:Value):Option Value:=match o.op with
 | .extract _ k=>match x with
  | .tuple vs=>vs[k]?
  |_=>none
 |_=>some x
theorem f07{o:Oper}{t:Nat}(h:T0b o=some t):o.guard=none/\((∃ k,o.op = .extract (.tmp t) k)∨o.op = .move (.tmp t)∨o.op = .assign (.tmp t)):=by
 grind[T0b]
theorem q0l{o:Oper}{t:Nat}{a:Act}{v:Value}(h:T0b o=some t)(b:y09 o (a.tmps.getD t undef)=some v)(w:World):(execOp a.eval o).run P w = .ok (.value v) w:=by
 obtain⟨_,⟨k,e⟩|e|e⟩:=f07 h
 ·unfold y09 at b;rw[e]at b
  simp only at b
  split at b
  ·rename_i vs c
   unfold execOp;rw[e]
   have d:a.eval (.tmp t) = .tuple vs:=c
   simp_all[Instr.extract]
  ·cases b
 ·unfold y09 at b;rw[e]at b;cases b
  unfold execOp;rw[e];rfl
 ·unfold y09 at b;rw[e]at b;cases b
  unfold execOp;rw[e];rfl
theorem M0s{o:Oper}{t:Nat}{a:Act}{w:World}{N:Act->World->Prop}(h:T0b o=some t)(b:o.wp P a w N λ_ _ _=>False):∃ v,y09 o (a.tmps.getD t undef)=some v/\N (a.put o.dst v) w:=by
 obtain⟨_,⟨k,e⟩|e|e⟩:=f07 h
 ·cases hx:y09 o (a.tmps.getD t undef)with
  |some v =>
   refine⟨v,rfl,?_⟩
   unfold Oper.wp at b
   rw[q0l h hx w]at b
   exact b
  |none =>
   exfalso
   unfold y09 at hx;rw[e]at hx
   simp only at hx
   unfold Oper.wp execOp at b;rw[e]at b
   have d:a.eval (.tmp t)=a.tmps.getD t undef:=rfl
   simp only[Instr.extract,d]at b
   split at hx
   ·rename_i vs f
    rw[f]at b
    simp only[hx]at b
    exact b
   ·rename_i c
    generalize a.tmps.getD t undef=x at b c
    cases x<;>first|exact b|exact absurd rfl (c _)
 ·refine⟨_,by unfold y09;rw[e],?_⟩
  unfold Oper.wp execOp at b;rw[e]at b
  exact b
 ·refine⟨_,by unfold y09;rw[e],?_⟩
  unfold Oper.wp execOp at b;rw[e]at b
  exact b
def c0g(as a:Act)(D:Nat->Prop):Prop:=as.tmps.size=a.tmps.size/\as.defers=a.defers/\∀ d,¬ D d->as.tmps.getD d undef=a.tmps.getD d undef
theorem C05(a:Act)(d u:Nat)(v:Value):(a.put (some d) v).tmps.getD u undef=if d=u/\d<a.tmps.size then v else a.tmps.getD u undef:=by
 by_cases e:d=u
 all_goals simp_all[Act.put,if_neg,Array.getElem?_setIfInBounds_ne]
theorem c0g.put{as a:Act}{b:Nat->Prop}(l:c0g as a b)(d:Option Nat)(v:Value):c0g (as.put d v) (a.put d v) b:=by
 cases d with
 |none=>exact l
 |some d =>
  refine⟨by simp[Act.put,l.1],l.2.1,λu c=>?_⟩
  rw[C05,C05,l.1,l.2.2 u c]
theorem N0s{o:Oper}{as a:Act}{w:World}{k:Nat->Prop}{N:Act->World->Prop}{Q:Exit->Act->World->Prop}(l:c0g as a k)(q:m0e o.op=false)(y:∀ d,Operand.tmp d∈o.op.operands -> ¬ k d)
  (i:o.wp P as w N λ_ _ _=>False):o.wp P a w (λm j=>∃ g,N g j/\c0g g m k/\(∃ v,g=as.put o.dst v∨∃ x,g = { as with defers:=x }.put o.dst v)/\∃ v,m=a.put o.dst v∨∃ x,m = { a with defers:=x }.put o.dst v) Q:=by
 have t:execOp as.eval o=execOp a.eval o:=execOp_congr o (λcs b e=>by rw[e]at q;cases q) λx z=>by
  cases x with
  |tmp d=>exact l.2.2 d (y d z)
  |_=>rfl
 unfold Oper.wp at *
 rw[t]at i
 generalize (execOp a.eval o).run P w=r at i
 have fin:∀(v:Value) (j:World),N (as.put o.dst v) j->∃ g,N g j/\c0g g (a.put o.dst v) k/\(∃ v,g=as.put o.dst v∨∃ x,g = { as with defers:=x }.put o.dst v)/\∃ s,a.put o.dst v=a.put o.dst s∨∃ x,a.put o.dst v = { a with defers:=x }.put o.dst s :=
  λv j h=>⟨_,h,l.put o.dst v,⟨v,.inl rfl⟩,v,.inl rfl⟩
 cases r with
 |ok n j =>
  cases n with
  |value v=>exact fin v j i
  |skip=>exact fin undef j i
  |defer d =>
   refine⟨_,i,c0g.put (as := { as with defers:=d::as.defers }) (a := { a with defers:=d::a.defers }) ⟨l.1,by simp[l.2.1],l.2.2⟩ o.dst undef,⟨_,.inr ⟨_,rfl⟩⟩,_,.inr ⟨_,rfl⟩⟩
  |enter f args =>
   refine Calls.mono i λe p h=>?_
   cases e with
   |returned v=>exact fin v p h
   |panicked c=>exact h.elim
   |outgrown=>obtain⟨_,_,h⟩:=h;exact h.elim
  |row row args=>exact Rows.mono i λv p h=>fin v p h
  |_=>exact i.elim
 |halt u j=>cases u<;>exact i.elim
theorem Sim.like{st:St}{as a:Act}{h0:Hp}{w0:World}{be:Nat->Nat}{oe:Nat->Value}{H h:Hp}{w:World}(b:Sim P h0 w0 be oe H st h as w){c:Nat->Prop}(l:c0g as a c)(e:∀ d,¬ c d):Sim P h0 w0 be oe H st h a w :=
 ⟨b.mv,b.sub,b.box,b.pub,b.own,b.frz,b.bb,b.oo,b.bo,by rw[←l.2.1];exact b.dfr,by rw[←l.1];exact b.siz,λt=>by rw[←l.2.2 t (e t)];exact b.fr t⟩
theorem p0i:∀ {l:List Oper} {k:Nat},N0q k l=true->(∀ o∈l,o.guard=none)/\∀(i:Nat) (o:Oper),l[i+1]?=some o->h01 (k+i) o=true
 | [],k,h=>⟨λo b=>(nomatch b),λi o a=>(nomatch a)⟩
 | [x],k,h=>by
  rw[N0q]at h
  grind
 |x::y::r,k,h=>by
  rw[N0q]at h
  simp only[Bool.and_eq_true]at h
  obtain⟨c,d⟩:=p0i (l:=y::r) h.2
  refine⟨λo b=>?_,λi o a=>?_⟩
  ·grind
  ·cases i with
   |zero=>grind
   |succ i =>
    grind
theorem r0l{o:Oper}{st:St}{K:St->Hp->Prop}{Q:Exit->Act->World->Prop}(q:Sim P h0 w0 be oe H st h a w)(l:x05 P o st h K):
  o.wp P a w (λj k=>∃ st' b be' oe' f,K st' b/\Sim P h0 w0 be' oe' f st' b j k) Q:=by
 refine Oper.wp_mono (λj k p=>?_) (i01 q l)
 obtain⟨av,st',b,v,be',oe',f,m,rfl,s,g,t⟩:=p
 obtain⟨B,u,y,z,A⟩:=u06 (ops := #[o]) (i:=0) (rs:=⟨st',b,[],[]⟩) (ch:=[]) (c:=true) (v:=v) s ⟨(λx e=>nomatch e),(λx e=>nomatch e),(λd ch av n=>nomatch n)⟩ (by rfl) rfl (λ_=>g) (λh=>by cases h) m
 grind
theorem n0c{c d:List Oper}{a:List Nat}:∀ {l:List Oper} {k:Nat},p0f c d a l k=true->∀(i:Nat) (o:Oper),l[i]?=some o->d0n (k+i) a=true∨g0o c d a (k+i) o=true
 | [],k,_,i,o,h=>by simp at h
 |y::r,k,b,i,o,h=>by
  simp only[p0f,Bool.and_eq_true,Bool.or_eq_true]at b
  cases i with
  |zero=>grind
  |succ i =>
   have:=n0c b.2 i o (by simpa using h)
   grind
theorem l0n{c a:List Oper}{b:List Nat}{i:Nat}{o:Oper}(h:g0o c a b i o=true):∃ t d,T0b o=some t/\o.dst=some d/\U0b d a=false/\U0b t a=false/\L07 b t c 0=true/\M07 i d a=true:=by
 unfold g0o at h
 grind
theorem D0p{ops:Array Oper}{m:Nat}{st:St}{K:St->Hp->Prop}{Q:Exit->Act->World->Prop}(hb:okZ P st.n m ops.toList=true)(he:evT P (x05 P) m ops.toList st h K)
  (hQ:∀ a w st h be oe H,K st h->Sim P h0 w0 be oe H st h a w->Q .normal a w) (s:Sim P h0 w0 be oe H st h a w):wpAny P .any ops Q ops.size (Array.replicate ops.size false) a w:=by
 simp only[okZ,l05,Z03,Bool.and_eq_true,Bool.or_eq_true]at hb
 obtain⟨⟨⟨⟨⟨⟨⟨b1,b2⟩,b3⟩,b4⟩,b5⟩,b6⟩,b7⟩,b8⟩:=hb
 generalize hpre:ops.toList.take m=pre at b1 b2 b3 b4 b5 b8
 obtain⟨hn,hD⟩:=w06 b1
 have hB:∀(k:Nat) (o:Oper),(N6 pre)[k]?=some o->∀ e∈o.after,Region.binds .any e=true->e.on<k:=λk o hk e he' hb=>by
  have:=d05 b2 k o hk e he' hb
  omega
 have hdep:=A08 b3
 have hgd:=C08 b4
 have hal:=l0l b5
 have hBB:∀(k:Nat) (o:Oper),ops.toList[k]?=some o->∀ e∈o.after,Region.binds .any e=true->e.on<k:=λk o hk e he' hb=>by
  have:=d05 b6 k o hk e he' hb
  omega
 obtain⟨sq1,sq2⟩:=p0i b7
 unfold evT at he
 rw[hpre]at he
 obtain⟨A,Lf,Bf,_,_,hP,hall,hfin⟩:=Z0f (ops:=N6 pre) hD (N6 pre) 0 [] [] (λ_=>([],true,.pu .dead)) (λj=>by simp) (by simp)
  ⟨λt x h=>(by cases h),λi oi d hi=>by omega,λi hi=>by omega,λx hx=>(by cases hx)⟩ he
 have hpl:pre.length=min m ops.size:=by rw[←hpre];simp
 have hpg:∀ j,j<m->ops.toList[j]?=pre[j]?:=λj hj=>by rw[←hpre,List.getElem?_take,if_pos hj]
 have hdg:∀ j,(ops.toList.drop m)[j]?=ops.toList[m+j]?:=λj=>List.getElem?_drop
 have hsr:∀(i:Nat) (oi:Oper) (d:Nat),(N6 pre)[i]?=some oi->oi.dst=some d->skA pre i=true->∀ o'∈N6 pre,Operand.tmp d ∉ o'.op.operands:=λi oi d q1 q2 q3 o' ho' hc=>by
  rw[G9]at q1
  unfold skA at q3
  cases e:pre[i]? with
  |none=>rw[e]at q1;cases q1
  |some o0 =>
   rw[e]at q1 q3
   cases q1
   obtain⟨t,d1,z,k1,k2,k3,k4,k5⟩:=hal o0 (List.mem_of_getElem? e) q3
   rw[E9,k3]at q2;cases q2
   obtain⟨j,hj⟩:=List.getElem?_of_mem ho'
   rw[G9]at hj
   cases e2:pre[j]? with
   |none=>rw[e2]at hj;cases hj
   |some o1 =>
    rw[e2]at hj;cases hj
    exact k5 o1 (List.mem_of_getElem? e2) (p0l hc)
 have hsb:∀ i,skA pre i=true->(A i).2.2 = .pu (.val undef):=λi q3=>by
  unfold skA at q3
  cases e:pre[i]? with
  |none=>rw[e]at q3;cases q3
  |some o0 =>
   rw[e]at q3
   obtain⟨t,d1,z,k1,k2,k3,k4,k5⟩:=hal o0 (List.mem_of_getElem? e) q3
   obtain⟨Lj,bj,_,_,_,_,_,hu⟩:=hall i (E01 o0) (Nat.zero_le _) (by rw[G9,e];rfl)
   refine hu _ ?_
   unfold E01
   rw[k1]
   rfl
 let Rest:Nat->Act->World->Prop:=λk a w=>∃ st' h' be oe H,doT (x05 P) (ops.toList.drop k) st' h' K/\Sim P h0 w0 be oe H st' h' a w
 let ml:=c0i ops.toList m [m]
 let Dl:Array Bool->Nat->Prop:=λlisted u=>∃(i:Nat) (o:Oper),pre[i]?=some o/\listed.getD i false=false/\o.dst=some u
 let Lat:Array Bool->Act->Act->Prop:=λlisted as a=>∀(i:Nat) (o:Oper) (t d:Nat),pre[i]?=some o->listed.getD i false=false->T0b o=some t->o.dst=some d->y09 o (a.tmps.getD t undef)=some (as.tmps.getD d undef)
 let Inv:Array Bool->Act->World->Prop:=λlisted a w=>(∀(j:Nat) (o:Oper),ops[j]?=some o->listed.getD j false=true->∀ e∈o.after,Region.binds .any e=true->listed.getD e.on false=true) /\
  (((∀ k,m<=k->listed.getD k false=false)/\x0d P h0 w0 pre st h A listed a w)∨∃ k as,m<k/\k<=ops.size/\(∀ i,i<k->listed.getD i false=true∨(i<m/\i ∉ ml))/\(∀ i,k<=i->listed.getD i false=false)/\Rest k as w/\c0g as a (Dl listed)/\Lat listed as a)
 have lateOf:m<ops.size->∀(i:Nat) (o:Oper),pre[i]?=some o->i ∉ ml->∃ t d,T0b o=some t/\o.dst=some d/\U0b d (ops.toList.drop m)=false/\U0b t (ops.toList.drop m)=false/\L07 ml t pre 0=true/\M07 i d (ops.toList.drop m)=true:=λhm i o hi hml=>by
  rcases b8 with h|h
  ·exfalso
   have:ops.toList.drop m = []:=by
    cases e:ops.toList.drop m with
    |nil=>rfl
    |cons x r=>rw[e]at h;cases h
   have:=List.drop_eq_nil_iff.1 this
   simp at this;omega
  ·have:=n0c h.1 i o hi
   rw[Nat.zero_add]at this
   rcases this with h1|h1
   ·exact absurd (y0d.1 h1) hml
   ·exact l0n h1
 have noselT:m<ops.size->Q0k (ops.toList.drop m)=true:=λhm=>by
  rcases b8 with h|h
  ·exfalso
   have:ops.toList.drop m = []:=by
    cases e:ops.toList.drop m with
    |nil=>rfl
    |cons x r=>rw[e]at h;cases h
   have:=List.drop_eq_nil_iff.1 this
   simp at this;omega
  ·exact h.2
 have preD:∀(i j:Nat) (oi oj:Oper) (d:Nat),pre[i]?=some oi->pre[j]?=some oj->oi.dst=some d->oj.dst=some d->i=j:=λi j oi oj d h1 h2 h3 h4 =>
  hD i j (E01 oi) (E01 oj) d (by rw[G9,h1];rfl) (by rw[G9,h2];rfl) (by rw[E9];exact h3) (by rw[E9];exact h4)
 have preN:∀(i:Nat) (o:Oper) (d:Nat),pre[i]?=some o->o.dst=some d->d<st.n:=λi o d h1 h2 =>
  hn (E01 o) (List.mem_of_getElem? (i:=i) (by rw[G9,h1];rfl)) d (by rw[E9];exact h2)
 have unl:∀ {listed:Array Bool} {j:Nat},listed.getD j true=false->listed.getD j false=false/\j<listed.size:=λ{listed j} hj=>by
  grind
 have allpre:∀ {listed:Array Bool} {a:Act} {w:World},(∀ j,j<pre.length->listed.getD j false=true)->x0d P h0 w0 pre st h A listed a w->Rest m a w:=λ{listed a w} hl hi =>
  L0s (K:=λst h=>doT (x05 P) (ops.toList.drop m) st h K) hD hn hsb hal hP hfin hl hi
 have tail:∀ {Q:Exit->Act->World->Prop} {k:Nat} {o:Oper} {a:Act} {w:World},ops[k]?=some o->Rest k a w->o.wp P a w (Rest (k+1)) Q:=λ{Q k o a w} ho hr=>by
  obtain⟨st',h',be,oe,H,hd,s'⟩:=hr
  have hk:k<ops.toList.length:=by simpa using (Array.getElem?_eq_some_iff.1 ho).1
  have e:ops.toList.drop k=o::ops.toList.drop (k+1):=by
   grind[List.drop_eq_getElem_cons,List.getElem?_eq_getElem,oJ]
  rw[e]at hd
  exact r0l s' hd
 have virt:m<ops.size->∀ {listed:Array Bool} {a:Act} {w:World},listed.size=ops.size->(∀ i,i<m->i∈ml->listed.getD i false=true)->x0d P h0 w0 pre st h A listed a w ->
   ∀ k,k<=pre.length->∃ l2 as,l2.size=ops.size/\(∀ i,i<k->l2.getD i false=true)/\(∀ i,k<=i->l2.getD i false=listed.getD i false)/\x0d P h0 w0 pre st h A l2 as w /\
    c0g as a (λu=>∃(i:Nat) (o:Oper),i<k/\pre[i]?=some o/\listed.getD i false=false/\o.dst=some u) /\
    ∀(i:Nat) (o:Oper) (t d:Nat),i<k->pre[i]?=some o->listed.getD i false=false->T0b o=some t->o.dst=some d->y09 o (a.tmps.getD t undef)=some (as.tmps.getD d undef):=by
  intro hmN listed a w hsz hml hA k
  induction k with
  |zero=>exact λ_=>⟨listed,a,hsz,λi hi=>by omega,λi _=>rfl,hA,⟨rfl,rfl,λ_ _=>rfl⟩,λi o t d hi=>by omega⟩
  |succ k ih =>
   intro hk
   obtain⟨l2,as,z1,z2,z3,z4,z5,z6⟩:=ih (by omega)
   cases hlk:listed.getD k false with
   |true =>
    refine⟨l2,as,z1,λi hi=>?_,λi hi=>z3 i (by omega),z4,⟨z5.1,z5.2.1,λu hu=>z5.2.2 u λ⟨i,o,q1,q2⟩=>hu ⟨i,o,by omega,q2⟩⟩,λi o t d hi q1 q2 q3 q4=>?_⟩
    ·by_cases e:i=k
     ·subst e;rw[z3 i (Nat.le_refl _)];exact hlk
     ·exact z2 i (by omega)
    ·have:i≠k:=λe=>by subst e;rw[hlk]at q2;cases q2
     exact z6 i o t d (by omega) q1 q2 q3 q4
   |false =>
    obtain⟨o,ho⟩:∃ o,pre[k]?=some o:=⟨pre[k],List.getElem?_eq_getElem (by omega)⟩
    have hkm:k<m:=by omega
    have hkml:k ∉ ml:=λh=>by rw[hml k hkm h]at hlk;cases hlk
    obtain⟨t,d,y1,y2,y3,y4,y5,y6⟩:=lateOf hmN k o ho hkml
    have hg:=(f07 y1).1
    have hl2k:l2.getD k false=false:=by rw[z3 k (Nat.le_refl _)];exact hlk
    have hks:k<l2.size:=by rw[z1];omega
    have hun2:l2.getD k true=false:=by
     simp[hks]at hl2k ⊢;exact hl2k
    have hoL:ops.toList[k]?=some o:=by rw[hpg k hkm];exact ho
    have st1:=(o0t (Q:=λ_ _ _=>False) hD hn hB hdep hgd hP (λj o ho=>hall j o (Nat.zero_le _) ho) hsr hsb hal hun2 ho (λe he1 he2=>z2 e.on (hBB k o hoL e he1 he2)) z4).1 (by unfold Region.wanted;rw[hg])
    obtain⟨v,v1,v2⟩:=M0s y1 st1
    have hasz:as.tmps.size=st.n:=by
     obtain⟨_,_,_,_,_,_,iu,_,_⟩:=z4
     obtain⟨_,_,_,_,_,s,_⟩:=iu
     exact s.siz
    have htne : ¬ ∃(i:Nat) (o:Oper),i<k/\pre[i]?=some o/\listed.getD i false=false/\o.dst=some t:=λ⟨i,o',q1,q2,q3,q4⟩=>by
     have:=x07 y5 i o' q2 q4
     rw[Nat.zero_add]at this
     rw[hml i (by omega) this]at q3;cases q3
    rw[z5.2.2 t htne]at v1
    rw[y2]at v2
    refine⟨l2.setIfInBounds k true,as.put (some d) v,by simpa using z1,λi hi=>?_,λi hi=>?_,v2,⟨by simp[Act.put,z5.1],z5.2.1,λu hu=>?_⟩,λi o' t' d' hi q1 q2 q3 q4=>?_⟩
    ·by_cases e:k=i
     ·subst e;simp[hks]
     ·rw[getD_set_ne false e];exact z2 i (by omega)
    ·rw[getD_set_ne false (by omega)];exact z3 i (by omega)
    ·rw[C05,if_neg λe=>hu ⟨k,o,by omega,ho,hlk,by rw[y2,e.1]⟩]
     exact z5.2.2 u λ⟨i,o',q1,q2⟩=>hu ⟨i,o',by omega,q2⟩
    ·rw[C05]
     by_cases e:i=k
     ·subst e
      rw[ho]at q1;cases q1
      rw[y1]at q3;cases q3
      rw[y2]at q4;cases q4
      rw[if_pos ⟨rfl,by rw[hasz];exact preN i o d ho y2⟩]
      exact v1
     ·rw[if_neg λh=>e (preD i k o' o d' q1 ho q4 (by rw[y2,h.1]))]
      exact z6 i o' t' d' (by omega) q1 q2 q3 q4
 refine x0u (Inv:=Inv) hBB (λlisted a w j o hsz hun ho hrd hi=>?_) (λlisted a w hl hi=>?_) ops.size _ a w (by simp) (by simp[List.count_replicate]) ⟨λj o _ h=>?_,.inl ⟨λk _=>?_,x0d.start s⟩⟩
 rotate_left 2
 ·simp[Array.getElem?_replicate]at h
  split at h<;>cases h
 ·simp[Array.getElem?_replicate]
  split<;>simp
 rotate_left 1
 ·rcases hi.2 with⟨hm,hA⟩|⟨k,as,k1,k2,k3,k4,hr,lk,lt⟩
  ·have hms:ops.size<=m:=by
    rcases Nat.lt_or_ge m ops.size with h|h
    ·have:=hm m (Nat.le_refl _)
     rw[hl m h]at this;cases this
    ·exact h
   obtain⟨st',h',be,oe,H,hd,s'⟩:=allpre (λj hj=>hl j (by omega)) hA
   rw[List.drop_eq_nil_of_le (by simpa using hms)]at hd
   exact hQ a w st' h' be oe H hd s'
  ·have hk:k=ops.size:=by
    rcases Nat.lt_or_ge k ops.size with h|h
    ·have:=k4 k (Nat.le_refl _)
     rw[hl k h]at this;cases this
    ·omega
   subst hk
   obtain⟨st',h',be,oe,H,hd,s'⟩:=hr
   rw[List.drop_eq_nil_of_le (by simp)]at hd
   refine hQ a w st' h' be oe H hd (s'.like lk λu ⟨i,o,q1,q2,q3⟩=>?_)
   have:=(List.getElem?_eq_some_iff.1 q1).1
   rw[hl i (by omega)]at q2;cases q2
 ·obtain⟨hcl,hi⟩:=hi
  obtain⟨hjf,hjs⟩:=unl hun
  have hcl':∀(i:Nat) (oi:Oper),ops[i]?=some oi->(listed.setIfInBounds j true).getD i false=true->∀ e∈oi.after,Region.binds .any e=true->(listed.setIfInBounds j true).getD e.on false=true:=λi oi h1 h2 e he1 he2=>by
   by_cases hij:j=i
   ·subst hij
    rw[ho]at h1;cases h1
    exact getD_set_true (hrd e he1 he2)
   ·rw[getD_set_ne false hij]at h2
    exact getD_set_true (hcl i oi h1 h2 e he1 he2)
  have hoL:ops.toList[j]?=some o:=by simpa using ho
  have hjlt:j<ops.size:=(Array.getElem?_eq_some_iff.1 ho).1
  by_cases hjm:j<m
  ·rcases hi with⟨hm,hA⟩|⟨k,as,k1,k2,k3,k4,hr,lk,lt⟩
   ·have hop:pre[j]?=some o:=by rw[←hpg j hjm];exact hoL
    have st1:=o0t (Q:=Q) hD hn hB hdep hgd hP (λj o ho=>hall j o (Nat.zero_le _) ho) hsr hsb hal hun hop hrd hA
    have hyd:Region.wanted o (yielded ops a.tmps)=Region.wanted o (yielded (N6 pre).toArray a.tmps):=by
     unfold Region.wanted
     cases hg:o.guard with
     |none=>rfl
     |some p =>
      obtain⟨i,wv⟩:=p
      obtain⟨e,he1,he2,he3⟩:=L9 (hgd (E01 o) (List.mem_of_getElem? (i:=j) (by rw[G9,hop];rfl)) i wv (by rw[o0l];exact hg))
      rw[n0l]at he1
      have hlt:=hBB j o hoL e he1 he2
      rw[he3]at hlt
      have hig:=hpg i (by omega)
      have:yielded ops a.tmps i=yielded (N6 pre).toArray a.tmps i:=by
       unfold yielded
       have e1:ops[i]?=pre[i]?:=by rw[←hig];simp
       have e2:(N6 pre).toArray[i]?=(pre[i]?).map E01:=by simp[G9]
       rw[e1,e2]
       cases pre[i]? with
       |none=>rfl
       |some o0=>simp[E9]
      simp only[this]
    rw[hyd]
    have up:∀ a' w',x0d P h0 w0 pre st h A (listed.setIfInBounds j true) a' w'->Inv (listed.setIfInBounds j true) a' w':=λa' w' hx=>⟨hcl',.inl ⟨λk hk=>by rw[getD_set_ne false (by omega)];exact hm k hk,hx⟩⟩
    exact⟨λhw=>Oper.wp_mono up (st1.1 hw),λhw=>up _ _ (st1.2 hw)⟩
   ·have hop:pre[j]?=some o:=by rw[←hpg j hjm];exact hoL
    have hjml:j ∉ ml:=by
     rcases k3 j (by omega)with h|h
     ·rw[hjf]at h;cases h
     ·exact h.2
    obtain⟨t,d,y1,y2,y3,y4,y5,y6⟩:=lateOf (by omega) j o hop hjml
    have hg:=(f07 y1).1
    refine⟨λ_=>?_,λhw=>by unfold Region.wanted at hw;rw[hg]at hw;cases hw⟩
    unfold Oper.wp
    rw[q0l y1 (lt j o t d hop hjf y1 y2) w]
    refine⟨hcl',.inr ⟨k,as,k1,k2,λi hi=>?_,λi hi=>?_,hr,⟨by rw[y2];simp[Act.put,lk.1],by rw[y2];exact lk.2.1,λu hu=>?_⟩,λi o' t' d' q1 q2 q3 q4=>?_⟩⟩
    ·rcases k3 i hi with h|h
     ·exact .inl (getD_set_true h)
     ·exact .inr h
    ·rw[getD_set_ne false (by omega)];exact k4 i hi
    ·rw[y2,C05]
     by_cases e:d=u
     ·subst e
      by_cases hlt:d<a.tmps.size
      ·rw[if_pos ⟨rfl,hlt⟩]
      ·rw[if_neg λh=>hlt h.2]
       have e1:∀(x:Act),¬ d<x.tmps.size->x.tmps.getD d undef=undef:=λx hx=>by
        simp[Array.getElem?_eq_none (Nat.le_of_not_lt hx)]
       rw[e1 a hlt,e1 as (by rw[lk.1];exact hlt)]
     ·rw[if_neg λh=>e h.1]
      refine lk.2.2 u λ⟨i,o',q1,q2,q3⟩=>?_
      by_cases e2:j=i
      ·subst e2
       rw[hop]at q1;cases q1
       rw[y2]at q3;cases q3
       exact e rfl
      ·exact hu ⟨i,o',q1,by rw[getD_set_ne false e2];exact q2,q3⟩
    ·have e2:j≠i:=λe2=>by subst e2;simp[hjs]at q2
     rw[getD_set_ne false e2]at q2
     have hi':=(List.getElem?_eq_some_iff.1 q1).1
     have himl:i ∉ ml:=by
      rcases k3 i (by omega)with h|h
      ·rw[q2]at h;cases h
      ·exact h.2
     obtain⟨t2,d2,x1,x2,x3,x4,x5,x6⟩:=lateOf (by omega) i o' q1 himl
     rw[q3]at x1;cases x1
     rw[y2,C05,if_neg λh=>?_]
     ·exact lt i o' t' d' q1 q2 q3 q4
     ·have:=x07 x5 j o hop (by rw[y2,h.1])
      rw[Nat.zero_add]at this
      exact hjml this
  ·have hg:o.guard=none:=sq1 o (List.mem_of_getElem? (i:=j-m) (by rw[hdg];rw[show m+(j-m)=j by omega];exact hoL))
   have prev:m<j->listed.getD (j-1) false=true:=λhlt=>by
    have:=sq2 (j-m-1) o (by rw[hdg];rw[show m+(j-m-1+1)=j by omega];exact hoL)
    obtain⟨e,he1,he2,he3⟩:=L9 this
    have:=hrd e he1 he2
    rw[he3,show m+(j-m-1)=j-1 by omega]at this
    exact this
   refine⟨λ_=>?_,λhw=>by unfold Region.wanted at hw;rw[hg]at hw;cases hw⟩
   have hmt:o∈ops.toList.drop m:=List.mem_of_getElem? (i:=j-m) (by rw[hdg,show m+(j-m)=j by omega];exact hoL)
   have go:∀ as,(∀ i,i<j->listed.getD i false=true∨(i<m/\i ∉ ml))->(∀ i,j<=i->listed.getD i false=false)->Rest j as w->c0g as a (Dl listed)->Lat listed as a->o.wp P a w (Inv (listed.setIfInBounds j true)) Q:=λas q1 q2 hr lk lt=>by
    have hjD:∀ u,Dl (listed.setIfInBounds j true) u↔Dl listed u:=λu=>by
     constructor
     ·rintro⟨i,o',p1,p2,p3⟩
      have:=(List.getElem?_eq_some_iff.1 p1).1
      rw[getD_set_ne false (by omega)]at p2
      exact⟨i,o',p1,p2,p3⟩
     ·rintro⟨i,o',p1,p2,p3⟩
      have:=(List.getElem?_eq_some_iff.1 p1).1
      exact⟨i,o',p1,by rw[getD_set_ne false (by omega)];exact p2,p3⟩
    have lateU:∀(i:Nat) (o':Oper),pre[i]?=some o'->listed.getD i false=false->i ∉ ml:=λi o' p1 p2=>by
     have:=(List.getElem?_eq_some_iff.1 p1).1
     rcases q1 i (by omega)with h|h
     ·rw[p2]at h;cases h
     ·exact h.2
    refine Oper.wp_mono (λa' w' hx=>?_) (N0s (Q:=Q) lk (b0g (noselT (by omega)) o hmt) (λu hu ⟨i,o',p1,p2,p3⟩=>?_) (tail (Q:=λ_ _ _=>False) ho hr))
    ·obtain⟨as',hr',lk',⟨v1,hv1⟩,v2,hv2⟩:=hx
     have e1:∀ u,o.dst≠some u->as'.tmps.getD u undef=as.tmps.getD u undef:=λu hu=>by
      cases hd:o.dst with
      |none =>
       rw[hd]at hv1
       rcases hv1 with h|⟨x,h⟩<;>rw[h]<;>rfl
      |some d =>
       rw[hd]at hv1 hu
       rcases hv1 with h|⟨x,h⟩<;>rw[h,C05,if_neg λh=>hu (by rw[h.1])]
     have e2:∀ u,o.dst≠some u->a'.tmps.getD u undef=a.tmps.getD u undef:=λu hu=>by
      cases hd:o.dst with
      |none =>
       rw[hd]at hv2
       rcases hv2 with h|⟨x,h⟩<;>rw[h]<;>rfl
      |some d =>
       rw[hd]at hv2 hu
       rcases hv2 with h|⟨x,h⟩<;>rw[h,C05,if_neg λh=>hu (by rw[h.1])]
     refine⟨hcl',.inr ⟨j+1,as',by omega,by omega,λi hi=>?_,λi hi=>?_,hr',⟨lk'.1,lk'.2.1,λu hu=>lk'.2.2 u λh=>hu ((hjD u).2 h)⟩,λi o' t d p1 p2 p3 p4=>?_⟩⟩
     ·by_cases e:j=i
      ·subst e;left;simp[hjs]
      ·rw[getD_set_ne false e];exact q1 i (by omega)
     ·rw[getD_set_ne false (by omega)];exact q2 i (by omega)
     ·have hi':=(List.getElem?_eq_some_iff.1 p1).1
      rw[getD_set_ne false (by omega)]at p2
      obtain⟨t2,d2,x1,x2,x3,x4,x5,x6⟩:=lateOf (by omega) i o' p1 (lateU i o' p1 p2)
      rw[p3]at x1;cases x1
      rw[p4]at x2;cases x2
      rw[e1 d (r0b x3 o hmt),e2 t (r0b x4 o hmt)]
      exact lt i o' t d p1 p2 p3 p4
    ·obtain⟨t2,d2,x1,x2,x3,x4,x5,x6⟩:=lateOf (by omega) i o' p1 (lateU i o' p1 p2)
     rw[p3]at x2;cases x2
     obtain⟨e,he1,he2,he3⟩:=L9 (X0a x6 o hmt hu)
     have:=hrd e he1 he2
     rw[he3,p2]at this;cases this
   rcases hi with⟨hm,hA⟩|⟨k,as,k1,k2,k3,k4,hr,lk,lt⟩
   ·have hjm':j=m:=by
     rcases Nat.lt_or_ge m j with h|h
     ·have:=prev h
      rw[hm (j-1) (by omega)]at this;cases this
     ·omega
    subst hjm'
    have hml:∀ i,i<j->i∈ml->listed.getD i false=true:=λi hi hmi=>by
     have:=q0b (G:=λi=>i=j∨listed.getD i false=true) (ops:=ops.toList) (λi' j' o' hG ho' he'=>?_) j [j] (λx hx => .inl (by simpa using hx)) i hmi
     ·rcases this with h|h
      all_goals omega
     ·obtain⟨e,he1,he2,he3⟩:=L9 he'
      rw[←he3]
      right
      rcases hG with rfl|hG
      ·rw[hoL]at ho';cases ho'
       exact hrd e he1 he2
      ·exact hcl j' o' (by simpa using ho') hG e he1 he2
    obtain⟨l2,as,z1,z2,z3,z4,z5,z6⟩:=virt hjlt (by assumption) hml hA pre.length (Nat.le_refl _)
    refine go as (λi hi=>?_) hm (allpre (λi hi=>z2 i hi) z4) ⟨z5.1,z5.2.1,λu hu=>z5.2.2 u λ⟨i,o',p1,p2⟩=>hu ⟨i,o',p2⟩⟩ (λi o' t d p1 p2 p3 p4=>z6 i o' t d (List.getElem?_eq_some_iff.1 p1).1 p1 p2 p3 p4)
    by_cases h:i∈ml
    ·exact .inl (hml i hi h)
    ·exact .inr ⟨hi,h⟩
   ·have hjk:j=k:=by
     have h1:k<=j:=by
      rcases Nat.lt_or_ge j k with h|h
      ·rcases k3 j h with h2|h2
       ·rw[hjf]at h2;cases h2
       ·omega
      ·exact h
     rcases Nat.lt_or_ge k j with h|h
     ·have:=prev (by omega)
      rw[k4 (j-1) (by omega)]at this;cases this
     ·omega
    subst hjk
    exact go as k3 k4 hr lk lt
end
end Go.H
namespace Go.H
set_option linter.unusedVariables false
set_option linter.unusedSimpArgs false
section
variable {P:Program} {h0:Hp} {w0:World} {Q:Exit->Act->World->Prop} {ops:Array Oper} {K:RS->Prop}
theorem s0l{be:Nat->Nat}{oe:Nat->Value}{H:Hp}{rs:RS}{a:Act}{w:World}{o:Oper}{i:Nat}{e:RS->Prop}(f:Sim P h0 w0 be oe H rs.st rs.h a w)(r:t09 ops be oe rs a i)(m:ops[i]?=some o)
  {ch:List (Nat×Bool)} {c:Bool} (j:q01 rs.bs o.guard=some ch) (d:cB rs.bs ch=some c) (k:evG P o ch c rs λav=>D0f o.dst i ch av rs e) :
  ∃ v b,e b/\t09 ops be oe b (a.put o.dst v) (i+1)/\Sim P h0 w0 be oe H b.st b.h (a.put o.dst v) w/\Region.wanted o (yielded ops a.tmps)=c /\
   (c=true->∀ g,CW H w g->o.quietAt P a (CW H w) g v)/\(c=false->v=undef):=by
 obtain⟨av,l,n⟩:=w0p f r d k
 have p:=v0p r j d
 cases c with
 |true =>
  grind[u06]
 |false =>
  obtain⟨b,q,_,s,t⟩:=u06 (v:=undef) f r m d (λh=>by cases h) (λ_=>rfl) l
  grind
theorem g07(f:∀ rs a w be oe H,K rs->Sim P h0 w0 be oe H rs.st rs.h a w->Q .normal a w):∀(l:List Oper) (i:Nat) (rs:RS) (a:Act) (w:World) (be:Nat->Nat) (oe:Nat->Value) (H:Hp),
  (∀ j,l[j]?=ops[i+j]?)->Sim P h0 w0 be oe H rs.st rs.h a w->t09 ops be oe rs a i->n0e P l i rs K->wpList P ops Q l a w
 | [],i,rs,a,w,be,oe,H,_,d,_,b=>f rs a w be oe H b d
 |o::l,i,rs,a,w,be,oe,H,y,d,r,b=>by
  have z:ops[i]?=some o:=by simpa using (y 0).symm
  have s:∀ j,l[j]?=ops[i+1+j]?:=λj=>by have:=y (j+1);grind
  have O:∀ ch c,q01 rs.bs o.guard=some ch->cB rs.bs ch=some c->(evG P o ch c rs λav=>D0f o.dst i ch av rs λrs=>n0e P l (i+1) rs K)->wpList P ops Q (o::l) a w:=by
   intro ch c G F b
   obtain⟨v,p,k,A,n,u,L,t⟩:=s0l d r z G F b
   unfold wpList
   rw[u]
   cases c with
   |false =>
    rw[if_neg (by simp),←t rfl]
    exact g07 f l (i+1) p _ w be oe H s n A k
   |true =>
    rw[if_pos rfl]
    refine .inl (Oper.wp_of_quiet (C:=CW H w) (K:=λq=>q=a.put o.dst v) (D3.refl d.mv.vis) (λq x m e=>?_) ⟨v,L rfl,rfl⟩)
    subst e
    exact g07 f l (i+1) p _ x be oe H s (n.still (hf:=H) (λ_ _ h=>h) m) A k
  simp only[n0e]at b
  split at b
  ·rename_i I R
   have u:Region.wanted o (yielded ops a.tmps)=true:=by unfold Region.wanted;rw[I]
   unfold wpList
   rw[if_pos u]
   refine .inl (Oper.wp_mono (λq x t=>?_) (i01 (Q:=Q) d b))
   obtain⟨av,st',E,v,be',oe',B,J,rfl,N,g,D⟩:=t
   obtain⟨p,k,_,n,M⟩:=u06 (rs := { rs with st:=st',h:=E }) (ch:=[]) (c:=true) (v:=v) N (r.grow D) z rfl (λ_=>g) (λh=>by cases h) J
   exact g07 f l (i+1) p _ x be' oe' B s M n k
  grind
theorem q0i{be:Nat->Nat}{oe:Nat->Value}{H:Hp}{w:World}(f:∀ rs a w be oe H,K rs->Sim P h0 w0 be oe H rs.st rs.h a w->Q .normal a w):∀(l:List Oper) (i:Nat) (rs:RS) (a:Act),
  (∀ j,l[j]?=ops[i+j]?)->Sim P h0 w0 be oe H rs.st rs.h a w->t09 ops be oe rs a i->evQ P l i rs K->wpQuiet P ops (CW H w) (λk=>∀ d,CW H w d->Q .normal k d) l a
 | [],i,rs,a,_,e,_,b=>λd m=>f rs a d be oe H b (e.still (hf:=H) (λ_ _ h=>h) m)
 |o::l,i,rs,a,g,e,r,b=>by
  have s:ops[i]?=some o:=by simpa using (g 0).symm
  have q:∀ j,l[j]?=ops[i+1+j]?:=λj=>by have:=g (j+1);grind
  simp only[evQ]at b
  split at b
  ·rename_i ch p
   split at b
   ·rename_i c n
    obtain⟨v,B,y,z,A,u,t,C⟩:=s0l e r s p n b
    have x:=q0i f l (i+1) B _ q A z y
    unfold wpQuiet
    rw[u]
    cases c with
    |false=>grind
    |true=>rw[if_pos rfl];exact⟨v,t rfl,x⟩
   ·exact b.elim
  ·exact b.elim
theorem t09.init{be:Nat->Nat}{oe:Nat->Value}{st:St}{h:Hp}{a:Act}:t09 ops be oe ⟨st,h,[],[]⟩ a 0 :=
 ⟨(λx b=>nomatch b),(λx b=>nomatch b),(λd ch av c=>nomatch c)⟩
def M0j(P:Program)(h0:Hp)(w0:World)(Q:Ex->St->Hp->Prop):Exit->Act->World->Prop
 | .normal,a,w=>∃ st h be oe H,Q .normal st h/\Sim P h0 w0 be oe H st h a w
 | .exit i,a,w=>∃ st h be oe H,Q (.exit i) st h/\Sim P h0 w0 be oe H st h a w
 | .ret,a,w=>∃ st h be oe H,Q .ret st h/\Sim P h0 w0 be oe H st h a w
 |_,_,_=>False
variable {be:Nat->Nat} {oe:Nat->Value} {H:Hp} {st:St} {h:Hp} {a:Act} {w:World}
theorem N0j{Q:Ex->St->Hp->Prop}{id:Nat}{d:Bool}(b:Sim P h0 w0 be oe H st h a w)(f:ev P (.region id ops d) Q st h):(Code.region id ops d).wp P (M0j P h0 w0 Q) a w:=by
 cases d with
 |false =>
  simp only[ev]at f
  split at f
  ·exact wp_region_list ((k0l (h0:=h0) (w0:=w0) f.1 f.2 λa w st h be oe H l b=>⟨st,h,be,oe,H,l,b⟩).2 b)
  ·exact wp_region_list (g07 (K:=λrs=>Q .normal rs.st rs.h) (λrs a w be oe H l b=>⟨rs.st,rs.h,be,oe,H,l,b⟩) _ 0 ⟨st,h,[],[]⟩ a w be oe H (λj=>by simp) b t09.init f)
 |true =>
  rcases f with⟨⟨p,n⟩,f⟩|f|f|⟨⟨p,n⟩,f⟩|⟨m,⟨p,n⟩,f⟩
  ·refine wp_region_quiet (C:=CW H w) p n (D3.drawn b.mv.vis _ (by grind)) ?_
   exact q0i (K:=λrs=>Q .normal rs.st rs.h) (λrs a w be oe H l b=>⟨rs.st,rs.h,be,oe,H,l,b⟩) _ 0 ⟨st,h,[],[]⟩ a (λj=>by simp) b t09.init f
  ·exact f.elim
  ·split at f
   ·obtain⟨⟨p,n⟩,f⟩:=f
    exact wp_region_any p (z0p (b.still (hf:=H) (λ_ _ h=>h) (D3.drawn b.mv.vis _ (by grind))) n f λa w st h be oe H l b=>⟨st,h,be,oe,H,l,b⟩)
   ·rename_i o J
    obtain⟨⟨p,n⟩,f⟩:=f
    simp only[Bool.and_eq_true]at n
    obtain⟨A,G,D⟩:=B0p J
    have s:=b.still (hf:=H) (λ_ _ h=>h) (D3.drawn b.mv.vis (w.drawn+1) (by grind))
    obtain⟨Inv,t,u,x,q⟩:=g0l (ops:=(v02 ops.toList).toArray) (Q:=M0j P h0 w0 Q) (R:=λa w=>o.wp P a w (λa w=>M0j P h0 w0 Q .normal a w) (M0j P h0 w0 Q)) s (by simpa using n.1) (by simpa using f) λa w st h be oe H l b=>by
     refine Oper.wp_mono (λL N I=>?_) (i01 (Q:=M0j P h0 w0 Q) b l)
     obtain⟨av,st',B,v,be',oe',z,l,rfl,s,g,M⟩:=I
     obtain⟨y,t,u,x,q⟩:=u06 (ops := #[o]) (i:=0) (rs:=⟨st',B,[],[]⟩) (ch:=[]) (c:=true) (v:=v) s t09.init (by rfl) rfl (λ_=>g) (λh=>by cases h) l
     exact⟨y.st,y.h,be',oe',z,t,q⟩
    exact wp_region_any p (v0u (ops0:=(v02 ops.toList).toArray) (o:=o) (Inv:=Inv) (by simpa using A) (λk o l e F E=>by
     have:=d05 n.2 k o l e F E
     omega) G (λk l=>w07 D k (by simpa using l) (by simp at l;omega)) u x q)
  ·exact wp_region_any p ((k0l (h0:=h0) (w0:=w0) n f λa w st h be oe H l b=>⟨st,h,be,oe,H,l,b⟩).1 (b.still (hf:=H) (λ_ _ h=>h) (D3.drawn b.mv.vis _ (by grind))))
  ·exact wp_region_any p (D0p n f (λa w st h be oe H l b=>⟨st,h,be,oe,H,l,b⟩) (b.still (hf:=H) (λ_ _ h=>h) (D3.drawn b.mv.vis _ (by grind))))
end
end Go.H
namespace Go.H
set_option linter.unusedVariables false
set_option linter.unusedSimpArgs false
theorem D05(x:Nat):∀ l:List Nat,m0b x l=true↔x∈l
 | []=>by simp[m0b]
 |y::r=>by
  simp only[m0b]
  cases h:Nat.beq x y with
  |true=>simp_all
  |false=>simp[D05 x r,Nat.ne_of_beq_eq_false h]
theorem D08{x:Nat}{l:List Nat}(h:m0b x l=false):x ∉ l:=λa=>by grind[D05]
theorem r0i:∀(l:List Nat) (K:List Nat->Prop),i0d l K=K l
 | [],K=>rfl
 |x::r,K=>by simp only[i0d,r0i r]
theorem o0c:∀(n:Nat) {K:List Value->Prop},W0b n K->∀ vs:List Value,vs.length=n->K vs
 |0,K,h,vs,a=>by rw[List.length_eq_zero_iff.1 a];exact h
 |n+1,K,h,[],a=>by cases a
 |n+1,K,h,v::vs,a=>o0c n (h v) vs (by simpa using a)
theorem p0c:∀(n:Nat) {K:List (List (List Value))->Prop},X0b n K->∀ os:List (List (List Value)),os.length=n->K os
 |0,K,h,vs,a=>by rw[List.length_eq_zero_iff.1 a];exact h
 |n+1,K,h,[],a=>by cases a
 |n+1,K,h,v::vs,a=>p0c n (h v) vs (by simpa using a)
theorem s0b{c:Type}:∀(a b:List c) (K:List c->List c->Prop),o09 a.length (a++b) K=K a b
 | [],b,K=>rfl
 |x::a,b,K=>by simp only[List.length_cons,List.cons_append,o09,s0b a b]
theorem z0d(e:St):∀(l:List Nat) {K:List Value->Prop},B0s l e K->∃ vs,vs.length=l.length/\K vs /\
  ∀ acc t,(J3 (j0d l vs acc) t=J3 acc t/\t ∉ l)∨(∃ v,J3 (j0d l vs acc) t = .val v/\rdA e (J3 e.fr t) = .val v)
 | [],K,h=>⟨[],rfl,h,λacc t => .inl ⟨rfl,by simp⟩⟩
 |b::r,K,h=>by
  simp only[B0s]at h
  split at h
  ·rename_i v i
   obtain⟨vs,c,d,f⟩:=z0d e r h
   refine⟨v::vs,by simp[c],d,λacc t=>?_⟩
   rcases f ((b,.val v)::acc) t with⟨a,g⟩|a
   ·by_cases e':b=t
    ·simp_all[j0d,j4,if_true]
    simp_all[j0d,j4,if_neg,Ne.symm]
   ·exact .inr a
  ·exact h.elim
def y06(B:Nat->Nat->Prop):List P6->Prop
 | []=>True
 | .val _::r=>y06 B r
 | .own i k::r=>B i k/\y06 B r
def ShC(e:St):List P6->List P6->Prop
 | [],[]=>True
 | .val _::r,.val _::a=>ShC e r a
 | .own i _::r,.own j c::a=>i=j/\(∃ b,rdA e (.own j c) = .own j b)/\ShC e r a
 |_,_=>False
def EqC(e:St):List P6->List P6->Prop
 | [],[]=>True
 | .val v::r,.val d::a=>v=d/\EqC e r a
 | .own i _::r,.own j c::a=>i=j/\(∃ b,rdA e (.own j c) = .own j b)/\EqC e r a
 |_,_=>False
theorem EqC.sh{e:St}:∀ {cs cs':List P6},EqC e cs cs'->ShC e cs cs'
 | [],[],_=>trivial
 | .val _::r,.val _::a,h=>EqC.sh (cs:=r) (cs':=a) h.2
 | .own i _::r,.own j b::a,h=>⟨h.1,h.2.1,EqC.sh (cs:=r) (cs':=a) h.2.2⟩
 | [],_::_,h=>h.elim
 | .val _::_,[],h=>h.elim
 | .own _ _::_,[],h=>h.elim
 | .val _::_,.own _ _::_,h=>h.elim
 | .own _ _::_,.val _::_,h=>h.elim
theorem q0c{e:St}{i k a b:Nat}(h:rdA e (.own i k) = .own a b):a=i/\b=k:=by
 grind[rdA]
theorem E08{g e:St}:∀(cs cs':List P6),Q07 g e cs cs'=true->ShC e cs cs'
 | [],[],_=>trivial
 | .val _::r,.val _::c,h=>E08 r c h
 | .own i _::r,.own j k::c,h=>by
  simp only[Q07]at h
  split at h
  ·rename_i a b f d
   obtain⟨rfl,_⟩:=q0c d
   exact⟨Nat.eq_of_beq_eq_true f,⟨_,d⟩,E08 r c h⟩
  ·cases h
 | [],_::_,h=>by cases h
 | .val _::_,[],h=>by cases h
 | .own _ _::_,[],h=>by cases h
 | .val _::_,.own _ _::_,h=>by cases h
 | .own _ _::_,.val _::_,h=>by cases h
theorem A0d(e:St):∀(cs cs':List P6),ShC e cs cs'->∀ {K:List Value->Prop},T0k cs' e K->∃ vs,K vs/\∃ a,(∀(f:List Value) (c:List P6->List Value->Prop),m05 cs (vs++f) c=c a f)/\EqC e a cs' /\
  (∀ B,y06 B cs->y06 B a)
 | [],[],_,K,h=>⟨[],h,[],λ_ _=>rfl,trivial,λ_ h=>h⟩
 | .val _::r,.val v::n,b,K,h=>by
  obtain⟨vs,g,a,o,l,m⟩:=A0d e r n b (K:=λvs=>K (v::vs)) h
  exact⟨v::vs,g,.val v::a,λf c=>by grind[m05],⟨rfl,l⟩,λB d=>m B d⟩
 | .own i k::r,.own j p::n,b,K,h=>by
  obtain⟨vs,g,a,o,l,m⟩:=A0d e r n b.2.2 (K:=K) h
  exact⟨vs,g,.own i k::a,λf c=>by simp only[m05,o],⟨b.1,b.2.1,l⟩,λB d=>⟨d.1,m B d.2⟩⟩
 | [],_::_,h,_,_=>h.elim
 | .val _::_,[],h,_,_=>h.elim
 | .own _ _::_,[],h,_,_=>h.elim
 | .val _::_,.own _ _::_,h,_,_=>h.elim
 | .own _ _::_,.val _::_,h,_,_=>h.elim
theorem B0d(e:St):∀(cs:List P6) {K:List Value->Prop},T0k cs e K->∃ vs,K vs/\∀(b:List Value) (a:List P6->List Value->Prop),m05 cs (vs++b) a=a cs b
 | [],K,h=>⟨[],h,λ_ _=>rfl⟩
 | .val v::r,K,h=>by
  obtain⟨vs,c,d⟩:=B0d e r (K:=λvs=>K (v::vs)) h
  grind[m05]
 | .own i k::r,K,h=>by
  obtain⟨vs,c,d⟩:=B0d e r (K:=K) h
  grind[m05]
theorem s0i{a:Type}(l:List a)(i:Nat)(x:a)(h:nth l i=some x):S01 l i x=l:=by
 grind[q06,List.getElem?_eq_some_iff,Z0b,List.set_getElem_self]
theorem q0o(e:St):∀(is:List Nat) {K:List Value->Prop},L0f is e K->∃ ws,K ws/\∀ a,N07 is ws e.bx a=a e.bx
 | [],K,h=>⟨[],h,λ_=>rfl⟩
 |i::r,K,h=>by
  simp only[L0f]at h
  split at h
  ·rename_i cs ty g
   obtain⟨vs,b,c⟩:=B0d e cs h
   obtain⟨ws,d,f⟩:=q0o e r b
   grind[N07,s0i]
  ·exact h.elim
theorem r0o(e:St):∀(is:List Nat) {K:List (List (List Value))->Prop},d0i is e K->∃ os,os.length=is.length/\K os/\∀ a,O07 is os e.ow a=a e.ow
 | [],K,h=>⟨[],rfl,h,λ_=>rfl⟩
 |i::r,K,h=>by
  simp only[d0i]at h
  split at h
  ·rename_i g ty sz by_ nn xs f
   obtain⟨ws,b,c,d⟩:=r0o e r h
   grind[O07,s0i]
  ·exact h.elim
theorem s0o(e:St):∀(is:List Nat) (bx:List BSt),(∀ i∈is,∃ cs ty cs',nth bx i=some (.live cs ty)/\nth e.bx i=some (.live cs' ty)/\ShC e cs cs')->∀ {K:List Value->Prop},L0f is e K ->
  ∃ ws,K ws/\∃ b,(∀ d,N07 is ws bx d=d b)/\b.length=bx.length/\(∀ i,i ∉ is->nth b i=nth bx i) /\
   (∀ i∈is,∃ c ty cs',nth b i=some (.live c ty)/\nth e.bx i=some (.live cs' ty)/\EqC e c cs') /\
   (∀ B,(∀ i cs ty,nth bx i=some (.live cs ty)->y06 B cs)->(∀ i cs ty,nth b i=some (.live cs ty)->y06 B cs))
 | [],bx,_,K,h=>⟨[],h,bx,λ_=>rfl,rfl,λ_ _=>rfl,by simp,λ_ h=>h⟩
 |i::r,bx,s,K,h=>by
  obtain⟨cs,ty,cs',p,f,q⟩:=s i mS
  simp only[L0f,f]at h
  obtain⟨vs,u,c,C,m,D⟩:=A0d e cs cs' q h
  have g:=f03 p
  have t:∀ j∈r,∃ k o l,nth (S01 bx i (.live c ty)) j=some (.live k o)/\nth e.bx j=some (.live l o)/\ShC e k l:=λj a=>by
   rw[E8 _ _ _ g]
   by_cases ej:j=i
   ·subst ej
    rw[if_pos rfl]
    exact⟨c,ty,cs',rfl,f,m.sh⟩
   grind
  obtain⟨ws,v,b,E,w,n,x,y⟩:=s0o e r _ t u
  refine⟨vs++ws,v,b,λd=>by grind[N07],by rw[w,W06],λj a=>?_,λj a=>?_,λB A=>y B λj z F a=>?_⟩
  ·simp only[List.mem_cons,not_or]at a
   rw[n j a.2,E8 _ _ _ g,if_neg a.1]
  ·by_cases hr:j∈r
   ·exact x j hr
   ·rcases List.mem_cons.1 a with rfl|a
    ·refine⟨c,ty,cs',?_,f,m⟩
     rw[n j hr,E8 _ _ _ g,if_pos rfl]
    ·exact absurd a hr
  grind[E8]
theorem t0o(g:St):∀(is:List Nat) (ow:List Own),(∀ i∈is,∃ f e sz by_ nn k c a xs,nth ow i=some ⟨f,.live e sz by_ nn k⟩/\nth g.ow i=some ⟨c,.live e sz by_ a xs⟩/\(nn=true->a=true)) ->
  ∀ {K:List (List (List Value))->Prop},d0i is g K->∃ os,os.length=is.length/\K os/\∃ d,(∀ l,O07 is os ow l=l d)/\(∀ i,i ∉ is->nth d i=nth ow i) /\
   (∀ i∈is,∃ f e sz by_ nn c a xs,nth d i=some ⟨f,.live e sz by_ nn xs⟩/\nth g.ow i=some ⟨c,.live e sz by_ a xs⟩/\(nn=true->a=true)) /\
   (∀ i,(nth d i).map (·.stamp)=(nth ow i).map (·.stamp))
 | [],ow,_,K,h=>⟨[],rfl,h,ow,λ_=>rfl,λ_ _=>rfl,by simp,λ_=>rfl⟩
 |i::r,ow,w,K,h=>by
  obtain⟨f,e,sz,by_,nn,k,c,a,xs,p,q,v⟩:=w i mS
  simp only[d0i,q]at h
  have m:=f03 p
  have x:∀ j∈r,∃ C o u n t k c a D,nth (S01 ow i ⟨f,.live e sz by_ nn xs⟩) j=some ⟨C,.live o u n t k⟩/\nth g.ow j=some ⟨c,.live o u n a D⟩/\(t=true->a=true):=λj b=>by
   rw[E8 _ _ _ m]
   grind
  obtain⟨os,y,z,d,A,s,B,E⟩:=t0o g r _ x h
  refine⟨xs::os,by simp[y],z,d,λl=>by simp only[O07,p,A],λj b=>?_,λj b=>?_,λj=>?_⟩
  ·simp only[List.mem_cons,not_or]at b
   rw[s j b.2,E8 _ _ _ m,if_neg b.1]
  ·by_cases hr:j∈r
   ·exact B j hr
   ·rcases List.mem_cons.1 b with rfl|b
    ·refine⟨f,e,sz,by_,nn,c,a,xs,?_,q,v⟩
     rw[s j hr,E8 _ _ _ m,if_pos rfl]
    ·exact absurd b hr
  grind[E8]
theorem z09{A:Ann}{m e:St}:∀(i:Nat) (bx c:List BSt),k0d A m e i bx c->∀ k b,nth bx k=some b ->
  (i+k∈A.boxes/\∃ cs ty cs',b = .live cs ty/\nth c k=some (.live cs' ty)/\ShC e cs cs')∨(i+k ∉ A.boxes/\nth c k=some b/\g0n A.owns b=true)
 |i,[],_,_,k,b,a=>by cases k<;>cases a
 |i,x::r,[],h,_,_,_=>by cases h
 |i,x::r,y::f,h,k,b,a=>by
  simp only[k0d]at h
  split at h
  ·rename_i d
   split at h
   ·rename_i cs ty cs' n
    split at h
    ·rename_i g j
     have:=Nat.eq_of_beq_eq_true g
     subst this
     cases k with
     |zero=>cases a;exact .inl ⟨(D05 _ _).1 d,cs,ty,cs',rfl,rfl,E08 _ _ j⟩
     |succ k=>have:=z09 (i+1) r f h k b a;rwa [show i+1+k=i+(k+1) from by omega]at this
    ·exact h.elim
   ·exact h.elim
  ·rename_i d
   split at h
   ·rename_i l
    obtain⟨rfl,h⟩:=h
    cases k with
    |zero=>cases a;exact .inr ⟨D08 d,rfl,l⟩
    |succ k=>have:=z09 (i+1) r f h k b a;rwa [show i+1+k=i+(k+1) from by omega]at this
   ·exact h.elim
theorem A09{A:Ann}:∀(i:Nat) (ow f:List Own),l0d A i ow f->∀ k b,nth ow k=some b ->
  (i+k∈A.owns/\∃ g e sz by_ nn n j d xs,b=⟨g,.live e sz by_ nn n⟩/\nth f k=some ⟨j,.live e sz by_ d xs⟩/\(nn=true->d=true)/\(i+k∈A.kept->g=j))∨(i+k ∉ A.owns/\nth f k=some b)
 |i,[],_,_,k,b,a=>by cases k<;>cases a
 |i,x::r,[],h,_,_,_=>by cases h
 |i,x::r,y::m,h,k,b,a=>by
  simp only[l0d]at h
  split at h
  ·rename_i c
   split at h
   ·rename_i g e sz by_ nn n j u v t d xs
    split at h
    ·rename_i o p q s l
     have:=Nat.eq_of_beq_eq_true o
     subst this
     have:=Nat.eq_of_beq_eq_true p
     subst this
     have:=Nat.eq_of_beq_eq_true q
     subst this
     cases k with
     |zero=>cases a;exact .inl ⟨(D05 _ _).1 c,_,_,_,_,_,_,_,_,_,rfl,rfl,(λh=>by subst h;exact s),λh=>by rw[show m0b i A.kept=true from(D05 _ _).2 h]at l;exact Nat.eq_of_beq_eq_true l⟩
     |succ k=>have:=A09 (i+1) r m h k b a;rwa [show i+1+k=i+(k+1) from by omega]at this
    ·exact h.elim
   ·exact h.elim
  ·rename_i c
   obtain⟨rfl,h⟩:=h
   cases k with
   |zero=>cases a;exact .inr ⟨D08 c,rfl⟩
   |succ k=>have:=A09 (i+1) r m h k b a;rwa [show i+1+k=i+(k+1) from by omega]at this
end Go.H
namespace Go.H
set_option linter.unusedVariables false
set_option linter.unusedSimpArgs false
def r0c(A:Ann)(st:St):AV->Prop
 | .val _ | .hel _ _ _ _ | .dead=>True
 | .agg cs=>h0o cs=true
 | .box i _=>i<st.bx.length
 | .own i k=>(i ∉ A.owns∨i∈A.kept)/\stamp st i=some k
 | .oel _ _ _ _ _=>False
theorem u0o{st:St}{av:AV}{i off:Nat}(h:rdA st av = .box i off):i<st.bx.length:=by
 cases av with
 |box j o =>
  simp only[rdA]at h
  split at h
  all_goals simp_all[f03]
 |own j k =>
  grind[rdA]
 |oel j s idx sz k =>
  grind[rdA]
 |_=>cases h
theorem C0d{st:St}{av:AV}{i k:Nat}(h:rdA st av = .own i k):stamp st i=some k:=by
 grind[q08,stamp]
theorem t0b(A:Ann)(ds:List Nat)(st:St):∀(l:List (Nat×AV)) {K:List (Nat×AV)->Prop},P07 A ds st l K->∃ a,K a/\∀ t,t ∉ ds ->
  J3 a t = .dead∨(J3 a t=rdA st (J3 l t)/\r0c A st (J3 a t))
 | [],K,h=>⟨[],h,λt _ => .inl rfl⟩
 |(j,av)::r,K,h=>by
  have put:∀ c,(c = .dead∨(c=rdA st av/\r0c A st c))->(P07 A ds st r λl=>K ((j,c)::l))->∃ a,K a/\∀ t,t ∉ ds ->
    J3 a t = .dead∨(J3 a t=rdA st (J3 ((j,av)::r) t)/\r0c A st (J3 a t)):=by
   intro c s h
   obtain⟨a,d,f⟩:=t0b A ds st r h
   refine⟨_,d,λt g=>?_⟩
   rw[j4,j4]
   grind
  simp only[P07]at h
  split at h
  ·rename_i n
   obtain⟨a,d,f⟩:=t0b A ds st r h
   refine⟨a,d,λt g=>?_⟩
   rw[j4,if_neg (λe=>g (by grind[D05]))]
   exact f t g
  ·split at h
   ·rename_i i k b
    split at h
    ·simp_all
    ·rename_i n
     refine put _ (.inr ⟨b.symm,?_,C0d b⟩) h
     grind[m0b,D08,D05,absurd]
   ·simp_all
   ·rename_i cs b
    split at h
    ·rename_i p
     exact put _ (.inr ⟨b.symm,p⟩) h
    simp_all
   ·rename_i d f m
    refine put _ (.inr ⟨rfl,?_⟩) h
    cases b:rdA st av with
    |own i k=>grind
    |oel i q idx sz k=>grind
    |agg cs=>exact absurd b (m cs)
    |box i o=>exact u0o b
    |val v=>trivial
    |hel q idx sz k=>trivial
    |dead=>trivial
def t0l(st:St)(t:Nat)(av:AV):Prop :=
 av = .dead∨(∃ i k,av = .own i k/\stamp st i=some k/\rdA st (J3 st.fr t) = .own i k)∨(∃ i o,av = .box i o/\i<st.bx.length/\rdA st (J3 st.fr t) = .box i o)
theorem u0b(A:Ann)(st:St):∀(l:List Nat) (acc:List (Nat×AV)) {K:List (Nat×AV)->Prop},S0a A st l acc K->(∀ p∈acc,t0l st p.1 p.2) ->
  ∃ a,K a/\(∀ p∈a,p.1∈l∨p∈acc)/\(∀ p∈a,t0l st p.1 p.2)/\(∀ t∈l,t ∉ A.vars->∃ av,(t,av)∈a)/\(∀ p∈acc,p∈a)
 | [],acc,K,h,f=>⟨acc,h,λp c => .inr c,f,by simp,λ_ h=>h⟩
 |d::r,acc,K,h,f=>by
  have put:∀ e,t0l st d e->S0a A st r ((d,e)::acc) K->∃ a,K a/\(∀ p∈a,p.1∈d::r∨p∈acc)/\(∀ p∈a,t0l st p.1 p.2)/\(∀ t∈d::r,t ∉ A.vars->∃ av,(t,av)∈a)/\(∀ p∈acc,p∈a):=by
   intro e s h
   obtain⟨a,g,j,m,q,n⟩:=u0b A st r _ h (λp c=>by
    grind)
   grind
  simp only[S0a]at h
  split at h
  ·rename_i u
   obtain⟨a,g,j,m,q,n⟩:=u0b A st r _ h f
   refine⟨a,g,λp c=>(j p c).imp (mC _) id,m,λt v w=>?_,n⟩
   grind[absurd,D05]
  ·split at h
   ·rename_i i k b
    exact put _ (.inr (.inl ⟨i,k,rfl,C0d b,b⟩)) h
   ·rename_i i o b
    exact put _ (.inr (.inr ⟨i,o,rfl,u0o b,b⟩)) h
   ·exact put _ (.inl rfl) h
theorem d0g:∀(b a:List (Nat×AV)) (t:Nat),(∃ av,(t,av)∈b/\J3 (b++a) t=av)∨((∀ av,(t,av) ∉ b)/\J3 (b++a) t=J3 a t)
 | [],a,t => .inr ⟨by simp,rfl⟩
 |(f,av)::r,a,t=>by
  simp only[List.cons_append]
  rw[j4]
  by_cases e:f=t
  ·grind
  ·rw[if_neg e]
   rcases d0g r a t with⟨g,c,d⟩|⟨c,d⟩
   all_goals grind
theorem e0g{c e:St}:∀(b:List (Nat×AV)),q0e c e b=true->∀ t av,(t,av)∈b->(∀ i k,av = .own i k->∃ a,rdA e (J3 e.fr t) = .own i a)/\(∀ i o,av = .box i o->rdA e (J3 e.fr t) = .box i o)
 | [],_,t,av,h=>by cases h
 |(f,x)::r,g,t,av,h=>by
  have d:q0e c e r=true/\(∀ i k,x = .own i k->∃ a,rdA e (J3 e.fr f) = .own i a)/\(∀ i o,x = .box i o->rdA e (J3 e.fr f) = .box i o):=by
   simp only[q0e]at g
   grind[Nat.eq_of_beq_eq_true,absurd]
  rcases List.mem_cons.1 h with h|h
  ·cases h;exact d.2
  ·exact e0g r d.1 t av h
theorem v0b{fr:List (Nat×AV)}:∀(a:List (Nat×AV)),e0i fr a=q0p a->∀ t,J3 a t = .dead∨J3 fr t=J3 a t
 | [],_,t => .inl rfl
 |(b,av)::r,h,t=>by
  rw[j4]
  simp only[e0i,q0p]at h
  cases hd:f0n av with
  |true =>
   rw[hd]at h
   by_cases e:b=t
   ·rw[if_pos e]
    left
    cases av<;>first|rfl|cases hd
   ·rw[if_neg e]
    exact v0b r h t
  |false =>
   rw[hd]at h
   simp only[List.cons.injEq]at h
   by_cases e:b=t
   ·grind
   ·rw[if_neg e]
    exact v0b r h.2 t
theorem D0d{e l:St}{be:Nat->Nat}{oe:Nat->Value}:∀ {d cs':List P6} {vs:List Value},EqC e d cs'->y06 (λj k=>∃ c,stamp l j=some c/\k<=c) d->M2 e oe cs' vs->M2 l oe d vs
 | [],[],[],_,_,_=>trivial
 | .val v::r,.val q::o,x::vs,h,a,g=>⟨by rw[show x=q from g.1,h.1];rfl,D0d (be:=be) h.2 a g.2⟩
 | .own i k::r,.own j s::o,x::vs,h,a,g=>by
  obtain⟨n,⟨b,f⟩,h⟩:=h
  subst n
  obtain⟨⟨c,s1,s2⟩,a⟩:=a
  refine⟨⟨c,s1,s2,λ_=>?_⟩,D0d (be:=be) h a g.2⟩
  obtain⟨_,m⟩:=q0c f
  subst m
  obtain⟨t,p,u,w⟩:=g.1
  rw[C0d f]at p
  grind
 | [],_::_,_,h,_,_=>h.elim
 | .val _::_,[],_,h,_,_=>h.elim
 | .own _ _::_,[],_,h,_,_=>h.elim
 | .val _::_,.own _ _::_,_,h,_,_=>h.elim
 | .own _ _::_,.val _::_,_,h,_,_=>h.elim
 |_,_::_,[],_,_,g=>g.elim
 |_,[],_::_,_,_,g=>g.elim
theorem F08{os:List Nat}{e c:St}{oe:Nat->Value}(d:∀ j,j ∉ os->∀ a,stamp c j=some a->stamp e j=some a):∀ {cs:List P6} {vs:List Value},V0b os cs=true ->
  y06 (λj k=>∃ a,stamp c j=some a/\k<=a) cs->M2 e oe cs vs->M2 c oe cs vs
 | [],[],_,_,_=>trivial
 | .val v::r,x::vs,h,b,g=>⟨g.1,F08 d h b g.2⟩
 | .own i k::r,x::vs,h,b,g=>by
  simp only[V0b]at h
  split at h
  ·cases h
  ·rename_i l
   obtain⟨⟨a,s1,s2⟩,b⟩:=b
   refine⟨⟨a,s1,s2,λf=>?_⟩,F08 d h b g.2⟩
   obtain⟨m,n,o,p⟩:=g.1
   grind[D08]
 | [],_::_,_,_,g=>g.elim
 |_::_,[],_,_,g=>g.elim
section
variable {P:Program} {h0:Hp} {w0:World} {be:Nat->Nat} {oe:Nat->Value} {H:Hp} {h:Hp} {a:Act} {w:World}
theorem h0r{A:Ann}{e l:St}(c:Sim P h0 w0 be oe H e h a w)(N:e.n=l.n)
  (I:∀ i b,nth l.bx i=some b->(∃ C ty cs',b = .live C ty/\nth e.bx i=some (.live cs' ty)/\EqC e C cs')∨(nth e.bx i=some b/\g0n A.owns b=true))
  (O:∀ i o,nth l.ow i=some o->(∃ c t sz by_ nn B q xs,o=⟨c,.live t sz by_ nn xs⟩/\nth e.ow i=some ⟨B,.live t sz by_ q xs⟩/\(nn=true->q=true))/\i∈A.owns∨(nth e.ow i=some o/\i ∉ A.owns))
  (G:∀ i cs ty,nth l.bx i=some (.live cs ty)->y06 (λj k=>∃ c,stamp l j=some c/\k<=c) cs)
  (hf:∀ t,O2 l be oe (J3 l.fr t) (a.tmps.getD t undef)):Sim P h0 w0 be oe H l h a w:=by
 have Q:∀ j,j ∉ A.owns->∀ c,stamp l j=some c->stamp e j=some c:=λj s m Z=>by
  grind[stamp,nth,absurd]
 have E:∀ i cs ty,nth l.bx i=some (.live cs ty)->∃ cs',nth e.bx i=some (.live cs' ty):=λi cs ty f=>by
  grind
 have D:∀ i m t sz by_ nn xs,nth l.ow i=some ⟨m,.live t sz by_ nn xs⟩->∃ B q,nth e.ow i=some ⟨B,.live t sz by_ q xs⟩/\(nn=true->q=true):=λi m t sz by_ nn xs f=>by
  grind
 refine⟨c.mv,c.sub,λi cs ty f=>?_,λi b f=>?_,λi m t sz by_ nn xs f=>?_,λi m v f=>?_,λi j cs ty cs' U f s=>?_,λi j m t sz by_ nn xs s1 T S L R W g f s=>?_,λi cs ty j m t sz by_ nn xs f s=>?_,c.dfr,by rw[c.siz,N],hf⟩
 ·rcases I i _ f with⟨C,V,cs',x,d,p⟩|⟨d,p⟩
  ·cases x
   obtain⟨y,vs,z,F⟩:=c.box i cs' ty d
   exact⟨y,vs,D0d (be:=be) p (G i _ _ f) z,F⟩
  ·obtain⟨y,vs,z,F⟩:=c.box i cs ty d
   exact⟨y,vs,F08 Q p (G i _ _ f) z,F⟩
 ·rcases I i _ f with⟨C,V,cs',x,d,p⟩|⟨d,p⟩
  ·cases x
  ·exact c.pub i b d
 ·obtain⟨B,q,d,p⟩:=D i _ _ _ _ _ _ f
  obtain⟨y,z⟩:=c.own i _ _ _ _ _ _ d
  refine⟨y,z.imp (λ⟨J,K,X⟩=>⟨J,K,?_⟩) id⟩
  grind
 ·rcases O i _ f with⟨⟨s1,T,S,L,R,B,q,W,x,d,p⟩,_⟩|⟨d,_⟩
  ·cases x
  ·exact c.frz i m v d
 ·obtain⟨M,u⟩:=E i cs ty f
  obtain⟨Y,d⟩:=E j cs' U s
  exact c.bb i j _ _ _ _ u d
 ·obtain⟨_,_,u,_⟩:=D i _ _ _ _ _ _ f
  obtain⟨_,_,d,_⟩:=D j _ _ _ _ _ _ s
  exact c.oo i j _ _ _ _ _ _ _ _ _ _ _ _ g u d
 ·obtain⟨M,u⟩:=E i cs ty f
  obtain⟨_,_,d,_⟩:=D j _ _ _ _ _ _ s
  exact c.bo i _ _ j _ _ _ _ _ _ u d
end
end Go.H
namespace Go.H
set_option linter.unusedVariables false
set_option linter.unusedSimpArgs false
section
variable {P:Program} {h0:Hp} {w0:World} {be:Nat->Nat} {oe:Nat->Value} {H:Hp} {st:St} {h:Hp} {a:Act} {w:World}
theorem i0r(b:Sim P h0 w0 be oe H st h a w):∀ i cs ty,nth st.bx i=some (.live cs ty)->y06 (λj k=>∃ b,stamp st j=some b/\k<=b) cs:=by
 intro i cs ty l
 obtain⟨_,vs,g,_⟩:=b.box i cs ty l
 have:∀(cs:List P6) (vs:List Value),M2 st oe cs vs->y06 (λj k=>∃ b,stamp st j=some b/\k<=b) cs:=by
  intro cs
  induction cs with
  |nil=>intro vs _;trivial
  |cons c r d =>
   intro vs g
   cases vs with
   |nil=>exact g.elim
   |cons v vs =>
    cases c with
    |val x=>exact d vs g.2
    |own j k =>
     obtain⟨m,e,f,_⟩:=g.1
     exact⟨⟨m,e,f⟩,d vs g.2⟩
 exact this cs vs g
theorem u0l(p:Nat->Prop)(h:∃ n,p n):∃ n,p n/\∀ m,p m->n<=m:=by
 obtain⟨n,a⟩:=h
 induction n using Nat.strongRecOn with
 |_ n b =>
  grind
theorem v0o:∀(a b:List Value),C0s a b=true->a.length=b.length
 | [],[],_=>rfl
 |_::r,_::c,h=>by simp[v0o r c h]
 | [],_::_,h=>by cases h
 |_::_,[],h=>by cases h
theorem Q0t{A:Ann}{ds:List Nat}{st e m:St}{f l:List (Nat×AV)}{y:List Value}{av1:∀ t,(J3 (j0d A.vars y (f++l)) t=J3 (f++l) t/\t ∉ A.vars)∨(∃ v,J3 (j0d A.vars y (f++l)) t = .val v/\rdA e (J3 e.fr t) = .val v)}
  (J:Sim P h0 w0 be oe H e h a w) (O:m.fr=j0d A.vars y (f++l)) (C:m.bx.length=st.bx.length) (D:∀ i,stamp m i=stamp st i)
  (ad:∀ i k,(i ∉ A.owns∨i∈A.kept)->stamp st i=some k->stamp e i=stamp m i)
  (aa:∀ p∈f,p.1∈ds) (K:∀ p∈f,t0l st p.1 p.2) (ab:∀ t∈ds,t ∉ A.vars->∃ av,(t,av)∈f)
  (s1:∀ t,t ∉ ds->r0c A st (J3 l t)) (S:∀ t av,(t,av)∈f->(∀ i k,av = .own i k->∃ F,rdA e (J3 e.fr t) = .own i F)/\(∀ i o,av = .box i o->rdA e (J3 e.fr t) = .box i o))
  (T:∀ t,J3 l t = .dead∨J3 e.fr t=J3 l t):∀ t,O2 m be oe (J3 m.fr t) (a.tmps.getD t undef):=by
 intro t
 rw[O]
 have b:=J.fr t
 have n:=J.rdA b
 rcases av1 t with⟨q,af⟩|⟨v,q,L⟩
 ·rw[q]
  rcases d0g f l t with⟨av,s,u⟩|⟨s,u⟩
  ·rw[u]
   obtain⟨W,X⟩:=S t av s
   rcases K _ s with rfl|⟨i,k,rfl,d,_⟩|⟨i,o,rfl,M,_⟩
   ·trivial
   ·obtain⟨F,B⟩:=W i k rfl
    rw[B]at n
    refine⟨k,by rw[D,d],Nat.le_refl _,λ_=>?_⟩
    obtain⟨z,aj,Z,ah,ak,Q⟩:=q08 B
    exact n.own_cur Q
   ·rw[X i o rfl]at n
    exact⟨by rw[C];exact M,n.2⟩
  ·rw[u]
   have U:t ∉ ds:=λac=>by
    grind
   rcases T t with N|z
   ·rw[N];trivial
   have d:=s1 t U
   rw[z]at b
   cases hl:J3 l t with
   |val v=>rw[hl]at b;exact b
   |hel Y idx sz k=>rw[hl]at b;exact b
   |dead=>trivial
   |agg cs =>
    rw[hl]at b d
    obtain⟨vs,G,I⟩:=b
    refine⟨vs,G,?_⟩
    have:∀(cs:List P6) (vs:List Value),h0o cs=true->M2 e oe cs vs->M2 m oe cs vs:=by
     intro cs
     induction cs with
     |nil=>intro vs _ g;cases vs<;>exact g
     |cons c r V =>
      intro vs E g
      cases vs with
      |nil=>exact g.elim
      |cons v vs =>
       cases c with
       |val x=>exact⟨g.1,V vs E g.2⟩
       |own j k=>cases E
    exact this cs vs d I
   |box i o =>
    rw[hl]at b d
    exact⟨by rw[C];exact d,b.2⟩
   |own i k =>
    rw[hl]at b d
    obtain⟨ae,R⟩:=d
    obtain⟨ai,G,I,ag⟩:=b
    refine⟨k,by rw[D,R],Nat.le_refl _,λ_=>?_⟩
    grind
   |oel i Y idx sz k=>rw[hl]at d;exact d.elim
 ·rw[q]
  rw[L]at n
  exact n
theorem x0e:∀(l:List (Nat×Nat×Nat×Nat)) (st:St) (oe:Nat->Value) {K:St->Prop},Sim P h0 w0 be oe H st h a w->R0k l st K->∃ st' oe',K st'/\Sim P h0 w0 be oe' H st' h a w
 | [],st,oe,K,d,c=>⟨st,oe,c,d⟩
 |(t,e,sz,by_)::r,⟨n,fr,bx,ow⟩,oe,K,d,c=>by
  simp only[R0k]at c
  split at c
  ·rename_i j p
   rw[O0b]at c
   have f:=d.rdA (d.fr t)
   have k:a.tmps.getD t undef = .slice none 0 0:=by
    have:rdA ⟨n,fr,bx,ow⟩ (J3 fr t) = .val (.slice none 0 0):=j
    rw[show rdA ⟨n,fr,bx,ow⟩ (J3 (St.mk n fr bx ow).fr t) = .val (.slice none 0 0) from this]at f
    exact f
   have g:R07 h H (.slice none 0 0) e sz false []:=⟨by simp,.inl ⟨rfl,rfl,rfl⟩⟩
   obtain⟨s1,m⟩:=d.newOwn (by_:=by_) (λb o i=>i) (D3.refl d.mv.vis) g (by simp[Value.ownBlock])
   refine x0e r _ _ (s1.refr (fr:=(t,.own ow.length 0)::fr) λu=>?_) c
   rw[j4]
   by_cases eu:t=u
   ·subst eu
    rw[if_pos rfl,k]
    exact⟨0,by simp[stamp,R03],Nat.le_refl _,λ_=>by simp⟩
   ·rw[if_neg eu]
    exact s1.fr u
  ·exact c.elim
theorem s0c:∀(l:List (Nat×Nat×Nat×Nat×Nat)) (st:St) (oe:Nat->Value) {K:St->Prop},Sim P h0 w0 be oe H st h a w->K0f l st K->∃ st' oe',K st'/\Sim P h0 w0 be oe' H st' h a w
 | [],st,oe,K,g,f=>⟨st,oe,f,g⟩
 |(i,k,e,sz,by_)::r,⟨n,fr,bx,ow⟩,oe,K,g,f=>by
  simp only[K0f]at f
  split at f
  rotate_left
  ·exact f.elim
  rename_i cs ty B
  split at f
  rotate_left
  ·exact f.elim
  rename_i N
  rw[O0b]at f
  have J:R07 h H (.slice none 0 0) e sz false []:=⟨by simp,.inl ⟨rfl,rfl,rfl⟩⟩
  obtain⟨s1,W⟩:=g.newOwn (by_:=by_) (λb o L=>L) (D3.refl g.mv.vis) J (by simp[Value.ownBlock])
  have A:=f03 B
  refine s0c r _ (λj=>if j=ow.length then .slice none 0 0 else oe j) ?_ f
  have q:A8 ⟨n,fr,bx,ow ++ [⟨0,.live e sz by_ false []⟩]⟩ be (λj=>if j=ow.length then .slice none 0 0 else oe j) ⟨n,fr,S01 bx i (.live (S01 cs k (.own ow.length 0)) ty),ow ++ [⟨0,.live e sz by_ false []⟩]⟩ be (λj=>if j=ow.length then .slice none 0 0 else oe j) :=
   ⟨by simp[W06],λ_ _=>rfl,λi g h=>⟨g,h,Nat.le_refl _,λ_=>rfl⟩⟩
  have u:∀ j cs' m,nth (S01 bx i (.live (S01 cs k (.own ow.length 0)) ty)) j=some (.live cs' m)->∃ D,nth bx j=some (.live D m):=λj cs' m d=>by
   grind[E8]
  refine⟨s1.mv,s1.sub,λj cs' m d=>?_,λj b d=>?_,s1.own,s1.frz,λj x S Z T aa F G=>?_,s1.oo,λj cs' m x X V Y R nn xs d M=>?_,s1.dfr,s1.siz,λt=>(s1.fr t).grow q⟩
  ·rw[E8 _ _ _ A]at d
   split at d
   ·rename_i E
    subst E
    cases d
    obtain⟨y,vs,p,z⟩:=s1.box j cs ty B
    refine⟨y,vs,?_,z⟩
    obtain⟨v,ab,Q⟩:=p.nth N
    have O:v = .slice none 0 0:=Q
    have:=(p.grow q).upd (k:=k) (c := .own ow.length 0) (v:=v) (by rw[O];exact⟨0,by simp[stamp,R03],Nat.le_refl _,λ_=>by simp⟩)
    rwa [show vs.set k v=vs from by
     grind[List.getElem?_eq_some_iff,List.set_getElem_self]]at this
   ·obtain⟨y,vs,p,z⟩:=s1.box j cs' m d
    exact⟨y,vs,p.grow q,z⟩
  ·rw[E8 _ _ _ A]at d
   split at d
   ·cases d
   ·exact s1.pub j b d
  ·obtain⟨C,s⟩:=u _ _ _ F
   obtain⟨U,I⟩:=u _ _ _ G
   exact s1.bb j x _ _ _ _ s I
  ·obtain⟨C,s⟩:=u _ _ _ d
   exact s1.bo j _ _ x _ _ _ _ _ _ s M
theorem w0b:∀(l:List Nat) {st:St} {h:Hp} {K:St->Hp->Prop},Sim P h0 w0 be oe H st h a w->S0k l st h K->∃ st' e,K st' e/\Sim P h0 w0 be oe H st' e a w
 | [],st,h,K,b,c=>⟨st,h,c,b⟩
 |t::r,st,h,K,b,c=>by
  simp only[S0k]at c
  obtain⟨⟨n,fr,bx,ow⟩,e,d,s1,_⟩:=s04 b (b.rdA (b.fr t)) c
  dsimp only at d
  split at d
  ·refine w0b r (s1.refr (fr:=(t,.val (a.tmps.getD t undef))::fr) λu=>?_) d
   rw[j4]
   by_cases eu:t=u
   ·subst eu
    rw[if_pos rfl]
    rfl
   ·rw[if_neg eu]
    exact s1.fr u
  ·exact d.elim
set_option maxHeartbeats 1000000 in
theorem m0n{Y:Code}{O:List Nat}{Q:Ex->St->Hp->Prop}
  (C:∀(Q:Ex->St->Hp->Prop) (st:St) (h:Hp) (a:Act) (w:World) (be:Nat->Nat) (oe:Nat->Value) (H:Hp),Sim P h0 w0 be oe H st h a w->ev P Y Q st h->Y.wp P (M0j P h0 w0 Q) a w)
  (f:Sim P h0 w0 be oe H st h a w) (g:i0o (λQ=>ev P Y Q) O Q st h):(Code.loop Y).wp P (M0j P h0 w0 Q) a w:=by
 obtain⟨A,aO,μ,g⟩:=g
 obtain⟨st,oe,g,f⟩:=x0e _ _ _ f g
 obtain⟨st,oe,g,f⟩:=s0c _ _ _ f g
 obtain⟨st,h,g,f⟩:=w0b _ f g
 unfold e0n at g
 obtain⟨D,bs,g,bt⟩:=z0d st _ g
 obtain⟨ac,g,aE⟩:=q0o st _ g
 obtain⟨ab,bf,⟨Z,g⟩,aF⟩:=r0o st _ g
 rw[r0i]at g
 obtain⟨E,g,aS,aC,aD,_⟩:=u0b A st _ _ g (by simp)
 obtain⟨V,a3,s1⟩:=t0b A O st _ g
 have aT:∀ p∈E,p.1∈O:=λp R=>(aS p R).resolve_right (by simp)
 have bF:∀ t,t ∉ O->r0c A st (J3 V t):=λt bo=>by
  rcases s1 t bo with h|⟨_,h⟩
  ·rw[h];trivial
  ·exact h
 have bh:=λ(vs:List Value) (ae:vs.length=(D++ac).length) (os:List (List (List Value))) (ap:os.length=ab.length)=>p0c _ (o0c _ a3 vs ae) os ap
 let z:List Value->List BSt->List Own->St:=λD bx ow=>⟨st.n,j0d A.vars D (E++V),bx,ow⟩
 let Inv:Nat->Act->World->Prop:=λm a w=>∃(vs:List Value) (os:List (List (List Value))) (ag aA:List Value) (bx:List BSt) (ow:List Own) (ak:Hp) (be:Nat->Nat) (oe:Nat->Value) (H:Hp),
  vs.length=(D++ac).length/\os.length=ab.length/\vs=ag++aA/\ag.length=A.vars.length/\(∀ W,N07 A.boxes aA st.bx W=W bx)/\(∀ W,O07 A.owns os st.ow W=W ow) /\
   atI A aO μ m vs os ak/\Sim P h0 w0 be oe H (z ag bx ow) ak a w
 have aP:=i0r f
 have a1:∀ m a w,Inv m a w->Y.wp P (Exit.then (λa w=>∃ T,Inv T a w/\T<m) (M0j P h0 w0 Q)) a w:=by
  rintro m a w ⟨vs,os,ag,aA,bx,ow,ak,be,oe,H,ae,ap,rfl,bq,bi,bk,Z,aZ⟩
  have S:=P0q (bh _ ae os ap) Z
  rw[←bq,s0b,bi,bk]at S
  refine Code.wp_mono (λe ai aB R=>?_) (C _ _ _ _ _ _ _ _ aZ S)
  cases e with
  |normal =>
   obtain⟨e,l,aQ,bD,aN,I,s2⟩:=R
   dsimp only at I
   obtain⟨e,l,I,s2⟩:=w0b _ s2 I
   unfold Q0q at I
   split at I
   ·rename_i a2 bj
    obtain⟨bg,bn,bm,s⟩:=I
    have J:=Nat.eq_of_beq_eq_true a2
    have B:=z09 0 _ _ bn
    have af:=A09 0 _ _ bm
    simp only[Nat.zero_add]at B af
    unfold e0n at s
    obtain⟨ad,aH,s,bu⟩:=z0d e _ s
    have bb:∀(is:List Nat) {K:List Value->Prop},L0f is e K->(∀ i∈is,i∈A.boxes)->(∀ i∈is,(nth st.bx i).isSome=true) ->
      ∀ i∈is,∃ cs ty cs',nth st.bx i=some (.live cs ty)/\nth e.bx i=some (.live cs' ty)/\ShC e cs cs':=by
     intro is K _ bK aq i d
     cases hb:nth st.bx i with
     |none=>have:=aq i d;rw[hb]at this;cases this
     |some b =>
      grind
    have aq:∀ i∈A.boxes,(nth st.bx i).isSome=true:=by
     have aj:∀(is:List Nat) (vs:List Value) (bx:List BSt),(N07 is vs bx λ_=>True)->∀ i∈is,(nth bx i).isSome=true:=by
      intro is
      induction is with
      |nil=>intro vs bx _ i d;cases d
      |cons j r C =>
       intro vs bx u i d
       simp only[N07]at u
       split at u
       ·rename_i cs ty J
        rcases List.mem_cons.1 d with rfl|d
        ·rw[J];rfl
        ·have a4:∀(cs:List P6) (vs:List Value) (K:List P6->List Value->Prop),m05 cs vs K->∃ a b,K a b:=by
          intro cs
          induction cs with
          |nil=>intro vs K h;exact⟨_,_,h⟩
          |cons c r C =>
           intro vs K h
           cases c with
           |val v =>
            cases vs with
            |nil=>exact h.elim
            |cons bL vs=>obtain⟨a,b,h⟩:=C _ _ h;exact⟨_,_,h⟩
           |own i k=>obtain⟨a,b,h⟩:=C _ _ h;exact⟨_,_,h⟩
         obtain⟨a,b,u⟩:=a4 _ _ _ u
         have:=C _ _ u i d
         rw[E8 _ _ _ (f03 J)]at this
         grind
       ·exact u.elim
     exact aj A.boxes ac st.bx (by rw[aE];trivial)
    have bl:∀ i∈A.owns,(nth st.ow i).isSome=true:=by
     have aj:∀(is:List Nat) (vs:List (List (List Value))) (ow:List Own),(O07 is vs ow λ_=>True)->∀ i∈is,(nth ow i).isSome=true:=by
      intro is
      induction is with
      |nil=>intro vs bx _ i d;cases d
      |cons j r C =>
       intro vs ow u i d
       cases vs with
       |nil=>exact u.elim
       |cons x vs =>
        simp only[O07]at u
        split at u
        ·rename_i J
         rcases List.mem_cons.1 d with rfl|d
         ·rw[J];rfl
         ·have:=C _ _ u i d
          rw[E8 _ _ _ (f03 J)]at this
          grind
        ·exact u.elim
     exact aj A.owns ab st.ow (by rw[aF];trivial)
    obtain⟨aM,s,N,aL,bG,bH,bI,bJ⟩:=s0o e A.boxes st.bx (bb _ s (λ_ h=>h) aq) s
    have bc:∀ i∈A.owns,∃ f F sz by_ nn ah U L xs,nth st.ow i=some ⟨f,.live F sz by_ nn ah⟩/\nth e.ow i=some ⟨U,.live F sz by_ L xs⟩/\(nn=true->L=true):=λi d=>by
     cases hb:nth st.ow i with
     |none=>have:=bl i d;rw[hb]at this;cases this
     |some b =>
      rcases af i b hb with⟨_,f,F,sz,by_,nn,ah,U,L,xs,rfl,l,al,_⟩|⟨q,_⟩
      ·exact⟨f,F,sz,by_,nn,ah,U,L,xs,rfl,l,al⟩
      ·exact absurd d q
    obtain⟨bE,bz,s,M,aJ,bA,bB,bC⟩:=t0o e A.owns st.ow bc s
    split at s
    rotate_left
    ·exact s.elim
    rename_i bd
    rw[←aH,s0b,aL,aJ]at s
    obtain⟨aa,aX,an⟩:=E0s s
    have ar:∀ i,stamp (z ad N M) i=stamp st i:=λi=>by
     have:=bC i
     unfold stamp
     simp only[z]
     cases q:nth M i<;>cases l:nth st.ow i<;>rw[q,l]at this<;>simp at this<;>simp[this]
    refine⟨aa,⟨ad++aM,bE,ad,aM,N,M,l,aQ,bD,aN,?_,?_,rfl,aH,aL,aJ,aX,?_⟩,an⟩
    ·rw[←ae];exact v0o _ _ bd
    ·rw[bz]
     have:ab.length=A.owns.length:=bf
     rw[this]
    ·refine h0r (A:=A) s2 J ?_ ?_ ?_ ?_
     ·intro i b d
      by_cases y:i∈A.boxes
      ·obtain⟨aR,ty,cs',aw,ax,ay⟩:=bI i y
       have:nth N i=some b:=d
       rw[aw]at this
       cases this
       exact .inl ⟨aR,ty,cs',rfl,ax,ay⟩
      ·have:nth N i=some b:=d
       rw[bH i y]at this
       rcases B i b this with⟨q,_⟩|⟨_,l,al⟩
       ·exact absurd q y
       ·exact .inr ⟨l,al⟩
     ·intro i o d
      by_cases y:i∈A.owns
      ·obtain⟨aK,F,sz,by_,nn,U,L,xs,aw,ax,ay⟩:=bB i y
       have:nth M i=some o:=d
       rw[aw]at this
       cases this
       exact .inl ⟨⟨aK,F,sz,by_,nn,U,L,xs,rfl,ax,ay⟩,y⟩
      ·have:nth M i=some o:=d
       rw[bA i y]at this
       rcases af i o this with⟨q,_⟩|⟨_,l⟩
       ·exact absurd q y
       ·exact .inr ⟨l,y⟩
     ·intro i cs ty d
      have:=bJ _ aP i cs ty d
      have ba:(λj k=>∃ f,stamp (z ad N M) j=some f/\k<=f)=(λj k=>∃ f,stamp st j=some f/\k<=f):=by
       funext j k;rw[ar]
      rw[ba]
      exact this
     ·refine Q0t (A:=A) (ds:=O) (st:=st) (av1:=λt=>bu (E++V) t) s2 rfl bG ar ?_ aT aC aD bF (e0g E bj) (v0b _ bg)
      intro i k d am
      show stamp e i=stamp (z ad N M) i
      rw[ar i]
      cases hb:nth st.ow i with
      |none=>unfold stamp at am;rw[hb]at am;cases am
      |some b =>
       rcases af i b hb with⟨q,aK,F,sz,by_,nn,ah,U,L,xs,rfl,l,_,aV⟩|⟨_,l⟩
       ·have:=aV (d.resolve_left (λh=>h q))
        simp[stamp,hb,l,this]
       ·unfold stamp
        rw[hb,l]
   ·exact I.elim
  |exit i=>exact R
  |ret=>exact R
  |_=>exact R
 have a0:Sim P h0 w0 be oe H (z D st.bx st.ow) h a w:=by
  refine f.refr (fr:=j0d A.vars D (E++V)) λt=>?_
  have aU:=f.fr t
  have G:=f.rdA aU
  rcases bt (E++V) t with⟨q,br⟩|⟨v,q,l⟩
  ·rw[q]
   rcases d0g E V t with⟨av,az,aa⟩|⟨az,aa⟩
   ·rw[aa]
    rcases aC _ az with rfl|⟨i,k,rfl,_,S⟩|⟨i,o,rfl,_,S⟩
    ·trivial
    ·rw[S]at G;exact G
    ·rw[S]at G;exact G
   ·rw[aa]
    have bp:t ∉ O:=λz=>by
     obtain⟨av,y⟩:=aD t z br
     exact az av y
    rcases s1 t bp with h|⟨h,_⟩
    ·rw[h];trivial
    ·rw[h];exact G
  ·rw[q]
   rw[l]at G
   exact G
 obtain⟨bv,Z⟩:=O0q (μ:=μ) Z
 have aW:Inv bv a w:=⟨D++ac,ab,D,ac,st.bx,st.ow,h,be,oe,H,rfl,rfl,rfl,bs,aE,aF,Z,a0⟩
 classical
 let X:Act->World->Nat:=λa w=>if B:∃ m,Inv m a w then Classical.choose (u0l _ B)else 0
 refine wp_loop (λa w=>∃ m,Inv m a w) X ⟨_,aW⟩ λa w B=>?_
 have aY:X a w=Classical.choose (u0l _ B):=by simp only[X,dif_pos B]
 refine Code.wp_mono (λe ai aB aG=>?_) (a1 _ a w (Classical.choose_spec (u0l _ B)).1)
 cases e with
 |normal =>
  obtain⟨T,ao,an⟩:=aG
  refine⟨⟨T,ao⟩,?_⟩
  have au:∃ m,Inv m ai aB:=⟨T,ao⟩
  have:X ai aB=Classical.choose (u0l _ au):=by simp only[X,dif_pos au]
  rw[aY,this]
  exact Nat.lt_of_le_of_lt ((Classical.choose_spec (u0l _ au)).2 T ao) an
 |_=>exact aG
end
end Go.H
namespace Go.H
set_option linter.unusedVariables false
set_option linter.unusedSimpArgs false
section
variable {P:Program} {h0:Hp} {w0:World} {be:Nat->Nat} {oe:Nat->Value} {H:Hp} {st:St} {h:Hp} {a:Act} {w:World}
theorem j0r(c:Code):∀(Q:Ex->St->Hp->Prop) (st:St) (h:Hp) (a:Act) (w:World) (be:Nat->Nat) (oe:Nat->Value) (H:Hp),Sim P h0 w0 be oe H st h a w->ev P c Q st h->c.wp P (M0j P h0 w0 Q) a w:=by
 induction c with
 |skip=>exact λQ st h a w be oe H f j=>wp_skip ⟨st,h,be,oe,H,j,f⟩
 |region id ops d=>grind[N0j]
 |seq x y o p =>
  intro Q st h a w be oe H f j
  refine wp_seq (Code.wp_mono (λe a w l=>?_) (o _ _ _ _ _ _ _ _ f j))
  cases e with
  |normal=>obtain⟨st,h,be,oe,H,k,f⟩:=l;exact p _ _ _ _ _ _ _ _ f k
  |exit i=>exact l
  |ret=>exact l
  |_=>exact l
 |cond c x y o p =>
  intro Q st h a w be oe H f j
  simp only[ev]at j
  split at j
  ·rename_i b m
   have g:=f.rdO c
   rw[m]at g
   exact wp_cond_split g (λe=>o _ _ _ _ _ _ _ _ f (j.1 e)) (λe=>p _ _ _ _ _ _ _ _ f (j.2 e))
  ·exact j.elim
 |block id c n =>
  intro Q st h a w be oe H f j
  refine wp_block (Code.wp_mono (λe a w l=>?_) (n _ _ _ _ _ _ _ _ f j))
  cases e with
  |normal=>exact l
  |exit i =>
   obtain⟨st,h,be,oe,H,k,f⟩:=l
   simp only[Exit.inBlock]
   dsimp only at k
   cases m:Nat.beq i id with
   |true =>
    rw[m]at k
    rw[if_pos (Nat.eq_of_beq_eq_true m)]
    exact⟨st,h,be,oe,H,k,f⟩
   |false =>
    rw[m]at k
    rw[if_neg (Nat.ne_of_beq_eq_false m)]
    exact⟨st,h,be,oe,H,k,f⟩
  |ret=>exact l
  |_=>exact l
 |loop c n=>exact λQ st h a w be oe H f j=>m0n n f j
 |exit i=>exact λQ st h a w be oe H f j=>wp_exit ⟨st,h,be,oe,H,j,f⟩
 |ret=>exact λQ st h a w be oe H f j=>wp_ret ⟨st,h,be,oe,H,j,f⟩
 |_=>exact λQ st h a w be oe H f j=>j.elim
def O0s(tmps:Array Value):ResultVar->Sem Value
 | .tmp t=>pure (tmps.getD t undef)
 | .cell a t=>do loadVar t (←asAddr (tmps.getD a undef))
theorem x0b:∀(l:List ResultVar) (st:St) (h:Hp) {K:List Value->St->Hp->Prop},Sim P h0 w0 be oe H st h a w->h0n P l st h K ->
  ∃ vs st' q,K vs st' q/\Sim P h0 w0 be oe H st' q a w/\(l.mapM (O0s a.tmps)).run P w = .ok vs w
 | [],st,h,K,c,d=>⟨[],st,h,d,c,rfl⟩
 | .tmp t::r,st,h,K,c,d=>by
  obtain⟨n,f,m,s1,_⟩:=s04 c (c.rdA (c.fr t)) d
  obtain⟨vs,y,s,p,s2,u⟩:=x0b r n f s1 m
  grind[Sem.run_bind,O0s,Sem.run_pure,Result.andThen_ok]
 | .cell t ty::r,st,h,K,c,d=>by
  simp only[h0n]at d
  split at d
  ·rename_i i off u
   split at d
   ·rename_i cs J D
    have g:=c.rdA (c.fr t)
    rw[u]at g
    obtain⟨f,vs,s,A⟩:=c.box i cs J D
    obtain⟨av,v,F,G,I⟩:=R.load_row (H:=H) (b:=be i) (o:=0) (be:=be) d s (λj v B=>by simp[Hp.cell,A,B])
    obtain⟨n,f,m,s1,_⟩:=s04 c G F
    obtain⟨L,y,z,p,s2,E⟩:=x0b r n f s1 m
    refine⟨_,y,z,p,s2,?_⟩
    have C:(loadVar ty ⟨be i,off,none⟩).run P w = .ok v w:=by
     obtain⟨x,k,e⟩:=R.wpR_sound _ _ w c.mv.vis (I (λx _=>x=v) rfl)
     rw[Nat.zero_add]at k
     rw[k,e]
    have k:a.tmps.getD t undef=ptr (be i) off:=g.2
    simp only[List.mapM_cons,Sem.run_bind,O0s,k,ptr,asAddr,Sem.run_pure,Result.andThen_ok,C,E]
   ·exact d.elim
  ·exact d.elim
theorem t0i:∀(args:List Value) (i a:Nat),J3 (Y0b i args) a = .dead∨J3 (Y0b i args) a = .val (if i<=a then args.getD (a-i) undef else undef)
 | [],i,a => .inl rfl
 |v::r,i,a=>by
  simp only[Y0b]
  rw[j4]
  by_cases e:i=a
  ·subst e;right;simp
  ·rw[if_neg e]
   rcases t0i r (i+1) a with b|b
   all_goals grind
theorem D3.less{h a H:Hp}{w e:World}(m:D3 h w H e)(d:∀ b o,a b=some o->H b=some o):D3 h w a e:=by
 refine⟨m.os,m.tape,m.output,m.size,m.keep,λb o c=>m.vis b o (d b o c),λb c=>?_,m.fz,m.dn⟩
 cases hc:a b with
 |none=>exact absurd hc c
 |some o=>exact m.fresh b (by rw[d b o hc];simp)
theorem n0n{f:FuncId}{fn:Func}{args:List Value}{o:Value->Hp->Prop}(hf:P.funcs[f]?=some fn)(m:J0t P fn args h o):Tr P f args.toArray h o:=by
 refine⟨λw C=>?_⟩
 unfold J0t at m
 split at m
 ·rename_i c z
  split at m
  ·rename_i s
   have s:=Nat.le_of_ble_eq_true s
   have D:Sim P h w (λ_=>0) (λ_=>undef) h ⟨fn.ntmps,Y0b 0 args,[],[]⟩ h { tmps:=args.toArray++Array.replicate (fn.ntmps-args.toArray.size) undef,defers:=[] } w:=by
    refine⟨D3.refl C,λ_ _ h=>h,(λi cs ty d=>nomatch d),(λi b d=>nomatch d),(λi a e sz by_ nn xs d=>nomatch d),(λi a v d=>nomatch d),(λi j cs ty cs' L d=>nomatch d),
     (λi j a e sz by_ nn xs I F K E G M g d=>nomatch d),(λi cs ty j a e sz by_ nn xs d=>nomatch d),rfl,by simp;omega,λa=>?_⟩
    rcases t0i args 0 a with k|k
    ·grind[O2,J3,Y0b]
    show O2 _ _ _ (J3 (Y0b 0 args) a) _
    rw[k]
    simp only[Nat.zero_le,if_true,Nat.sub_zero]
    show _=_
    simp only[Array.getD_eq_getD_getElem?]
    grind
   refine calls_of_wp hf z (Code.wp_mono (λe n q p=>?_) (j0r c _ _ _ _ _ _ _ _ D m))
   have fin:∀ {st k be oe H},h0n P fn.results.toList st k (λvs _ h=>o (W0k vs) h)->Sim P h w be oe H st k n q->n.defers = []/\∃ v,(results fn n.tmps).run P q = .ok v q/\∃ t k,Ending.returned v = .returned t/\o t k/\D3 h w k q:=by
    intro st k be oe H l a
    obtain⟨vs,J,y,u,s2,A⟩:=x0b _ _ _ a l
    refine⟨a.dfr,W0k vs,?_,W0k vs,y,rfl,u,s2.mv.less s2.sub⟩
    have B:results fn n.tmps=(fn.results.mapM (O0s n.tmps) >>= λvs=>pure (if h:vs.size=1 then vs[0]else .tuple vs)):=by
     unfold results
     congr 1
    rw[B,Array.mapM_eq_mapM_toList]
    simp only[Sem.run_bind,Sem.run_map,A,Result.andThen_ok,Sem.run_pure]
    cases vs with
    |nil=>rfl
    |cons x r=>cases r<;>rfl
   cases e with
   |normal=>obtain⟨st,k,be,oe,H,l,a⟩:=p;exact fin l a
   |ret=>obtain⟨st,k,be,oe,H,l,a⟩:=p;exact fin l a
   |exit i=>obtain⟨st,k,be,oe,H,l,a⟩:=p;exact l.elim
   |_=>exact p.elim
  ·exact m.elim
 ·exact m.elim
end
end Go.H
namespace Go.H
open Go.RowKit Go.ChangeShapes Go.WideShapes Go.ChangeAt
set_option linter.unusedVariables false
theorem Tr.val{P:Program}{f:FuncId}{args:Array Value}{h:Hp}{x:Value}{a:Value->Hp->Prop}(t:Tr P f args h λv d=>v=x/\d=h)(e:a x h):Tr P f args h a :=
 t.mono λ_ _ ⟨b,c⟩=>by rw[b,c];exact e
theorem Tr.calls{P:Program}{f:FuncId}{args:Array Value}{c:World}{x:Value}(t:Tr P f args (λb=>c.heap[b]?) λv g=>v=x/\∀ b o,c.heap[b]?=some o->g b=some o):
  Calls P f args c λe d=>e = .returned x/\Below c.heap.size c d/\∀ a:Addr,a.block<c.heap.size->d.frozen? a=c.frozen? a:=by
 refine(t.run c (λb o h=>h)).mono ?_
 rintro e d ⟨v,g,rfl,⟨rfl,i⟩,m⟩
 refine⟨rfl,⟨m.os,m.tape,m.output,m.size,λk j=>?_⟩,m.fz⟩
 have:c.heap[k]?=some c.heap[k]:=by simp[j]
 rw[this]
 exact m.vis _ _ (i k _ this)
theorem w64{x:Int}(a : -9223372036854775808<=x)(b:x<=9223372036854775807):IntKind.i64.wrap x=x:=by
 simp[IntKind.wrap,IntKind.signed,IntKind.bits]
 omega
theorem k0r{n:Nat}(h:n<=maxLen):n<=9223372036854775807:=by
 grind[maxLen]
def J0(x:Int):Prop := -9223372036854775808<=x/\x<=9223372036854775807
theorem K0u{x:Int}(h:(Lit.int .i64 x).wf=true):J0 x:=by
 simpa [Lit.wf,IntKind.min,IntKind.max,IntKind.signed,IntKind.bits,J0] using h
section
variable {H:Type} {enc:TypeId×Value->H} {P:Program}
theorem Y0a(i:laidOutB P=true){c f:World}(g:Below c.heap.size c f){m:Nat->Bool}:∀ {e:List TypeId} {vs:List Value} {ds:List (DataW H)} {b:List MemPlace},
  (∀ t∈e,P.readableRec t=true/\t<P.types.size)->DataW.TrodAll enc P c 0 (λ_=>true) true e vs ds b->(∀ p∈b,p.block<c.heap.size)->(∀ p∈b,m p.block=true) ->
  DataW.TrodAll enc P f 0 m true e vs ds b
 | [],vs,ds,b,_,h,_,_=>by
  obtain⟨rfl,rfl,rfl⟩:=trodAll_nil h
  exact rfl
 |t::e,vs,ds,b,l,h,j,k=>by
  obtain⟨v,z,d,y,p,q,rfl,rfl,rfl,n,o⟩:=trodAll_cons h
  obtain⟨u,w⟩:=l t mS
  refine⟨p,q,WideElems.Trod_stays i u w n (λx a=>g.same (j x (List.mem_append_left _ a))) (λx a=>k x (List.mem_append_left _ a)),?_,rfl⟩
  exact Y0a i g (λt s=>l t (mC _ s)) o (λx a=>j x (List.mem_append_right _ a)) (λx a=>k x (List.mem_append_right _ a))
theorem P0e{f:Func}{h:ChangeSpec}{n fresh y x:Bool}{i d:World}{args:Array Value}{v:Value}{ds k:List (DataW H)}{e pa pv:List MemPlace}
  (l:DataW.Whole enc P f.params.toList h.vars n i args.toList ds k e)
  (u:∀(b:Nat) (g:Nat->Bool) (z:Bool),DataW.TrodAll enc P d b g z f.resultTypes.toList (v.resultList f.resultTypes.size) (h.fn H (ds++k)).results [])
  (o:∀ g:Nat->Bool,(∀ p∈e,g p.block=true)->DataW.TrodAll enc P d 0 g true f.params.toList args.toList (h.fn H (ds++k)).args pa)
  (w:∀ g:Nat->Bool,(∀ p∈e,g p.block=true)->DataW.TrodVars enc P d g h.vars (h.fn H (ds++k)).vars pv)
  (q:e=pa++pv) (B:i.keptBut d (·∈e)) (A:∀ a:Addr,a.block<i.heap.size->d.frozen? a=i.frozen? a)
  (C:∀(j:Nat) (t:TypeId) (r:Value),f.resultTypes[j]?=some t->(v.resultList f.resultTypes.size)[j]?=some r->Value.okWide P d .any 0 t r) :
  h.post enc P f n fresh y x i args v d:=by
 have m:=λp c=>l.lt (p:=p) c
 refine⟨ds,k,e,[],pa,pv,l,u _ _ _,o _ (λp c=>by simpa using m p c),w _ (λp c=>by simpa using m p c),World.keptBut_mono (λp c=>⟨c,.inr (by rwa [q,List.mem_append]at c)⟩) B,λ_=>?_⟩
 obtain⟨_,_,_,_,_,D,E⟩:=l
 have s:([]++pa)++pv=e:=by simp[q]
 refine⟨C,_,_,([]++pa)++pv,⟨[]++pa,pv,trodAll_append (o _ (λ_ _=>rfl)) (u _ _ _),w _ (λ_ _=>rfl),rfl,?_,?_⟩,λp c _=>by rwa [s]at c⟩
 ·intro b off c
  rw[s]at c
  rw[A _ (m _ c)]
  exact D b off c
 grind
theorem l0r{f:Func}{c:ChangeSpec}{g fresh w o:Bool}{b d:World}{args:Array Value}{ds h:List (DataW H)}{s:List MemPlace}{n:TypeId}
  (C:laidOutB P=true) (E:∀ t∈f.params.toList,P.readableRec t=true/\t<P.types.size) (m:c.vars = []) (j:c.fn H (ds++h) = { results:=[.lit (.bool true)],args:=ds })
  (k:f.resultTypes = #[n]) (l:P.underlying n=some .bool) (e:DataW.Whole enc P f.params.toList c.vars g b args.toList ds h s)
  (u:Below b.heap.size b d) (x:∀ a:Addr,a.block<b.heap.size->d.frozen? a=b.frozen? a):c.post enc P f g fresh w o b args (.bool true) d:=by
 have D:=λp y=>e.lt (p:=p) y
 have v:=e
 obtain⟨p,q,B,i,rfl,_,_⟩:=e
 rw[m]at i
 obtain⟨rfl,rfl⟩:=trodVars_none i
 refine P0e (pa:=p) (pv:=[]) v (λ_ _ _=>?_) (λA z=>?_) (λA z=>?_) rfl (u.frame _) x (ok_one k rfl (okWide_bool_mk l _))
 ·rw[j,k]
  exact trodAll_mk1 (shut_bool l _)
 ·grind[Y0a,List.mem_append_left]
 ·rw[j,m]
  exact rfl
end
end Go.H
