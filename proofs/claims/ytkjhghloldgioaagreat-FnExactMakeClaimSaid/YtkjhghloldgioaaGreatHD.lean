/- The library of the walks, part HD: plain laws over the model. -/
import Derived.Test.YtkjhghloldgioaaGreatHC
import Derived.ProofKit
namespace Go.H
set_option linter.unusedVariables false
set_option linter.unusedSimpArgs false
theorem H8{i:Nat}{o:Oper}(h:c00 i o=true):∃ e∈o.after,Region.binds .any e=true/\e.on=i:=by
 unfold c00 at h
 rw[List.any_eq_true]at h
 simp_all
theorem e08{o:Oper}{t:Nat}:∀ {l:List Oper} {i:Nat},C02 o t l i=true->∀ k x,l[k]?=some x->x.dst=some t->c00 (i+k) o=true
 | [],i,h,k,x,a,b=>by simp at a
 |y::r,i,h,0,x,a,b=>by
  simp_all[C02,Nat.beq_refl,Bool.and_eq_true]
 |y::r,i,h,k+1,x,a,b=>by
  simp only[List.getElem?_cons_succ]at a
  have c:C02 o t r (i+1)=true:=by
   simp only[C02]at h
   grind
  have:=e08 c k x a b
  rwa [show i+1+k=i+(k+1) from by omega]at this
theorem G03{o:Oper}{ops:List Oper}:∀ {l:List Operand},w0a o ops l=true->∀ t,Operand.tmp t∈l->C02 o t ops 0=true
 | [],h,t,a=>by cases a
 | .tmp u::r,h,t,a=>by
  simp only[w0a,Bool.and_eq_true]at h
  rcases List.mem_cons.1 a with e|a
  ·cases e;exact h.1
  ·exact G03 h.2 t a
 | .const v::r,h,t,a=>by
  rcases List.mem_cons.1 a with e|a
  ·cases e
  ·exact G03 (l:=r) h t a
 | .global v::r,h,t,a=>by
  rcases List.mem_cons.1 a with e|a
  ·cases e
  ·exact G03 (l:=r) h t a
 | .func v::r,h,t,a=>by
  rcases List.mem_cons.1 a with e|a
  ·cases e
  ·exact G03 (l:=r) h t a
theorem Z06{ops:List Oper}:∀ {l:List Oper},k0m ops l=true->∀ o∈l,∀ t,Operand.tmp t∈o.op.operands->∀ k x,ops[k]?=some x->x.dst=some t->∃ e∈o.after,Region.binds .any e=true/\e.on=k
 | [],h,o,a=>by cases a
 |y::r,h,o,a=>by
  simp only[k0m,Bool.and_eq_true]at h
  rcases List.mem_cons.1 a with rfl|a
  ·intro t d k x c b
   have:=e08 (G03 h.1 t (by simpa using d)) k x c b
   simp_all[Nat.zero_add,H8]
  ·exact Z06 h.2 o a
theorem c06{d:Nat}:∀ {l:List Oper},U07 d l=true->∀ o∈l,o.dst≠some d
 | [],h,o,a=>by cases a
 |y::r,h,o,a=>by
  simp only[U07]at h
  split at h
  ·rename_i c b
   simp only[Bool.and_eq_true,Bool.not_eq_true']at h
   rcases List.mem_cons.1 a with rfl|a
   ·grind[Nat.ne_of_beq_eq_false]
   ·exact c06 h.2 o a
  ·rename_i b
   rcases List.mem_cons.1 a with rfl|a
   ·grind
   ·exact c06 h o a
theorem i05{n:Nat}:∀ {l:List Oper},U0i n l=true->(∀ o∈l,∀ d,o.dst=some d->d<n) /\
  ∀(i j:Nat) (a b:Oper) (d:Nat),l[i]?=some a->l[j]?=some b->a.dst=some d->b.dst=some d->i=j
 | [],h=>⟨by simp,λi j a b d f=>by simp at f⟩
 |y::r,h=>by
  simp only[U0i]at h
  split at h
  ·rename_i d p
   simp only[Bool.and_eq_true]at h
   obtain⟨⟨v,k⟩,m⟩:=h
   obtain⟨g,s⟩:=i05 m
   have x:=c06 k
   refine⟨λo c e q=>?_,λi j a b e f w t u=>?_⟩
   ·rcases List.mem_cons.1 c with rfl|c
    ·simp_all
    ·exact g o c e q
   grind
  ·rename_i p
   obtain⟨g,s⟩:=i05 h
   grind
theorem d04:∀ {l:List Oper} {j:Nat},R0c l j=true->∀ k o,l[k]?=some o->∀ e∈o.after,Region.binds .any e=true->e.on<j+k
 | [],j,h,k,o,a=>by simp at a
 |y::r,j,h,k,o,a=>by
  simp only[R0c,Bool.and_eq_true,List.all_eq_true]at h
  cases k with
  |zero =>
   simp at a
   subst a
   intro e b c
   have:=h.1 e (by simpa using b)
   simp_all
  |succ k =>
   simp at a
   intro e b c
   have:=d04 h.2 k o a e b c
   omega
def A4:List Oper->List (Nat×AV)->List (Nat×AV)
 | [],fr=>fr
 |o::r,fr=>match o.dst with
  |some d=>(d,.dead)::A4 r fr
  |none=>A4 r fr
theorem t01{t:Nat}:∀ {l:List Oper} {fr:List (Nat×AV)},(∀ o∈l,o.dst≠some t)->Z2 (A4 l fr) t=Z2 fr t
 | [],fr,h=>rfl
 |o::r,fr,h=>by
  have c:=t01 (fr:=fr) λb a=>h b (mC _ a)
  simp only[A4]
  split
  all_goals simp_all[Z3,if_neg,List.mem_cons_self]
theorem E02{t:Nat}:∀ {l:List Oper} {fr:List (Nat×AV)} {o:Oper},o∈l->o.dst=some t->Z2 (A4 l fr) t = .dead
 | [],fr,o,h,_=>by cases h
 |y::r,fr,o,h,a=>by
  simp only[A4]
  split
  ·rename_i d b
   rw[Z3]
   split
   ·rfl
   ·rename_i c
    rcases List.mem_cons.1 h with rfl|h
    ·grind
    ·exact E02 h a
  ·rename_i b
   rcases List.mem_cons.1 h with rfl|h
   ·rw[a]at b;cases b
   ·exact E02 h a
theorem L00(d:Nat)(f:R6)(r:List (Nat×R6))(s:Nat):I3 ((d,f)::r) s=if d=s then some f else I3 r s:=by
 simp only[I3]
 cases h:Nat.beq d s with
 |true=>rw[if_pos (Nat.eq_of_beq_eq_true h)]
 |false=>rw[if_neg (Nat.ne_of_beq_eq_false h)]
section
variable {P:Program} {h0:Hp} {w0:World} {be:Nat->Nat} {oe:Nat->Value} {H:Hp} {h:Hp} {a:Act} {w:World}
theorem Sim.refr{st:St}(b:Sim P h0 w0 be oe H st h a w){fr:List (Nat×AV)}(hf:∀ t,I2 st be oe (Z2 fr t) (a.tmps.getD t undef)):Sim P h0 w0 be oe H { st with fr:=fr } h a w:=by
 have c:a7 st be oe { st with fr:=fr } be oe:=⟨Nat.le_refl _,λ_ _=>rfl,λi b h=>⟨b,h,Nat.le_refl _,λ_=>rfl⟩⟩
 refine⟨b.mv,b.sub,λi cs ty g=>?_,b.pub,b.own,b.frz,b.bb,b.oo,b.bo,b.dfr,b.siz,λt=>(hf t).grow c⟩
 obtain⟨d,vs,e,f⟩:=b.box i cs ty g
 exact⟨d,vs,e.grow c,f⟩
def d06(st:St)(be:Nat->Nat)(oe:Nat->Value)(h:Hp):R6->Value->Prop
 | .pu av,v=>I2 st be oe av v
 | .ef F,v=>F v h
theorem k03{L:List (Nat×R6)}{st:St}{h:Hp}{val:Nat->Value}{K:List (Nat×AV)->Prop}:∀ {l:List Operand} {acc:List (Nat×AV)},
  (∀ t,I2 st be oe (Z2 acc t) (val t))->(∀ t,Operand.tmp t∈l->(∀ f,I3 L t=some f->d06 st be oe h f (val t))/\(I3 L t=none->I2 st be oe (Z2 st.fr t) (val t))) ->
  f0e L st h l acc K->∃ fr,K fr/\∀ t,I2 st be oe (Z2 fr t) (val t)
 | [],acc,c,b,a=>⟨acc,a,c⟩
 | .tmp t::r,acc,c,b,a=>by
  have i:∀ u,Operand.tmp u∈r->_:=λu d=>b u (mC _ d)
  have j:=b t mS
  have put:∀ av,I2 st be oe av (val t)->∀ u,I2 st be oe (Z2 ((t,av)::acc) u) (val u):=λav g u=>by
   grind[Z3]
  simp only[f0e]at a
  split at a
  ·rename_i av e
   exact k03 (put av (j.1 _ e)) i a
  ·rename_i F e
   exact k03 (put (.val (val t)) rfl) i (a _ (j.1 _ e))
  ·rename_i e
   exact k03 (put _ (j.2 e)) i a
 | .const v::r,acc,c,b,a=>k03 (l:=r) c (λu d=>b u (mC _ d)) a
 | .global v::r,acc,c,b,a=>k03 (l:=r) c (λu d=>b u (mC _ d)) a
 | .func v::r,acc,c,b,a=>k03 (l:=r) c (λu d=>b u (mC _ d)) a
def I0s(P:Program)(st:St)(h:Hp)(L:List (Nat×R6))(o:Oper):Prop :=
 o.guard=none/\∃ f,(∀ d,o.dst=some d->I3 L d=some f)/\match f with
  | .pu av=>a0l P L o st=some av
  | .ef F=>(∀ v b c,Sub b c->F v b->F v c)/\∀ a,Sub h a->f0e L st a o.op.operands.toList [] λfr=>Z8 P o { st with fr:=fr } a (s0s { st with fr:=fr } a F)
theorem S0b:∀ {L:List (Nat×R6)} {t:Nat} {f:R6},I3 L t=some f->(t,f)∈L
 | [],t,f,h=>by cases h
 |(d,a)::r,t,f,h=>by
  rw[L00]at h
  split at h
  ·grind
  ·exact mC _ (S0b h)
theorem v0q{st:St}{L:List (Nat×R6)}{o:Oper}{av:AV}{val:Nat->Value}(a:a0l P L o st=some av)
  (l:∀ t,Operand.tmp t∈o.op.operands->(∀ f,I3 L t=some f->d06 st be oe h f (val t))/\(I3 L t=none->I2 st be oe (Z2 st.fr t) (val t))) :
  ∃ fr,(∀ t,I2 st be oe (Z2 fr t) (val t))/\Z8 P o { st with fr:=fr } h λi st' j=>i=av/\st' = { st with fr:=fr }/\j=h:=by
 have one:∀ x:Operand,(∀ t,x = .tmp t->Operand.tmp t∈o.op.operands)->rdS L st x ≠ .dead->∃ fr,(∀ t,I2 st be oe (Z2 fr t) (val t))/\rdO { st with fr:=fr } x=rdS L st x:=by
  intro x b c
  cases x with
  |tmp t =>
   obtain⟨k,m⟩:=l t (b t rfl)
   have mk:∀ A,I2 st be oe A (val t)->∀ u,I2 st be oe (Z2 [(t,A)] u) (val u):=λA g u=>by
    rw[Z3]
    split
    ·grind
    ·trivial
   have rd:∀ A,rdO { st with fr:=[(t,A)] } (.tmp t)=rdA st A:=λA=>by
    show Go.H.rdA _ (Z2 [(t,A)] t)=_
    rw[Z3,if_pos rfl]
    obtain⟨n,fr,bx,ow⟩:=st
    cases A<;>rfl
   cases hL:I3 L t with
   |none=>grind[rdS]
   |some f =>
    cases f with
    |pu A=>exact⟨_,mk _ (k _ hL),by grind[rdS]⟩
    |ef F=>grind[absurd,rdS]
  |const v=>exact⟨[],λt=>trivial,rfl⟩
  |global v=>exact⟨[],λt=>trivial,rfl⟩
  |func v=>exact⟨[],λt=>trivial,rfl⟩
 unfold a0l at a
 split at a
 ·rename_i x b
  have c:rdS L st x ≠ .dead:=λe=>by rw[e]at a;cases a
  obtain⟨fr,g,e⟩:=one x (λt d=>by grind[Op.operands]) c
  refine⟨fr,g,?_⟩
  simp only[Z8,b,e]
  revert a
  cases rdS L st x<;>intro a<;>first|(cases a;done)|(cases a;simp;done)
 ·rename_i x b
  have c:rdS L st x ≠ .dead:=λe=>by rw[e]at a;cases a
  obtain⟨fr,g,e⟩:=one x (λt d=>by grind[Op.operands]) c
  refine⟨fr,g,?_⟩
  simp only[Z8,b,e]
  revert a
  cases rdS L st x<;>intro a<;>first|(cases a;done)|(cases a;simp;done)
 ·rename_i t x b
  have c:rdS L st x ≠ .dead:=λe=>by rw[e]at a;cases a
  obtain⟨fr,g,e⟩:=one x (λt d=>by grind[Op.operands]) c
  refine⟨fr,g,?_⟩
  simp only[Z8,b,e]
  split at a
  all_goals grind[e0e,T04,G0h,B6]
 ·cases a
def R0r(P:Program)(h0:Hp)(w0:World)(ops:Array Oper)(st:St)(h:Hp)(L:List (Nat×R6))(listed:Array Bool)(a:Act)(w:World):Prop :=
 ∃ be oe H b,Sub h b/\Sim P h0 w0 be oe H { st with fr:=A4 ops.toList st.fr } b a w /\
  ∀ j o d f,ops[j]?=some o->o.dst=some d->listed.getD j false=true->I3 L d=some f->d06 st be oe b f (a.tmps.getD d undef)
theorem I2.fr{st:St}{fr:List (Nat×AV)}{av:AV}{v:Value}(g:I2 st be oe av v):I2 { st with fr:=fr } be oe av v:=by
 obtain⟨n,a,bx,ow⟩:=st
 show I2 ⟨n,fr,bx,ow⟩ be oe av v
 exact I2.grow (st:=⟨n,a,bx,ow⟩) (st':=⟨n,fr,bx,ow⟩) (be:=be) (oe:=oe) (be':=be) (oe':=oe) (av:=av) (x:=v) ⟨Nat.le_refl _,λ_ _=>rfl,λi b h=>⟨b,h,Nat.le_refl _,λ_=>rfl⟩⟩ g
theorem S02{ops:Array Oper}{st:St}{L:List (Nat×R6)}{listed:Array Bool}{j:Nat}{o:Oper}{Q:Exit->Act->World->Prop}
  (aE:∀(i j:Nat) (c ag:Oper) (d:Nat),ops.toList[i]?=some c->ops.toList[j]?=some ag->c.dst=some d->ag.dst=some d->i=j)
  (Z:∀ o∈ops.toList,∀ d,o.dst=some d->d<st.n)
  (V:∀ t f,(t,f)∈L->∃(i:Nat) (c:Oper),ops.toList[i]?=some c/\c.dst=some t)
  (al:∀(i:Nat) (c:Oper) (d:Nat),ops.toList[i]?=some c->c.dst=some d->∃ f,I3 L d=some f)
  (aa:ops[j]?=some o) (W:∀(j:Nat) (o:Oper),ops.toList[j]?=some o->I0s P st h L o) (an:∀ t,Operand.tmp t∈o.op.operands->∀(i:Nat) (c:Oper),ops.toList[i]?=some c->c.dst=some t->listed.getD i false=true)
  (M:R0r P h0 w0 ops st h L listed a w):o.wp P a w (R0r P h0 w0 ops st h L (listed.setIfInBounds j true)) Q:=by
 obtain⟨be,oe,H,y,ae,D,T⟩:=M
 have ab:ops.toList[j]?=some o:=by simpa using aa
 have Y:o∈ops.toList:=List.mem_of_getElem? ab
 obtain⟨aG,f,hf,ac⟩:=W j o ab
 have az:∀ d F,I3 L d=some (.ef F)->∀ v l k,Sub l k->F v l->F v k:=λd F J=>by
  obtain⟨i,c,l,k⟩:=V d _ (S0b J)
  obtain⟨_,aD,ao,ay⟩:=W i c l
  rw[ao d k]at J
  cases J
  exact ay.1
 have ai:∀ t,Operand.tmp t∈o.op.operands->(∀ f,I3 L t=some f->d06 st be oe y f (a.tmps.getD t undef))/\(I3 L t=none->I2 st be oe (Z2 st.fr t) (a.tmps.getD t undef)):=λt N=>by
  refine⟨λf hf=>?_,λaw=>?_⟩
  ·obtain⟨i,c,l,k⟩:=V t f (S0b hf)
   exact T i c t f (by simpa using l) k (an t N i c l k) hf
  ·have g:=D.fr t
   have ar:Z2 (A4 ops.toList st.fr) t=Z2 st.fr t:=t01 λaC ax C=>by
    obtain⟨i,M,e⟩:=List.getElem_of_mem ax
    obtain⟨f,hf⟩:=al i aC t (by rw[List.getElem?_eq_getElem M,e]) C
    rw[aw]at hf;cases hf
   rw[←ar]
   exact I2.fr (st := { st with fr:=A4 ops.toList st.fr }) (fr:=st.fr) g
 have fin:∀ {fr:List (Nat×AV)} {z:Act} {s:World} {p:Hp} {be':Nat->Nat} {oe':Nat->Value} {q:Hp} {v:Value},Sub y p->z=a.put o.dst v->Sim P h0 w0 be' oe' q { st with fr:=fr } p a s ->
   a7 { st with fr:=fr } be oe { st with fr:=fr } be' oe'->d06 st be' oe' p f v->R0r P h0 w0 ops st h L (listed.setIfInBounds j true) z s:=by
  intro fr z s p be' oe' q v af B E m O
  subst B
  have aj:a7 { st with fr:=A4 ops.toList st.fr } be oe { st with fr:=A4 ops.toList st.fr } be' oe':=⟨m.bl,m.be,m.sm⟩
  have ak:a7 st be oe st be' oe':=⟨m.bl,m.be,m.sm⟩
  have s1:Sim P h0 w0 be' oe' q { st with fr:=A4 ops.toList st.fr } p a s :=
   E.refr (fr:=A4 ops.toList st.fr) λt=>I2.fr (st := { st with fr:=A4 ops.toList st.fr }) ((D.fr t).grow aj)
  have s2:Sim P h0 w0 be' oe' q { st with fr:=A4 ops.toList st.fr } p (a.put o.dst v) s:=by
   cases C:o.dst with
   |none=>exact s1
   |some d =>
    have ad:=s1.put (d:=d) (av := .dead) (v:=v) (Z o Y d C) trivial
    refine ad.refr (fr:=A4 ops.toList st.fr) λt=>?_
    have g:=ad.fr t
    grind[Z3,E02]
  refine⟨be',oe',q,p,λb x am=>af b x (ae b x am),s2,λi c d g l k U G=>?_⟩
  by_cases hij:j=i
  ·subst hij
   rw[aa]at l;cases l
   rw[hf d k]at G;cases G
   have aq:d<a.tmps.size:=by rw[D.siz];exact Z o Y d k
   have:(a.put o.dst v).tmps.getD d undef=v:=by
    rw[k]
    simp[Act.put,aq]
   rw[this]
   exact O
  ·have ap:listed.getD i false=true:=by rw[getD_set_ne false hij]at U;exact U
   have au:∀ A,o.dst=some A->A≠d:=λA aF e=>by
    grind
   have:(a.put o.dst v).tmps.getD d undef=a.tmps.getD d undef:=by
    cases C:o.dst with
    |none=>rfl
    |some A=>simp[Act.put,Array.getElem?_setIfInBounds_ne (au A C)]
   rw[this]
   have ah:=T i c d g l k ap G
   cases g with
   |pu av=>exact I2.grow ak ah
   |ef F=>exact az d F G _ _ _ af ah
 cases f with
 |pu av =>
  obtain⟨fr,g,K⟩:=v0q (h:=y) ac ai
  have E:Sim P h0 w0 be oe H { st with fr:=fr } y a w:=D.refr (fr:=fr) λt=>I2.fr (g t)
  refine Oper.wp_mono (λz s R=>?_) (d00 E K)
  obtain⟨S,st',p,v,be',oe',q,⟨rfl,rfl,rfl⟩,B,s2,I,m⟩:=R
  exact fin (λ_ _ h=>h) B s2 m (I2.fr (st := { st with fr:=fr }) (fr:=st.fr) I)
 |ef F =>
  obtain⟨fr,K,g⟩:=k03 (acc:=[]) (be:=be) (oe:=oe) (val:=λt=>a.tmps.getD t undef) (λt=>trivial) (λt N=>ai t (by simpa using N)) (ac.2 y ae)
  have E:Sim P h0 w0 be oe H { st with fr:=fr } y a w:=D.refr (fr:=fr) λt=>I2.fr (g t)
  refine Oper.wp_mono (λz s R=>?_) (d00 E K)
  obtain⟨S,st',p,v,be',oe',q,X,B,s2,I,m⟩:=R
  cases S with
  |val u =>
   obtain⟨rfl,aA,aB⟩:=X
   have O:v=u:=I
   subst O
   exact fin aA B s2 m aB
  |_=>exact X.elim
theorem T0b{ops:Array Oper}(b:∀(k:Nat) (o:Oper),ops.toList[k]?=some o->∀ e∈o.after,Region.binds .any e=true->e.on<k){listed:Array Bool}(h:listed.size=ops.size)(g:Region.ready .any ops listed = []):
  ∀ j,j<ops.size->listed.getD j false=true:=by
 intro j
 induction j using Nat.strongRecOn with
 |_ j i =>
  intro a
  cases hl:listed.getD j false with
  |true=>rfl
  |false =>
   have f:j<listed.size:=by omega
   have:j∈Region.ready .any ops listed:=by
    refine mem_ready.2 ⟨?_,ops[j],by simp[a],λe d c=>?_⟩
    all_goals grind
   grind
theorem count_set{listed:Array Bool}{j:Nat}(a:listed.getD j true=false):(listed.setIfInBounds j true).toList.count true=listed.toList.count true+1:=by
 have b:j<listed.size:=by
  grind
 simp_all[Array.toList_setIfInBounds,List.count_set]
end
end Go.H
namespace Go.H
set_option linter.unusedVariables false
set_option linter.unusedSimpArgs false
theorem w0q{P:Program}{t:TypeId}{cs:List S5}{off:Nat}{av:AV}(h:e0e P t cs off=some av):T04 P t cs off λa=>a=av:=by
 grind[e0e,T04,G0h,B6]
section
variable {P:Program} {h0:Hp} {w0:World} {be:Nat->Nat} {oe:Nat->Value} {H:Hp} {h:Hp} {a:Act} {w:World}
theorem y06{L:List (Nat×R6)}{st stX:St}{x:Operand}
  (b:∀ t,x = .tmp t->(∀ av,I3 L t=some (.pu av)->I2 stX be oe av (a.tmps.getD t undef))/\(I3 L t=none->I2 stX be oe (Z2 st.fr t) (a.tmps.getD t undef))):I2 stX be oe (b06 L st x) (a.eval x):=by
 cases x with
 |tmp t =>
  obtain⟨c,d⟩:=b t rfl
  show I2 stX be oe (b06 L st (.tmp t)) (a.tmps.getD t undef)
  simp only[b06]
  split
  ·grind
  ·trivial
  grind
 |const v=>exact rfl
 |global g=>trivial
 |func f=>trivial
theorem a07{L:List (Nat×R6)}{st stX:St}:∀(l:List Operand) {vs:List (Nat×Value)},(∀ t,Operand.tmp t∈l->I2 stX be oe (b06 L st (.tmp t)) (a.tmps.getD t undef))->S0c L st l=some vs ->
  (∀ p∈vs,p.2=a.eval (.tmp p.1))/\(∀ x∈l,(∃ t v,x = .tmp t/\(t,v)∈vs)∨(∀ m,rho m x=a.eval x))
 | [],vs,G,h=>by cases h;simp
 | .tmp t::r,vs,G,h=>by
  simp only[S0c]at h
  split at h
  ·rename_i v k
   split at h
   ·rename_i n j
    cases h
    obtain⟨c,e⟩:=a07 r (λu d=>G u (mC _ d)) j
    have g:=G t mS
    rw[k]at g
    have g:a.tmps.getD t undef=v:=g
    refine⟨λp i=>?_,λx b=>?_⟩
    ·rcases List.mem_cons.1 i with rfl|i
     ·exact g.symm
     ·exact c p i
    grind
   ·cases h
  ·cases h
 | .global _::r,vs,G,h=>by cases h
 | .const v::r,vs,G,h=>by
  obtain⟨c,e⟩:=a07 r (vs:=vs) (λu d=>G u (mC _ d)) h
  exact⟨c,λx b=>by
   rcases List.mem_cons.1 b with rfl|b
   ·exact .inr λ_=>rfl
   ·exact e x b⟩
 | .func f::r,vs,G,h=>by
  obtain⟨c,e⟩:=a07 r (vs:=vs) (λu d=>G u (mC _ d)) h
  exact⟨c,λx b=>by
   rcases List.mem_cons.1 b with rfl|b
   ·exact .inr λ_=>rfl
   ·exact e x b⟩
theorem k0j{L:List (Nat×R6)}{st stX:St}{o:Oper}{av:AV}(b:b0l P L o st=some av)
  (j:∀ t,Operand.tmp t∈o.op.operands->(∀ av,I3 L t=some (.pu av)->I2 stX be oe av (a.tmps.getD t undef))/\(I3 L t=none->I2 stX be oe (Z2 st.fr t) (a.tmps.getD t undef))) :
  ∃ v,(execOp a.eval o).run P w = .ok (.value v) w/\I2 stX be oe av v:=by
 unfold b0l at b
 split at b
 ·rename_i vs f g
  obtain⟨d,e⟩:=a07 (a:=a) (stX:=stX) (be:=be) (oe:=oe) _ (λt h=>y06 (x := .tmp t) λu i=>by grind) g
  split at b
  ·cases b
  ·split at b
   ·rename_i v c
    cases b
    rw[n0e,P0b f d e]at c
    exact⟨v,t0m _ c w,rfl⟩
   ·cases b
 ·cases b
theorem H05{L b:List (Nat×R6)}{st:St}:∀ {l:List Operand},(∀ t,Operand.tmp t∈l->I3 L t=I3 b t)->S0c L st l=S0c b st l
 | [],h=>rfl
 | .tmp t::r,h=>by simp only[S0c,b06,h t mS,H05 λu a=>h u (mC _ a)]
 | .global _::r,h=>rfl
 | .const _::r,h=>H05 (l:=r) λu a=>h u (mC _ a)
 | .func _::r,h=>H05 (l:=r) λu a=>h u (mC _ a)
theorem w0e{L:List (Nat×R6)}{st:St}{o:Oper}{t:TypeId}{x:Operand}{i off:Nat}(b:o.op = .load t x)(a:b06 L st x = .box i off):∀ {l:List Oper},o∈l->i∈J00 L st l
 | [],h=>nomatch h
 |y::r,h=>by
  rcases List.mem_cons.1 h with rfl|h
  ·grind[J00,List.mem_cons_self]
  ·have:=w0e b a h
   grind[J00,mC]
theorem y0g{bx a:List BSt}{i:Nat}:∀ {l:List Nat},u09 bx l=u09 a l->i∈l->nth bx i=nth a i
 | [],_,h=>nomatch h
 |y::r,e,h=>by
  simp only[u09,List.cons.injEq]at e
  rcases List.mem_cons.1 h with rfl|h
  ·exact e.1
  ·exact y0g e.2 h
theorem I0n{L:List (Nat×R6)}{st stX:St}{o:Oper}{av:AV}(m:Sim P h0 w0 be oe H stX h a w)(E:∀ t x i off,o.op = .load t x->b06 L st x = .box i off->nth stX.bx i=nth st.bx i)(c:t09 P L o st=some av)
  (f:∀ t,Operand.tmp t∈o.op.operands->(∀ av,I3 L t=some (.pu av)->I2 stX be oe av (a.tmps.getD t undef))/\(I3 L t=none->I2 stX be oe (Z2 st.fr t) (a.tmps.getD t undef))) :
  ∃ v,(execOp a.eval o).run P w = .ok (.value v) w/\I2 stX be oe av v:=by
 unfold t09 at c
 split at c
 ·rename_i x d
  split at c
  ·cases c
   simp_all[y06,Op.operands,execOp]
  ·cases c
 ·rename_i x d
  split at c
  ·cases c
   simp_all[y06,Op.operands,execOp]
  ·cases c
 ·rename_i t x d
  have g:=y06 (L:=L) (st:=st) (stX:=stX) (be:=be) (oe:=oe) (a:=a) (x:=x) λt e=>f t (by rw[d];simp[Op.operands,e])
  split at c
  ·rename_i i off l
   rw[l]at g
   split at c
   ·rename_i cs ty F
    split at c
    ·rename_i B s
     split at c
     ·cases c
      obtain⟨D,vs,p,q⟩:=m.box i cs ty (by grind)
      obtain⟨C,v,y,z,A⟩:=R.load_row (H:=H) (b:=be i) (o:=0) (be:=be) (w0q s) p (λj v u=>by simp[Hp.cell,q,u])
      subst y
      exact⟨v,R.run_of (R.exec_load d g.2 (by simpa using A)) w (P0o m),z⟩
     ·cases c
    ·cases c
   ·cases c
  ·cases c
 ·rename_i t x k d
  have g:=y06 (L:=L) (st:=st) (stX:=stX) (be:=be) (oe:=oe) (a:=a) (x:=x) λt e=>f t (by rw[d];simp[Op.operands,e])
  split at c
  ·rename_i i off n l e
   rw[l]at g
   cases c
   exact⟨ptr (be i) (off+n),R.run_of (R.exec_fieldAddr d e g.2) w (P0o m),g.1,rfl⟩
  ·cases c
 ·split at c
  ·exact k0j c f
  ·cases c
 ·split at c
  ·split at c
   ·exact k0j c f
   ·cases c
  ·cases c
 ·cases c
theorem c02{L:List (Nat×R6)}{st stX:St}{val:Nat->Value}{K:List (Nat×AV)->Prop}:∀ {l:List Operand} {acc:List (Nat×AV)},
  (∀ t,I2 stX be oe (Z2 acc t) (val t))->(∀ t,Operand.tmp t∈l->(∀ av,I3 L t=some (.pu av)->I2 stX be oe av (val t))/\(I3 L t=none->I2 stX be oe (Z2 st.fr t) (val t))) ->
  B05 L st.fr l acc K->∃ fr,K fr/\∀ t,I2 stX be oe (Z2 fr t) (val t)
 | [],acc,c,b,a=>⟨acc,a,c⟩
 | .tmp t::r,acc,c,b,a=>by
  have f:∀ u,Operand.tmp u∈r->_:=λu d=>b u (mC _ d)
  have h:=b t mS
  have put:∀ av,I2 stX be oe av (val t)->∀ u,I2 stX be oe (Z2 ((t,av)::acc) u) (val u):=λav g u=>by
   grind[Z3]
  simp only[B05]at a
  split at a
  ·rename_i av e
   exact c02 (put av (h.1 _ e)) f a
  ·rename_i F e
   exact c02 (put .dead trivial) f a
  ·rename_i e
   exact c02 (put _ (h.2 e)) f a
 | .const v::r,acc,c,b,a=>c02 (l:=r) c (λu d=>b u (mC _ d)) a
 | .global v::r,acc,c,b,a=>c02 (l:=r) c (λu d=>b u (mC _ d)) a
 | .func v::r,acc,c,b,a=>c02 (l:=r) c (λu d=>b u (mC _ d)) a
theorem U0b:∀(L:List (Nat×R6)) (fr:List (Nat×AV)) (t:Nat),Z2 (c0l L fr) t=match I3 L t with
  |some (.pu av)=>av
  |some (.ef _) => .dead
  |none=>Z2 fr t
 | [],fr,t=>rfl
 |(d,.pu av)::r,fr,t=>by
  simp only[c0l]
  rw[Z3,L00]
  split
  ·rfl
  ·exact U0b r fr t
 |(d,.ef F)::r,fr,t=>by
  simp only[c0l]
  rw[Z3,L00]
  split
  ·rfl
  ·exact U0b r fr t
theorem l0j{L a:List (Nat×R6)}{o:Oper}{st:St}(h:∀ t,Operand.tmp t∈o.op.operands->I3 L t=I3 a t):t09 P L o st=t09 P a o st:=by
 have d:∀ x:Operand,(∀ t,x = .tmp t->Operand.tmp t∈o.op.operands)->b06 L st x=b06 a st x:=λx c=>by
  cases x with
  |tmp t=>grind[b06]
  |_=>rfl
 have e:b0l P L o st=b0l P a o st:=by
  unfold b0l
  rw[H05 (l:=o.op.operands.toList) λt b=>h t (by simpa using b)]
 unfold t09
 split
 ·rename_i x c;rw[d x λt b=>by grind[Op.operands]]
 ·rename_i x c;rw[d x λt b=>by grind[Op.operands]]
 ·rename_i t x c;rw[d x λt b=>by grind[Op.operands]]
 all_goals grind[Op.operands,List.mem_cons_self,Call.operands]
theorem d02{L c:List (Nat×R6)}{f:List (Nat×AV)}{K:List (Nat×AV)->Prop}:∀ {l:List Operand} {acc:List (Nat×AV)},(∀ t,Operand.tmp t∈l->I3 L t=I3 c t)->B05 L f l acc K->B05 c f l acc K
 | [],acc,a,h=>h
 | .tmp t::r,acc,a,h=>by
  have e:=a t mS
  have d:∀ u,Operand.tmp u∈r->I3 L u=I3 c u:=λu b=>a u (mC _ b)
  simp only[B05]at h ⊢
  rw[←e]
  split at h
  ·exact d02 d h
  ·exact d02 d h
  ·exact d02 d h
 | .const _::r,acc,a,h=>d02 (l:=r) (λu b=>a u (mC _ b)) h
 | .func _::r,acc,a,h=>d02 (l:=r) (λu b=>a u (mC _ b)) h
 | .global _::r,acc,a,h=>d02 (l:=r) (λu b=>a u (mC _ b)) h
structure I05 (P:Program) (st:St) (h:Hp) (ops:List Oper) (k:Nat) (L:List (Nat×R6)) (X E:List (Nat×Oper)):Prop where
 key:∀ t f,I3 L t=some f->∃(i:Nat) (oi:Oper),i<k/\ops[i]?=some oi/\oi.dst=some t
 cov:∀(i:Nat) (oi:Oper) (d:Nat),i<k->ops[i]?=some oi->oi.dst=some d->∃ f,I3 L d=some f
 each:∀(j:Nat) (o:Oper),j<k->ops[j]?=some o->o.guard=none/\((j,o)∈E∨((∀ p∈E,p.1≠j)/\∃ av,(t09 P L o st=some av∨((j,o)∈X/\V0i P st h L o av))/\∀ d,o.dst=some d->I3 L d=some (.pu av)))
 eff:∀ p∈E,p.1<k/\ops[p.1]?=some p.2/\∀ d,p.2.dst=some d->∃ F,I3 L d=some (.ef F)
 nd:(E.map λp=>p.1).Nodup
 xx:∀ p∈X,p.1<k/\ops[p.1]?=some p.2
theorem I05.add{st:St}{h:Hp}{ops:List Oper}{k:Nat}{L:List (Nat×R6)}{X w E A:List (Nat×Oper)}{o:Oper}{f:R6}
  (Y:∀(i j:Nat) (q b:Oper) (d:Nat),ops[i]?=some q->ops[j]?=some b->q.dst=some d->b.dst=some d->i=j)
  (Z:∀(j:Nat) (o:Oper) (t i:Nat) (q:Oper),ops[j]?=some o->Operand.tmp t∈o.op.operands->ops[i]?=some q->q.dst=some t->i<j)
  (l:I05 P st h ops k L X E) (K:ops[k]?=some o) (B:o.guard=none) (O:w=X∨w=X ++ [(k,o)])
  (I:(A=E/\∃ av,f = .pu av/\(t09 P L o st=some av∨((k,o)∈w/\V0i P st h L o av)))∨(A=E ++ [(k,o)]/\∃ F,f = .ef F)):I05 P st h ops (k+1) (T07 o.dst f L) w A:=by
 have no:∀ d,o.dst=some d->I3 L d=none:=λd c=>by
  cases h:I3 L d with
  |none=>rfl
  |some g =>
   obtain⟨i,q,u,s,H⟩:=l.key d g h
   grind
 have up:∀ t g,I3 L t=some g->I3 (T07 o.dst f L) t=some g:=λt g m=>by
  cases c:o.dst with
  |none=>exact m
  |some d =>
   show I3 ((d,f)::L) t=some g
   grind[L00]
 have V:∀ d,o.dst=some d->I3 (T07 o.dst f L) d=some f:=λd c=>by
  rw[c];show I3 ((d,f)::L) d=some f;rw[L00,if_pos rfl]
 have dn:∀ t g,I3 (T07 o.dst f L) t=some g->I3 L t=some g∨(o.dst=some t/\g=f):=λt g m=>by
  cases c:o.dst with
  |none=>rw[c]at m;exact .inl m
  |some d =>
   rw[c]at m
   change I3 ((d,f)::L) t=some g at m
   grind[L00]
 have W:∀(j:Nat) (b:Oper),j<=k->ops[j]?=some b->t09 P L b st=t09 P (T07 o.dst f L) b st:=λj b J v=>l0j λt m=>by
  cases c:o.dst with
  |none=>rfl
  |some d =>
   show I3 L t=I3 ((d,f)::L) t
   rw[L00]
   grind
 have G:∀(j:Nat) (b:Oper) (av:AV),j<=k->ops[j]?=some b->V0i P st h L b av->V0i P st h (T07 o.dst f L) b av:=λj b av J v C=>by
  obtain⟨n,fr,bx,ow⟩:=st
  intro M Q
  refine d02 (λt m=>?_) (C M Q)
  cases c:o.dst with
  |none=>rfl
  |some d =>
   show I3 L t=I3 ((d,f)::L) t
   rw[L00]
   split
   all_goals grind
 have S:∀ p,p∈X->p∈w:=λp a=>by
  grind
 refine⟨λt g m=>?_,λi q d aa u s=>?_,λj b J v=>?_,λp a=>?_,?_,λp a=>?_⟩
 rotate_left 5
 ·rcases O with rfl|rfl
  ·obtain⟨u,s⟩:=l.xx p a
   grind
  ·rcases List.mem_append.1 a with a|a
   ·obtain⟨u,s⟩:=l.xx p a
    grind
   grind
 rotate_left 4
 ·rcases I with⟨rfl,_⟩|⟨rfl,_⟩
  ·exact l.nd
  ·rw[List.map_append,List.nodup_append]
   refine⟨l.nd,by simp,λx C y R e=>?_⟩
   obtain⟨p,a,rfl⟩:=List.mem_map.1 C
   have:=(l.eff p a).1
   simp at R
   omega
 ·rcases dn t g m with h|⟨h,_⟩
  ·obtain⟨i,q,u,s⟩:=l.key t g h
   exact⟨i,q,by omega,s⟩
  grind
 ·rcases Nat.lt_or_ge i k with h|h
  ·obtain⟨g,B⟩:=l.cov i q d h u s
   exact⟨g,up d g B⟩
  grind
 ·rcases Nat.lt_or_ge j k with h|h
  ·obtain⟨T,D⟩:=l.each j b h v
   refine⟨T,?_⟩
   rcases D with D|⟨D,av,z,U⟩
   ·grind
   ·right
    refine⟨λp a=>?_,av,z.imp (λz=>by grind) (λz=>⟨S _ z.1,G j b av (by omega) v z.2⟩),λd c=>up d _ (U d c)⟩
    grind
  ·have:j=k:=by omega
   subst this
   rw[K]at v;cases v
   refine⟨B,?_⟩
   rcases I with⟨rfl,av,rfl,a⟩|⟨rfl,F,rfl⟩
   ·right
    exact⟨λp a=>by have:=(l.eff p a).1;omega,av,a.imp (λa=>by grind) (λa=>⟨a.1,G _ o av (Nat.le_refl _) K a.2⟩),V⟩
   grind
 ·have ab:p∈E->p.1<k+1/\ops[p.1]?=some p.2/\∀ d,p.2.dst=some d->∃ F,I3 (T07 o.dst f L) d=some (.ef F):=λa=>by
   obtain⟨u,s,H⟩:=l.eff p a
   exact⟨by omega,s,λd c=>by obtain⟨F,N⟩:=H d c;exact⟨F,up d _ N⟩⟩
  grind
theorem J05{ops:List Oper}{st:St}{h:Hp}{K:List (Nat×R6)->List (Nat×Oper)->List (Nat×Oper)->Prop}
  (e:∀(i j:Nat) (b z:Oper) (d:Nat),ops[i]?=some b->ops[j]?=some z->b.dst=some d->z.dst=some d->i=j)
  (g:∀(j:Nat) (o:Oper) (t i:Nat) (b:Oper),ops[j]?=some o->Operand.tmp t∈o.op.operands->ops[i]?=some b->b.dst=some t->i<j) :
  ∀(l:List Oper) (k:Nat) (L:List (Nat×R6)) (X E:List (Nat×Oper)),(∀ j,l[j]?=ops[k+j]?)->I05 P st h ops k L X E->b04 P st h l k L X E K->∃ w x v,K w x v/\I05 P st h ops ops.length w x v
 | [],k,L,X,E,m,c,a=>by
  refine⟨L,X,E,a,?_⟩
  have G:ops.length<=k:=by
   have:=m 0
   simpa using this
  have lt:∀(i:Nat) (b:Oper),ops[i]?=some b->i<ops.length:=λi b h=>(List.getElem?_eq_some_iff.1 h).1
  exact⟨λt f h=>by obtain⟨i,b,_,y,A⟩:=c.key t f h;grind,λi b d D=>c.cov i b d (by omega),λj o F=>c.each j o (by omega),
   λp u=>by obtain⟨_,y,A⟩:=c.eff p u;grind,c.nd,λp u=>by obtain⟨_,y⟩:=c.xx p u;grind⟩
 |o::l,k,L,X,E,m,c,a=>by
  have s:ops[k]?=some o:=by simpa using (m 0).symm
  have q:∀ j,l[j]?=ops[k+1+j]?:=λj=>by have:=m (j+1);grind
  simp only[b04]at a
  split at a
  ·exact a.elim
  ·rename_i n
   split at a
   ·rename_i av B
    rw[r03]at a
    exact J05 e g l (k+1) _ _ _ q (c.add e g s n (.inl rfl) (.inl ⟨rfl,av,rfl,.inl B⟩)) a
   ·rcases a with⟨av,C,a⟩|a
    ·rw[r03]at a
     exact J05 e g l (k+1) _ _ _ q (c.add e g s n (.inr rfl) (.inl ⟨rfl,av,rfl,.inr ⟨by simp,C⟩⟩)) a
    ·exact J05 e g l (k+1) _ _ _ q (c.add e g s n (.inl rfl) (.inr ⟨rfl,_,rfl⟩)) a
theorem x0e:∀(r:List (Nat×Oper)) (q:Nat×Oper),X04 r=true->q∈r.tail->∃ p∈r,c00 p.1 q.2=true
 | [],q,_,h=>by cases h
 | [x],q,_,h=>by cases h
 |(i,o)::(j,b)::r,q,a,h=>by
  simp only[X04,Bool.and_eq_true]at a
  rcases List.mem_cons.1 h with rfl|h
  ·simp_all
  ·obtain⟨p,d,c⟩:=x0e ((j,b)::r) q a.2 h
   grind
theorem H03:∀(d r:List (Nat×Oper)),X04 (d++r)=true->X04 r=true
 | [],r,h=>h
 | [x],[],h=>rfl
 | [(i,o)],(j,a)::r,h=>by simp_all[List.singleton_append,X04,Bool.and_eq_true]
 |(i,o)::(j,a)::d,r,h=>by
  simp only[List.cons_append,X04,Bool.and_eq_true]at h
  exact H03 ((j,a)::d) r h.2
theorem e06{i:Nat}{o:Oper}:∀ {N:Nat},Y04 N i o=true->∀ k,k<N->k≠i->∃ e∈o.after,Region.binds .any e=true/\e.on=k
 |0,_,k,a,_=>by omega
 |N+1,h,k,a,b=>by
  simp only[Y04,Bool.and_eq_true,Bool.or_eq_true]at h
  by_cases e:k=N
  ·grind[absurd,Nat.eq_of_beq_eq_true,H8]
  ·exact e06 h.2 k (by omega) b
def V0o(P:Program)(h0:Hp)(w0:World)(ops:Array Oper)(n:Nat)(fr:List (Nat×AV))(f:List BSt)(g:List Own)(i:Hp)(c:Nat)(F:List (Nat×Oper))(b:List (Nat×R6))(EV:List (Nat×Oper)->List (Nat×Oper)->List (Nat×R6)->St->Hp->Prop)(listed:Array Bool)(a:Act)(w:World):Prop :=
 ∃(dn r:List (Nat×Oper)) (L:List (Nat×R6)) (bx:List BSt) (ow:List Own) (h:Hp) (be:Nat->Nat) (oe:Nat->Value) (H:Hp),F=dn++r/\(dn.length<=c->ow=g/\Sub i h/\(bx=f∨∀ k,k<ops.size->listed.getD k false=true))/\(∀(j:Nat) (o:Oper),ops[j]?=some o->listed.getD j false=true->∀ e∈o.after,Region.binds .any e=true->listed.getD e.on false=true)/\(∀ p∈r,listed.getD p.1 true=false)/\(∀ p∈dn,listed.getD p.1 false=true) /\
  (u09 bx (J00 b ⟨n,fr,f,g⟩ ops.toList)=u09 f (J00 b ⟨n,fr,f,g⟩ ops.toList)∨∀ k,k<ops.size->listed.getD k false=true)/\Sim P h0 w0 be oe H ⟨n,A4 ops.toList fr,bx,ow⟩ h a w/\EV dn r L ⟨n,fr,bx,ow⟩ h /\
  (∀ t,(I3 b t=none->I3 L t=none)/\∀ av,I3 b t=some (.pu av)->I3 L t=some (.pu av)) /\
  ∀(j:Nat) (o:Oper) (d:Nat),ops[j]?=some o->o.dst=some d->listed.getD j false=true->∃ av,I3 L d=some (.pu av)/\I2 ⟨n,fr,bx,ow⟩ be oe av (a.tmps.getD d undef)
abbrev J0n(P:Program)(h0:Hp)(w0:World)(ops:Array Oper)(n:Nat)(fr:List (Nat×AV))(d:List BSt)(e:List Own)(f:Hp)(c:Nat)(E:List (Nat×Oper))(b:List (Nat×R6))(K:St->Hp->Prop)(listed:Array Bool)(a:Act)(w:World):Prop :=
 V0o P h0 w0 ops n fr d e f c E b (λdn r L st h=>evC (J00 b ⟨n,fr,d,e⟩ ops.toList) ops.size P (c-dn.length) r L st h K) listed a w
theorem S0r{ops:Array Oper}{Q:Exit->Act->World->Prop}{Inv:Array Bool->Act->World->Prop}(i:∀(k:Nat) (o:Oper),ops.toList[k]?=some o->∀ e∈o.after,Region.binds .any e=true->e.on<k)
  (n:∀ listed a w j o,listed.size=ops.size->listed.getD j true=false->ops[j]?=some o->(∀ e∈o.after,Region.binds .any e=true->listed.getD e.on false=true)->Inv listed a w->o.guard=none/\o.wp P a w (Inv (listed.setIfInBounds j true)) Q)
  (g:∀ listed a w,(∀ j,j<ops.size->listed.getD j false=true)->Inv listed a w->Q .normal a w) :
  ∀(fuel:Nat) (listed:Array Bool) (a:Act) (w:World),listed.size=ops.size->listed.toList.count true+fuel=ops.size->Inv listed a w->wpAny P .any ops Q fuel listed a w
 |0,listed,a,w,f,t,d=>by
  have s:∀ j,j<ops.size->listed.getD j false=true:=λj l=>by
   have c:∀ b∈listed.toList,true=b:=List.count_eq_length.1 (by grind)
   have x:j<listed.size:=by omega
   have:=c listed[j] (by simp)
   simp[x,←this]
  refine⟨?_,g listed a w s d⟩
  cases m:Region.ready .any ops listed with
  |nil=>rfl
  |cons j r =>
   grind[Region.ready,List.mem_cons_self,mem_ready,Array.getElem?_eq_some_iff]
 |fuel+1,listed,a,w,f,t,d=>by
  refine⟨λm=>g listed a w (T0b i f m) d,λj l=>?_⟩
  obtain⟨c,o,h,q⟩:=mem_ready.1 l
  unfold wpOp
  simp only[h]
  obtain⟨u,z⟩:=n listed a w j o f c h q d
  have y:Region.wanted o (yielded ops a.tmps)=true:=by unfold Region.wanted;rw[u]
  rw[if_pos y]
  exact .inl (Oper.wp_mono (λp A v=>S0r i n g fuel _ p A (by simpa using f) (by rw[count_set c];omega) v) z)
theorem M0a{ops:Array Oper}{listed:Array Bool}{X:List (Nat×Oper)}
  (f:∀(k:Nat) (o:Oper),ops[k]?=some o->listed.getD k false=true->∀ e∈o.after,Region.binds .any e=true->listed.getD e.on false=true)
  (p:∀ y∈X,ops[y.1]?=some y.2):∀(n i a:Nat) (q:Oper),ops[a]?=some q->listed.getD a false=true->M0h X n i q=true->listed.getD i false=true
 |0,i,a,q,h,g,j=>by
  obtain⟨e,b,c,d⟩:=H8 j
  have:=f a q h g e b c
  rwa [d]at this
 |n+1,i,a,q,h,g,j=>by
  simp only[M0h,Bool.or_eq_true,List.any_eq_true,Bool.and_eq_true]at j
  rcases j with l|⟨y,t,l,s⟩
  ·obtain⟨e,b,c,d⟩:=H8 l
   have:=f a q h g e b c
   rwa [d]at this
  ·obtain⟨e,b,c,d⟩:=H8 l
   have m:=f a q h g e b c
   rw[d]at m
   exact M0a f p n i y.1 y.2 (p y t) m s
theorem V0b{E:List (Nat×Oper)}{listed:Array Bool}{j:Nat}{o:Oper}(h:∀ e∈o.after,Region.binds .any e=true->listed.getD e.on false=true)
  (d:∀ dn r,E=dn++r->X04 r=true) {dn r:List (Nat×Oper)} (c:E=dn++r) (k:∀ p∈r,listed.getD p.1 true=false) (b:(j,o)∈r):∃ a,r=(j,o)::a:=by
 obtain⟨q,a,rfl⟩:∃ q a,r=q::a:=by
  cases r with
  |nil=>cases b
  |cons q a=>exact⟨q,a,rfl⟩
 rcases List.mem_cons.1 b with e|f
 ·grind
 ·exfalso
  obtain⟨p,i,g⟩:=x0e (q::a) (j,o) (d dn _ c) f
  grind[H8,Nat.lt_or_ge,Array.getElem?_eq_none]
theorem x0m{ops:Array Oper}{n:Nat}{fr:List (Nat×AV)}{Z:List BSt}{aj:List Own}{aX:Hp}{c:Nat}{X E F:List (Nat×Oper)}{ad:List (Nat×R6)}{EV:List (Nat×Oper)->List (Nat×Oper)->List (Nat×R6)->St->Hp->Prop}{Q:Exit->Act->World->Prop}{listed:Array Bool}{j:Nat}{o:Oper}
  (a6:∀(i j:Nat) (l bp:Oper) (d:Nat),ops.toList[i]?=some l->ops.toList[j]?=some bp->l.dst=some d->bp.dst=some d->i=j)
  (bg:∀ o∈ops.toList,∀ d,o.dst=some d->d<n) (am:I05 P ⟨n,fr,Z,aj⟩ aX ops.toList ops.toList.length ad X E) (aQ:∀ x∈F,x∈E) (bu:(j,o)∈E->(j,o)∈F) (bv:(F.map λp=>p.1).Nodup)
  (bR:∀ dn r,F=dn++r->(∀ p∈dn,listed.getD p.1 false=true)->(∀ p∈r,listed.getD p.1 true=false)->(j,o)∈r->∃ K,r=(j,o)::K)
  (aV:∀ dn K L bx ow h,F=dn++(j,o)::K->(∀ p∈dn,listed.getD p.1 false=true)->EV dn ((j,o)::K) L ⟨n,fr,bx,ow⟩ h->B05 L fr o.op.operands.toList [] λU=>Z8 P o ⟨n,U,bx,ow⟩ h λav st' aa=>match st' with
   |⟨_,_,B,D⟩=>N0h (c-dn.length) ow D h aa/\n0m (c-dn.length) (j0e ops.size j o K) (J00 ad ⟨n,fr,Z,aj⟩ ops.toList) bx B/\Y01 av λav=>P9 B λB=>P9 D λD=>EV (dn ++ [(j,o)]) K (T07 o.dst (.pu av) L) ⟨n,fr,B,D⟩ aa)
  (aU:g0e X (X++E) (F.drop c)=true)
  (au:listed.getD j true=false) (ax:ops[j]?=some o) (bX:listed.size=ops.size)
  (bd:∀ t,Operand.tmp t∈o.op.operands->∀(i:Nat) (l:Oper),ops.toList[i]?=some l->l.dst=some t->listed.getD i false=true)
  (bf:∀ e∈o.after,Region.binds .any e=true->listed.getD e.on false=true)
  (aW:V0o P h0 w0 ops n fr Z aj aX c F ad EV listed a w):o.guard=none/\o.wp P a w (V0o P h0 w0 ops n fr Z aj aX c F ad EV (listed.setIfInBounds j true)) Q:=by
 obtain⟨dn,r,L,bx,ow,aa,be,oe,H,N,aq,bc,aJ,ae,b0,Y,af,O,an⟩:=aW
 have ay:ops.toList[j]?=some o:=by simpa using ax
 have aH:o∈ops.toList:=List.mem_of_getElem? ay
 have aG:j<ops.toList.length:=(List.getElem?_eq_some_iff.1 ay).1
 have aF:j<listed.size:=by simpa [bX] using aG
 have a0 : ¬ ∀ k,k<ops.size->listed.getD k false=true:=λe=>by
  grind
 have aR:u09 bx (J00 ad ⟨n,fr,Z,aj⟩ ops.toList)=u09 Z (J00 ad ⟨n,fr,Z,aj⟩ ops.toList):=by
  grind
 obtain⟨bG,bL⟩:=am.each j o aG ay
 refine⟨bG,?_⟩
 have br:∀ t,I3 L t≠none->∃(i:Nat) (l:Oper),ops.toList[i]?=some l/\l.dst=some t:=λt z=>by
  cases h0':I3 ad t with
  |none=>exact absurd ((O t).1 h0') z
  |some f=>obtain⟨i,l,_,s,R⟩:=am.key t f h0';exact⟨i,l,s,R⟩
 have frame:∀ t,(∀ aA∈ops.toList,aA.dst≠some t)->I2 ⟨n,fr,bx,ow⟩ be oe (Z2 fr t) (a.tmps.getD t undef):=λt z=>by
  have g:=Y.fr t
  change I2 _ be oe (Z2 (A4 ops.toList fr) t) _ at g
  rw[t01 z]at g
  exact I2.fr (st:=⟨n,A4 ops.toList fr,bx,ow⟩) (fr:=fr) g
 have aB:∀ t,Operand.tmp t∈o.op.operands->(∀ av,I3 L t=some (.pu av)->I2 ⟨n,fr,bx,ow⟩ be oe av (a.tmps.getD t undef))/\(I3 L t=none->I2 ⟨n,fr,bx,ow⟩ be oe (Z2 fr t) (a.tmps.getD t undef)):=λt z=>by
  refine⟨λav bb=>?_,λbQ=>frame t λaA bS I=>?_⟩
  ·obtain⟨i,l,m,s⟩:=br t (by rw[bb];simp)
   obtain⟨M,C,G⟩:=an i l t (by simpa using m) s (bd t z i l m s)
   rw[bb]at C;cases C
   exact G
  ·obtain⟨i,aW,e⟩:=List.getElem_of_mem bS
   have m:ops.toList[i]?=some aA:=by rw[List.getElem?_eq_getElem aW,e]
   obtain⟨M,C,_⟩:=an i aA t (by simpa using m) I (bd t z i aA m I)
   rw[bQ]at C;cases C
 have ac:∀ i,i≠j->∀ d,(listed.setIfInBounds j true).getD i d=listed.getD i d:=λi A d=>getD_set_ne d (Ne.symm A)
 have a1:∀ {B:List BSt} {D:List Own} {V:Hp} {be':Nat->Nat} {oe':Nat->Value} {T:Hp} {v:Value} {ak:World},Sim P h0 w0 be' oe' T ⟨n,A4 ops.toList fr,B,D⟩ V a ak->Sim P h0 w0 be' oe' T ⟨n,A4 ops.toList fr,B,D⟩ V (a.put o.dst v) ak:=by
  intro B D V be' oe' T v ak s1
  cases I:o.dst with
  |none=>exact s1
  |some d =>
   have u:=s1.put (d:=d) (av := .dead) (v:=v) (bg o aH d I) trivial
   refine u.refr (fr:=A4 ops.toList fr) λt=>?_
   have g:=u.fr t
   change I2 _ _ _ (Z2 ((d,.dead)::A4 ops.toList fr) t) _ at g
   rw[Z3]at g
   split at g
   ·rename_i e
    subst e
    rw[E02 aH I]
    trivial
   ·exact g
 have a2:∀(v:Value) (i:Nat) (l:Oper) (d:Nat),ops[i]?=some l->l.dst=some d->i≠j->(a.put o.dst v).tmps.getD d undef=a.tmps.getD d undef:=λv i l d m s A=>by
  cases I:o.dst with
  |none=>rfl
  |some a4 =>
   have ag:a4≠d:=λe=>by subst e;exact A (a6 i j l o a4 (by simpa using m) ay s I)
   simp[Act.put,Array.getElem?_setIfInBounds_ne ag]
 have a3:∀(v:Value) (d:Nat),o.dst=some d->(a.put o.dst v).tmps.getD d undef=v:=λv d I=>by
  have aG:d<a.tmps.size:=by rw[Y.siz];exact bg o aH d I
  rw[I]
  simp[Act.put,aG]
 have aS:∀(i:Nat) (l:Oper),ops[i]?=some l->(listed.setIfInBounds j true).getD i false=true->∀ e∈l.after,Region.binds .any e=true->(listed.setIfInBounds j true).getD e.on false=true:=λi l m s e aD aE=>by
  by_cases A:i=j
  ·subst A
   rw[ax]at m;cases m
   exact getD_set_true (bf e aD aE)
  ·rw[ac i A]at s
   exact getD_set_true (bc i l m s e aD aE)
 rcases bL with ar|⟨bi,av,bT|⟨bI,bM⟩,ba⟩
 ·
  have bK:(j,o)∈r:=by
   have ar:=bu ar
   rw[N]at ar
   rcases List.mem_append.1 ar with ah|ah
   ·have m:=ae _ ah
    simp[aF]at m au
    rw[m]at au;cases au
   ·exact ah
  obtain⟨K,rfl⟩:=bR dn r N ae aJ bK
  have af:=aV dn K L bx ow aa N ae af
  obtain⟨U,af,aL⟩:=c02 (acc:=[]) (st:=⟨n,fr,bx,ow⟩) (stX:=⟨n,fr,bx,ow⟩) (be:=be) (oe:=oe) (val:=λt=>a.tmps.getD t undef) (λt=>trivial) (λt z=>aB t (by simpa using z)) af
  have aY:Sim P h0 w0 be oe H ⟨n,U,bx,ow⟩ aa a w:=Y.refr (fr:=U) λt=>I2.fr (st:=⟨n,fr,bx,ow⟩) (fr:=A4 ops.toList fr) (aL t)
  refine Oper.wp_mono (λbs ak ah=>?_) (d00 aY af)
  obtain⟨M,⟨W,a5,B,D⟩,V,v,be',oe',T,al,rfl,s2,aM,J⟩:=ah
  obtain⟨aT,S,al⟩:=al
  rw[r03,B02,B02]at al
  have bP:W=n:=by
   have C:a.tmps.size=W:=s2.siz
   have G:a.tmps.size=n:=Y.siz
   omega
  subst bP
  have aN:a7 ⟨W,fr,bx,ow⟩ be oe ⟨W,fr,B,D⟩ be' oe':=⟨J.bl,J.be,J.sm⟩
  have aO:a7 ⟨W,A4 ops.toList fr,bx,ow⟩ be oe ⟨W,A4 ops.toList fr,B,D⟩ be' oe':=⟨J.bl,J.be,J.sm⟩
  have aZ:Sim P h0 w0 be' oe' T ⟨W,A4 ops.toList fr,B,D⟩ V a ak :=
   s2.refr (fr:=A4 ops.toList fr) λt=>I2.fr (st:=⟨W,A4 ops.toList fr,B,D⟩) (fr:=a5) ((Y.fr t).grow aO)
  have bY:∀ d,o.dst=some d->I3 (T07 o.dst (.pu M) L) d=some (.pu M):=λd I=>by
   rw[I];show I3 ((d,.pu M)::L) d=_;rw[L00,if_pos rfl]
  have bj:∀ t,o.dst≠some t->I3 (T07 o.dst (.pu M) L) t=I3 L t:=λt z=>by
   cases I:o.dst with
   |none=>rfl
   |some d =>
    show I3 ((d,.pu M)::L) t=_
    rw[L00,if_neg λe=>z (by rw[I,e])]
  have bo:j0e ops.size j o K=true->∀ k,k<ops.size->(listed.setIfInBounds j true).getD k false=true:=λab k al=>by
   have bz:Y04 ops.size j o=true:=by
    cases K with
    |nil=>exact ab
    |cons q b2=>cases ab
   by_cases hkj:k=j
   ·subst hkj;simp[aF]
   ·rw[ac k hkj]
    obtain⟨e,aD,aE,rfl⟩:=e06 bz k al hkj
    exact bf e aD aE
  refine⟨dn ++ [(j,o)],K,T07 o.dst (.pu M) L,B,D,V,be',oe',T,by rw[N];simp,λaw=>(by
   have b1:dn.length<c:=by simp only[List.length_append,List.length_singleton]at aw;omega
   obtain⟨C,G,ap⟩:=aq (by omega)
   obtain⟨aK,bC⟩:∃ aK,c-dn.length=aK+1:=⟨c-dn.length-1,by omega⟩
   rw[bC]at aT S
   refine⟨aT.1.trans C,λb o bA=>aT.2 b o (G b o bA),?_⟩
   cases ab:j0e ops.size j o K with
   |true=>exact .inr (bo ab)
   |false =>
    rw[ab]at S
    rcases ap with ap|ap
    ·exact .inl (S.trans ap)
    ·exact absurd ap a0),aS,λp u=>?_,λp u=>?_,?_,a1 aZ,al,λt=>?_,λi l d m s R=>?_⟩
  ·have ag:p.1≠j:=λe=>by
    have bh:=bv
    rw[N,List.map_append,List.nodup_append]at bh
    have s:=bh.2.1
    rw[List.map_cons,List.nodup_cons]at s
    exact s.1 (List.mem_map.2 ⟨p,u,e⟩)
   rw[ac _ ag]
   exact aJ p (mC _ u)
  ·rcases List.mem_append.1 u with u|u
   ·exact getD_set_true (ae p u)
   ·simp at u
    subst u
    simp[aF]
  ·cases ab:j0e ops.size j o K with
   |false =>
    rw[ab]at S
    left
    rw[←aR]
    cases hc:c-dn.length with
    |zero=>rw[hc]at S;exact S
    |succ aK =>
     rw[hc]at S
     have S:B=bx:=S
     rw[S]
   |true=>exact .inr (bo ab)
  ·by_cases z:o.dst=some t
   ·obtain⟨_,_,aC⟩:=am.eff (j,o) ar
    obtain⟨F,aC⟩:=aC t z
    exact⟨λe=>(by rw[aC]at e;cases e),λav e=>(by rw[aC]at e;cases e)⟩
   ·rw[bj t z]
    exact O t
  ·by_cases A:i=j
   ·subst A
    rw[ax]at m;cases m
    exact⟨M,bY d s,by rw[a3 v d s];exact I2.fr (st:=⟨W,a5,B,D⟩) (fr:=fr) aM⟩
   ·rw[ac _ A]at R
    obtain⟨ao,C,G⟩:=an i l d m s R
    have bD:o.dst≠some d:=λe=>A (a6 i j l o d (by simpa using m) ay s e)
    exact⟨ao,by rw[bj d bD];exact C,by rw[a2 v i l d m s A];exact G.grow aN⟩
 ·
  have bq:∀ {av:AV} {x:Value},I2 ⟨n,fr,bx,ow⟩ be oe av x->I2 ⟨n,A4 ops.toList fr,bx,ow⟩ be oe av x:=λg=>I2.fr (st:=⟨n,fr,bx,ow⟩) (fr:=A4 ops.toList fr) g
  obtain⟨v,bW,bt⟩:=I0n (st:=⟨n,fr,Z,aj⟩) (stX:=⟨n,A4 ops.toList fr,bx,ow⟩) Y (λb3 x i off C G=>y0g aR (w0e C G aH)) bT (λt z=>⟨λav e=>bq ((aB t z).1 av ((O t).2 av e)),λe=>bq ((aB t z).2 ((O t).1 e))⟩)
  refine t8 bW ?_
  refine⟨dn,r,L,bx,ow,aa,be,oe,H,N,(λaw=>⟨(aq aw).1,(aq aw).2.1,.inl ((aq aw).2.2.resolve_right a0)⟩),aS,λp u=>?_,λp u=>getD_set_true (ae p u),.inl aR,a1 Y,af,O,λi l d m s R=>?_⟩
  ·have ag:p.1≠j:=bi p (aQ _ (by rw[N];exact List.mem_append_right _ u))
   rw[ac _ ag]
   exact aJ p u
  ·by_cases A:i=j
   ·subst A
    rw[ax]at m;cases m
    exact⟨av,(O d).2 av (ba d s),by rw[a3 v d s];exact I2.fr (st:=⟨n,A4 ops.toList fr,bx,ow⟩) (fr:=fr) bt⟩
   ·rw[ac _ A]at R
    obtain⟨ao,C,G⟩:=an i l d m s R
    exact⟨ao,C,by rw[a2 v i l d m s A];exact G⟩
 ·
  have bE:dn.length<=c:=by
   rcases Nat.lt_or_ge c dn.length with bN|bH
   ·exfalso
    obtain⟨⟨ai,q⟩,bk⟩:∃ bZ,dn[c]?=some bZ:=⟨_,List.getElem?_eq_getElem bN⟩
    have bm:(ai,q)∈dn:=List.mem_of_getElem? bk
    have bF:∃ t,F.drop c=(ai,q)::t:=by
     obtain⟨bO,G⟩:=List.getElem?_eq_some_iff.1 bk
     refine⟨(dn++r).drop (c+1),?_⟩
     rw[N,List.drop_eq_getElem_cons (by simp;omega),List.getElem_append_left bO,G]
    have bJ:listed.getD j false=false:=by simp[aF]at au ⊢;exact au
    have bU:listed.getD ai false=true:=ae (ai,q) bm
    have bV:ops[ai]?=some q:=by
     have:=(am.eff (ai,q) (aQ _ (by rw[N];exact List.mem_append_left _ bm))).2.1
     simpa using this
    obtain⟨t,z⟩:=bF
    rw[z]at aU
    simp only[g0e,List.all_eq_true]at aU
    have:=M0a (X:=X++E) bc (λy az=>by
     rcases List.mem_append.1 az with az|az
     ·have aP:=(am.xx y az).2;simpa using aP
     ·have aP:=(am.eff y az).2.1;simpa using aP) 8 j ai q bV bU (aU (j,o) bI)
    rw[bJ]at this;cases this
   ·exact bH
  obtain⟨rfl,bn,bB⟩:=aq bE
  obtain rfl:=bB.resolve_right a0
  obtain⟨U,aV,aL⟩:=c02 (acc:=[]) (st:=⟨n,fr,bx,ow⟩) (stX:=⟨n,fr,bx,ow⟩) (be:=be) (oe:=oe) (val:=λt=>a.tmps.getD t undef) (λt=>trivial)
   (λt z=>⟨λav e=>(aB t (by simpa using z)).1 av ((O t).2 av e),λe=>(aB t (by simpa using z)).2 ((O t).1 e)⟩) (bM aa bn)
  have aY:Sim P h0 w0 be oe H ⟨n,U,bx,ow⟩ aa a w:=Y.refr (fr:=U) λt=>I2.fr (st:=⟨n,fr,bx,ow⟩) (fr:=A4 ops.toList fr) (aL t)
  refine Oper.wp_mono (λbs ak ah=>?_) (d00 aY aV)
  obtain⟨M,st',V,v,be',oe',T,⟨rfl,rfl,rfl⟩,rfl,s2,aM,J⟩:=ah
  have aN:a7 ⟨n,fr,bx,ow⟩ be oe ⟨n,fr,bx,ow⟩ be' oe':=⟨J.bl,J.be,J.sm⟩
  have aO:a7 ⟨n,A4 ops.toList fr,bx,ow⟩ be oe ⟨n,A4 ops.toList fr,bx,ow⟩ be' oe':=⟨J.bl,J.be,J.sm⟩
  have aZ:Sim P h0 w0 be' oe' T ⟨n,A4 ops.toList fr,bx,ow⟩ V a ak :=
   s2.refr (fr:=A4 ops.toList fr) λt=>I2.fr (st:=⟨n,A4 ops.toList fr,bx,ow⟩) (fr:=U) ((Y.fr t).grow aO)
  refine⟨dn,r,L,bx,ow,V,be',oe',T,N,λ_=>⟨rfl,bn,.inl rfl⟩,aS,λp u=>?_,λp u=>getD_set_true (ae p u),.inl rfl,a1 aZ,af,O,λi l d m s R=>?_⟩
  ·have ag:p.1≠j:=bi p (aQ _ (by rw[N];exact List.mem_append_right _ u))
   rw[ac _ ag]
   exact aJ p u
  ·by_cases A:i=j
   ·subst A
    rw[ax]at m;cases m
    exact⟨M,(O d).2 M (ba d s),by rw[a3 v d s];exact I2.fr (st:=⟨n,U,bx,ow⟩) (fr:=fr) aM⟩
   ·rw[ac _ A]at R
    obtain⟨ao,C,G⟩:=an i l d m s R
    exact⟨ao,C,by rw[a2 v i l d m s A];exact G.grow aN⟩
theorem w0s{ops:Array Oper}{n:Nat}{fr:List (Nat×AV)}{k:List BSt}{m:List Own}{l:Hp}{c:Nat}{X E:List (Nat×Oper)}{g:List (Nat×R6)}{K:St->Hp->Prop}{Q:Exit->Act->World->Prop}{listed:Array Bool}{j:Nat}{o:Oper}
  (v:∀(i j:Nat) (b s:Oper) (d:Nat),ops.toList[i]?=some b->ops.toList[j]?=some s->b.dst=some d->s.dst=some d->i=j)
  (G:∀ o∈ops.toList,∀ d,o.dst=some d->d<n) (u:I05 P ⟨n,fr,k,m⟩ l ops.toList ops.toList.length g X E) (y:X04 E=true) (B:g0e X (X++E) (E.drop c)=true)
  (D:listed.getD j true=false) (H:ops[j]?=some o) (J:listed.size=ops.size)
  (z:∀ t,Operand.tmp t∈o.op.operands->∀(i:Nat) (b:Oper),ops.toList[i]?=some b->b.dst=some t->listed.getD i false=true)
  (q:∀ e∈o.after,Region.binds .any e=true->listed.getD e.on false=true)
  (C:J0n P h0 w0 ops n fr k m l c E g K listed a w):o.guard=none/\o.wp P a w (J0n P h0 w0 ops n fr k m l c E g K (listed.setIfInBounds j true)) Q:=by
 refine x0m v G u (λx M=>M) id u.nd (λdn r f A I F=>?_) (λdn N L bx ow h f A p=>?_) B D H J z q C
 ·exact V0b q (λdn r f=>H03 dn r (by rw[←f];exact y)) f I F
 ·simp only[evC]at p
  have e:c-(dn ++ [(j,o)]).length=c-dn.length-1:=by simp;omega
  simp only[e]
  exact p
theorem y0e:∀ {k:Nat} {E:List (Nat×Oper)} {f:Nat×Oper} {a:List (Nat×Oper)},r0g k E=some (f,a)->∃ A B,E=A++f::B/\a=A++B
 |_,[],f,a,h=>by simp[r0g]at h
 |0,x::r,f,a,h=>by
  simp only[r0g,Option.some.injEq,Prod.mk.injEq]at h
  obtain⟨rfl,rfl⟩:=h
  exact⟨[],r,rfl,rfl⟩
 |k+1,x::r,f,a,h=>by
  simp only[r0g]at h
  split at h
  ·rename_i c d b
   simp only[Option.some.injEq,Prod.mk.injEq]at h
   obtain⟨rfl,rfl⟩:=h
   obtain⟨A,B,rfl,rfl⟩:=y0e b
   grind
  ·cases h
theorem z0g{f:Nat×Oper}:∀ {p:Nat} {E:List (Nat×Oper)},A0n f p E=true->∃ q,E[p]?=some q/\c00 f.1 q.2=true
 |_,[],h=>by simp[A0n]at h
 |0,(i,q)::r,h=>⟨(i,q),rfl,by simpa [A0n] using h⟩
 |p+1,x::r,h=>by
  obtain⟨q,a,b⟩:=z0g (E:=r) (p:=p) (by simpa [A0n] using h)
  grind
theorem W0o:∀ {X:List (Nat×Oper)},noX X=true->X = []
 | [],_=>rfl
 |_::_,h=>by simp[noX]at h
theorem W0b{Y:List (Nat×Oper)}:∀(E:List (Nat×Oper)),g0e [] Y E=true
 | []=>rfl
 |_::_=>rfl
theorem y0m{l:Array Bool}{j:Nat}(h:l.getD j true=false):l.getD j false=false:=by
 grind
theorem X0b{listed:Array Bool}:∀ {A B dn r:List (Nat×Oper)},A++B=dn++r->(∀ p∈A,listed.getD p.1 false=true)->(∀ p∈r,listed.getD p.1 true=false)->∃ C,dn=A++C/\B=C++r
 | [],B,dn,r,h,_,_=>⟨dn,rfl,by simpa using h⟩
 |x::A,B,[],r,h,a,b=>by
  grind
 |x::A,B,y::dn,r,h,a,b=>by
  simp only[List.cons_append,List.cons.injEq]at h
  obtain⟨rfl,h⟩:=h
  obtain⟨C,d,e⟩:=X0b h (λp c=>a p (mC _ c)) b
  grind
theorem m0j{rd:List Nat}{N c:Nat}{L:List (Nat×R6)}{K:St->Hp->Prop}{dn d:List (Nat×Oper)}{j:Nat}{o:Oper}{n:Nat}{fr:List (Nat×AV)}{bx:List BSt}{ow:List Own}{h:Hp}
  (i:evC rd N P (c-dn.length) ((j,o)::d) L ⟨n,fr,bx,ow⟩ h K):B05 L fr o.op.operands.toList [] λg=>Z8 P o ⟨n,g,bx,ow⟩ h λav st' f=>match st' with
   |⟨_,_,a,b⟩=>N0h (c-dn.length) ow b h f/\n0m (c-dn.length) (j0e N j o d) rd bx a/\Y01 av λav=>P9 a λa=>P9 b λb=>evC rd N P (c-(dn ++ [(j,o)]).length) d (T07 o.dst (.pu av) L) ⟨n,fr,a,b⟩ f K:=by
 simp only[evC]at i
 have e:c-(dn ++ [(j,o)]).length=c-dn.length-1:=by simp;omega
 simp_all
theorem X0o{f:Nat×Oper}{rd:List Nat}{N:Nat}{K:St->Hp->Prop}{h:Hp}{st:St}{L:List (Nat×R6)}:∀ {p:Nat} {E:List (Nat×Oper)},o0q f rd N P p E L st h K->evC rd N P 0 (f::E) L st h K
 |0,_,h=>h
 |_+1,_,h=>h.1
theorem x0s{ops:Array Oper}{n:Nat}{fr:List (Nat×AV)}{bx:List BSt}{ow:List Own}{q:Hp}{c:Nat}{X E F:List (Nat×Oper)}{d:List (Nat×R6)}{K:St->Hp->Prop}{R:Act->World->Prop}{listed:Array Bool}
  (v:I05 P ⟨n,fr,bx,ow⟩ q ops.toList ops.toList.length d X E) (C:∀ x∈F,x∈E)
  (D:∀ a w st h be oe H,K st h->Sim P h0 w0 be oe H st h a w->R a w) (I:∀ j,j<ops.size->listed.getD j false=true)
  (G:J0n P h0 w0 ops n fr bx ow q c F d K listed a w):R a w:=by
  obtain⟨dn,r,L,bx,O,A,be,oe,H,B,_,_,J,U,_,u,o,Q,y⟩:=G
  have M:r = []:=by
   cases r with
   |nil=>rfl
   |cons p Z =>
    have e:=J p mS
    have k:=(v.eff p (C _ (by rw[B];simp))).1
    grind
  subst M
  simp only[evC,B02]at o
  refine D a w _ A be oe H o (u.refr (fr:=c0l L fr) λt=>?_)
  rw[U0b]
  have N:∀ t,I3 L t≠none->∃(i:Nat) (b:Oper),ops[i]?=some b/\b.dst=some t/\i<ops.size:=λt Y=>by
   cases h0':I3 d t with
   |none=>grind
   |some f =>
    obtain⟨i,b,e,k,m⟩:=v.key t f h0'
    grind
  cases hL:I3 L t with
  |none =>
   have V:∀ s∈ops.toList,s.dst≠some t:=λs W T=>by
    grind[List.getElem_of_mem]
   have g:=u.fr t
   grind[I2,Z2,A4,t01]
  |some f =>
   cases f with
   |ef F=>trivial
   |pu av =>
    obtain⟨i,b,e,k,m⟩:=N t (by rw[hL];simp)
    obtain⟨S,l,z⟩:=y i b t e k (I i m)
    rw[hL]at l;cases l
    exact I2.fr (st:=⟨n,fr,bx,O⟩) (fr:=A4 ops.toList fr) z
theorem n0j{ops:Array Oper}{st:St}{K:St->Hp->Prop}{Q:Exit->Act->World->Prop}{R:Act->World->Prop}(aK:Sim P h0 w0 be oe H st h a w)(ae:e03 st.n ops.toList=true)
  (M:b04 P st h ops.toList 0 [] [] [] λL X E=>evD (J00 L st ops.toList) ops.size P X E L st h K)
  (ay:∀ a w st h be oe H,K st h->Sim P h0 w0 be oe H st h a w->R a w) :
  ∃ Inv:Array Bool->Act->World->Prop,(∀(k:Nat) (o:Oper),ops.toList[k]?=some o->∀ e∈o.after,Region.binds .any e=true->e.on<k) /\
   (∀ listed a w j o,listed.size=ops.size->listed.getD j true=false->ops[j]?=some o->(∀ e∈o.after,Region.binds .any e=true->listed.getD e.on false=true)->Inv listed a w->o.guard=none/\o.wp P a w (Inv (listed.setIfInBounds j true)) Q) /\
   (∀ listed a w,(∀ j,j<ops.size->listed.getD j false=true)->Inv listed a w->R a w)/\Inv (Array.replicate ops.size false) a w:=by
 simp only[e03,Bool.and_eq_true]at ae
 obtain⟨⟨aN,aO⟩,aP⟩:=ae
 obtain⟨aj,W⟩:=i05 aN
 have ax:∀(k:Nat) (o:Oper),ops.toList[k]?=some o->∀ e∈o.after,Region.binds .any e=true->e.on<k:=λk o al e aX ae=>by
  have:=d04 aO k o al e aX ae
  omega
 have bn:=Z06 aP
 obtain⟨J,X,E,O,I⟩:=J05 (ops:=ops.toList) W (λj o t i ab D u v bm=>by
  grind) ops.toList 0 [] [] [] (λj=>by simp) ⟨λt f h=>(by cases h),λi ab d y=>by omega,λj o bp=>by omega,λp G=>(by cases G),by simp,λp G=>(by cases G)⟩ M
 obtain⟨n,fr,bx,ow⟩:=st
 have ad:∀(listed:Array Bool) (j:Nat) (o:Oper),ops[j]?=some o->(∀ e∈o.after,Region.binds .any e=true->listed.getD e.on false=true)->∀ t,Operand.tmp t∈o.op.operands->∀(i:Nat) (ab:Oper),ops.toList[i]?=some ab->ab.dst=some t->listed.getD i false=true:=λlisted j o u v t bs i ab bo aH=>by
  grind
 have init:∀(c:Nat) (F:List (Nat×Oper)) (EV:List (Nat×Oper)->List (Nat×Oper)->List (Nat×R6)->St->Hp->Prop),(∀ x∈F,x∈E)->EV [] F J ⟨n,fr,bx,ow⟩ h->V0o P h0 w0 ops n fr bx ow h c F J EV (Array.replicate ops.size false) a w:=λc F EV aU Y=>by
  refine⟨[],F,J,bx,ow,h,be,oe,H,rfl,λ_=>⟨rfl,λ_ _ h=>h,.inl rfl⟩,λj o D u=>by(simp[Array.getElem?_replicate]at u;split at u<;>cases u),λp G=>?_,λp G=>(by cases G),.inl rfl,aK.refr (fr:=A4 ops.toList fr) λt=>?_,Y,λt=>⟨id,λav=>id⟩,λj o d D u v=>?_⟩
  ·have:=(I.eff p (aU p G)).1
   have u:p.1<ops.size:=by simpa using this
   simp[u]
  ·by_cases b:∃ o∈ops.toList,o.dst=some t
   ·obtain⟨o,D,u⟩:=b
    rw[E02 D u]
    trivial
   ·rw[t01 λo a3 O=>b ⟨o,a3,O⟩]
    exact aK.fr t
  ·simp[Array.getElem?_replicate]at v
   split at v<;>cases v
 rcases O with⟨c,⟨af,aY⟩,Y⟩|⟨k,p,O⟩
 ·refine⟨J0n P h0 w0 ops n fr bx ow h c E J K,ax,(λlisted a w j o Z D u v y=>w0s W aj I af aY D u Z (ad listed j o u v) v y),(λlisted a w ai y=>x0s I (λx b=>b) ay ai y),init c E _ (λx b=>b) Y⟩
 ·split at O
  ·rename_i f bk al
   obtain⟨⟨aV,af,a0⟩,Y⟩:=O
   obtain rfl:=W0o aV
   obtain⟨A,B,rfl,rfl⟩:=y0e al
   obtain⟨q,T,a5⟩:=z0g a0
   have aZ:f∈A++f::B:=by simp
   have aD:=I.eff f aZ
   have ak:ops[f.1]?=some f.2:=by simpa using aD.2.1
   have aG:f.1<ops.size:=by simpa using aD.1
   have an:∀ x∈A++B,x∈A++f::B:=λx b=>by
    grind
   have ba:((A++B).map λp=>p.1).Nodup:=by
    have:=I.nd
    grind
   have perm:∀ l s,A++B=l++s->((l++f::s).map λp=>p.1).Nodup:=λl s e=>by
    have D:(A++f::B).Perm (l++f::s):=List.perm_middle.trans ((List.Perm.cons f (by rw[e])).trans List.perm_middle.symm)
    exact(D.map _).nodup I.nd
   have aa:∀ l s,A++B=l++s->∀ x,x∈l++f::s↔x∈A++f::B:=λl s e x=>by
    have D:x∈A++B↔x∈l++s:=by rw[e]
    simp only[List.mem_append,List.mem_cons]at D ⊢
    constructor
    all_goals grind
   let rd:=J00 J ⟨n,fr,bx,ow⟩ ops.toList
   let ac:List (Nat×Oper)->List (Nat×Oper)->List (Nat×R6)->St->Hp->Prop:=λdn r L st h=>o0q f rd ops.size P (p-dn.length) r L st h K
   refine⟨λlisted a w=>(listed.getD f.1 true=false/\V0o P h0 w0 ops n fr bx ow h 0 (A++B) J ac listed a w) ∨
    (listed.getD f.1 false=true/\∃ l s,A++B=l++s/\(∀ p∈l,listed.getD p.1 false=true)/\J0n P h0 w0 ops n fr bx ow h 0 (l++f::s) J K listed a w),ax,(λlisted a w j o Z D u v y=>?_),(λlisted a w ai y=>?_),.inl ⟨by simp[aG],init 0 (A++B) ac an Y⟩⟩
   ·have a2:j<listed.size:=by grind
    have am:∀ {x:Nat},listed.getD x false=true->(listed.setIfInBounds j true).getD x false=true:=λh=>getD_set_true h
    rcases y with⟨hf,y⟩|⟨hf,l,s,m,az,y⟩
    ·have aE:=y0m hf
     by_cases ah:j=f.1
     ·
      subst ah
      rw[ak]at u;cases u
      obtain⟨dn,r,L,aQ,bb,aT,be',oe',aM,m,bd,ap,bu,aq,bf,bg,bh,bi,bj⟩:=y
      have aH:J0n P h0 w0 ops n fr bx ow h 0 (dn++f::r) J K listed a w :=
       ⟨dn,f::r,L,aQ,bb,aT,be',oe',aM,rfl,bd,ap,λp G=>by
        grind,aq,bf,bg,by show evC _ _ _ (0-dn.length) _ _ _ _ _;rw[Nat.zero_sub];exact X0o bh,bi,bj⟩
      have:=x0m (F:=dn++f::r) (j:=f.1) (o:=f.2) (Q:=Q) W aj I (λx b=>(aa dn r m x).1 b) (λb=>(aa dn r m _).2 b) (perm dn r m) (λaR U e au N aw=>by
       obtain⟨C,S,V⟩:=X0b (listed:=listed) e aq N
       cases C with
       |nil=>exact⟨r,by simpa using V.symm⟩
       |cons z C =>
        exfalso
        simp only[List.cons_append,List.cons.injEq]at V
        have:=au f (by rw[S,V.1];simp)
        rw[aE]at this;cases this) (λdn U L bx ow h m ag M=>m0j M) (W0b _) D ak Z (ad listed f.1 f.2 ak v) v aH
      exact⟨this.1,Oper.wp_mono (λar aL b => .inr ⟨by simp[a2],dn,r,m,λp G=>am (aq p G),b⟩) this.2⟩
     ·have bq:(j,o)≠f:=λe=>ah (by rw[←e])
      have aW:∀(j:Nat) (o:Oper),ops[j]?=some o->listed.getD j false=true->∀ e∈o.after,Region.binds .any e=true->listed.getD e.on false=true:=by
       obtain⟨_,_,_,_,_,_,_,_,_,_,_,ap,_⟩:=y
       exact ap
      have:=x0m (F:=A++B) (Q:=Q) (EV:=ac) W aj I an (λb=>by
       grind) ba (λdn r m ag a6 a1=>V0b v (λdn r m=>H03 dn r (by rw[←m];exact af)) m a6 a1) (λdn U L bl bt h m ag M=>by
       have br:dn.length<p:=by
        rcases Nat.lt_or_ge dn.length p with g|g
        ·exact g
        ·exfalso
         have aF:listed.getD f.1 false=true:=by
          rw[m]at T
          obtain⟨e,aA,aB,aC⟩:=H8 a5
          rcases Nat.lt_or_ge p dn.length with N|N
          ·rw[List.getElem?_append_left N]at T
           have aJ:q∈dn:=List.mem_of_getElem? T
           have:=(I.eff q (an q (by rw[m];exact List.mem_append_left _ aJ))).2.1
           have:=aW q.1 q.2 (by simpa using this) (ag q aJ) e aA aB
           rwa [aC]at this
          ·have S:p=dn.length:=by omega
           rw[S,List.getElem?_append_right (Nat.le_refl _)]at T
           simp at T
           subst T
           have:=v e aA aB
           rwa [aC]at this
         rw[aE]at aF;cases aF
       obtain⟨ao,a4⟩:∃ ao,p-dn.length=ao+1:=⟨p-dn.length-1,by omega⟩
       have S:p-(dn ++ [(j,o)]).length=ao:=by simp;omega
       simp only[ac,a4,S,Nat.zero_sub]at M ⊢
       exact M.2) (W0b _) D u Z (ad listed j o u v) v y
      exact⟨this.1,Oper.wp_mono (λar aL b => .inl ⟨by rw[getD_set_ne true ah];exact hf,b⟩) this.2⟩
    ·have ah:j≠f.1:=λe=>by
      grind
     have:=x0m (F:=l++f::s) (Q:=Q) W aj I (λx b=>(aa l s m x).1 b) (λb=>(aa l s m _).2 b) (perm l s m) (λaR U e au N aw=>by
      obtain⟨C,S,V⟩:=X0b (listed:=listed) (A:=l ++ [f]) (B:=s) (by simpa using e) (λp G=>by
       grind) N
      exact V0b (E:=U) (dn:=[]) v (λdn bc aS=>H03 dn bc (by rw[←aS];exact H03 (l++C) U (by rw[List.append_assoc,←V,←m];exact af))) rfl N aw) (λdn U L bx ow h m ag M=>m0j M) (W0b _) D u Z (ad listed j o u v) v y
     exact⟨this.1,Oper.wp_mono (λar aL b => .inr ⟨am hf,l,s,m,λp G=>am (az p G),b⟩) this.2⟩
   ·rcases y with⟨hf,y⟩|⟨hf,l,s,m,az,y⟩
    ·have:=ai f.1 aG
     rw[y0m hf]at this;cases this
    ·exact x0s I (λx b=>(aa l s m x).1 b) ay ai y
  ·exact O.elim
theorem K0n{ops:Array Oper}{st:St}{K:St->Hp->Prop}{Q:Exit->Act->World->Prop}(j:Sim P h0 w0 be oe H st h a w)(g:e03 st.n ops.toList=true)
  (i:b04 P st h ops.toList 0 [] [] [] λL X E=>evD (J00 L st ops.toList) ops.size P X E L st h K)
  (f:∀ a w st h be oe H,K st h->Sim P h0 w0 be oe H st h a w->Q .normal a w):wpAny P .any ops Q ops.size (Array.replicate ops.size false) a w:=by
 obtain⟨Inv,b,c,d,e⟩:=n0j (Q:=Q) (R:=λa w=>Q .normal a w) j g i f
 exact S0r (Inv:=Inv) b c d ops.size _ a w (by simp) (by simp[List.count_replicate]) e
theorem N0a{L l:Array Bool}{x:Bool}(h:L.toList=l.toList ++ [x]){j:Nat}(a:j<l.size)(b:Bool):L.getD j b=l.getD j b:=by
 rw[Array.getD_eq_getD_getElem?,Array.getD_eq_getD_getElem?,←Array.getElem?_toList,←Array.getElem?_toList,h,List.getElem?_append_left (by simpa using a)]
theorem L0n{L l:Array Bool}{x:Bool}(h:L.toList=l.toList ++ [x])(b:Bool):L.getD l.size b=x:=by
 rw[Array.getD_eq_getD_getElem?,←Array.getElem?_toList,h,List.getElem?_append_right (by simp)];simp
theorem y0s{ops ops0:Array Oper}{o:Oper}{Q:Exit->Act->World->Prop}{Inv:Array Bool->Act->World->Prop}{a:Act}{w:World}(t:ops.toList=ops0.toList ++ [o])
  (q:∀(k:Nat) (o:Oper),ops.toList[k]?=some o->∀ e∈o.after,Region.binds .any e=true->e.on<k)
  (B:o.guard=none) (G:∀ k,k<ops0.size->∃ e∈o.after,Region.binds .any e=true/\e.on=k)
  (I:∀ listed a w j o,listed.size=ops0.size->listed.getD j true=false->ops0[j]?=some o->(∀ e∈o.after,Region.binds .any e=true->listed.getD e.on false=true)->Inv listed a w->o.guard=none/\o.wp P a w (Inv (listed.setIfInBounds j true)) Q)
  (A:∀ listed a w,(∀ j,j<ops0.size->listed.getD j false=true)->Inv listed a w->o.wp P a w (λa w=>Q .normal a w) Q)
  (h0:Inv (Array.replicate ops0.size false) a w):wpAny P .any ops Q ops.size (Array.replicate ops.size false) a w:=by
 have M:ops.size=ops0.size+1:=by
  have:=congrArg List.length t
  simpa using this
 refine S0r (Inv:=λL a w=>(∃ l:Array Bool,l.size=ops0.size/\L.toList=l.toList ++ [false]/\Inv l a w)∨((∀ j,j<ops.size->L.getD j false=true)/\Q .normal a w)) q (λL a w j m J y b p d=>?_) (λL a w f d=>?_) ops.size _ a w (by simp) (by simp[List.count_replicate]) (.inl ⟨_,by simp,by grind,h0⟩)
 ·rcases d with⟨l,g,c,d⟩|⟨f,_⟩
  ·have E:j<ops.size:=(Array.getElem?_eq_some_iff.1 b).1
   by_cases hj:j<ops0.size
   ·have z:ops0[j]?=some m:=by
     rw[←Array.getElem?_toList]at b ⊢
     grind
    obtain⟨v,x⟩:=I l a w j m g (by rw[←N0a c (by omega)];exact y) z (λe i h=>by
     have:=q j m (by rw[Array.getElem?_toList];exact b) e i h
     rw[←N0a c (by omega)];exact p e i h) d
    refine⟨v,Oper.wp_mono (λu K C => .inl ⟨_,by simpa using g,?_,C⟩) x⟩
    rw[Array.toList_setIfInBounds,c,List.set_append_left _ _ (by simpa [g] using hj),Array.toList_setIfInBounds]
   ·have D:j=ops0.size:=by omega
    have H:m=o:=by
     rw[←Array.getElem?_toList,t,List.getElem?_append_right (by simp;omega)]at b
     rw[D]at b;simp at b;exact b.symm
    subst H
    have f:∀ k,k<ops0.size->l.getD k false=true:=λk s=>by
     obtain⟨e,i,h,rfl⟩:=G k s
     rw[←N0a c (by omega)];exact p e i h
    refine⟨B,Oper.wp_mono (λu K n => .inr ⟨λk s=>?_,n⟩) (A l a w f d)⟩
    by_cases hkj:k=j
    ·rw[hkj];simp[Array.getD_eq_getD_getElem?,J,E]
    ·have F:k<ops0.size:=by omega
     have:=f k F
     rw[←N0a c (by omega)]at this
     rw[Array.getD_eq_getD_getElem?,Array.getElem?_setIfInBounds_ne (by omega),←Array.getD_eq_getD_getElem?];exact this
  grind
 ·rcases d with⟨l,g,c,d⟩|⟨_,n⟩
  ·have:=f ops0.size (by omega)
   rw[←g,L0n c]at this;cases this
  ·exact n
theorem Y0c{o:Oper}:∀(ops:List Oper),i0e ops=some o->ops=n01 ops ++ [o]
 | [],h=>by simp[i0e]at h
 | [x],h=>by grind[i0e,Option.some.injEq,n01]
 |x::y::r,h=>by
  simp only[i0e]at h
  have:=Y0c (y::r) (by simp only[i0e];exact h)
  rw[show n01 (x::y::r)=x::n01 (y::r) by simp only[n01],List.cons_append,←this]
theorem M0n{ops:List Oper}{o:Oper}(h:G0o ops=some o):ops=n01 ops ++ [o]/\o.guard=none/\Y04 (n01 ops).length (n01 ops).length o=true:=by
 unfold G0o at h
 split at h
 ·rename_i f e
  split at h
  ·rename_i d c b
   split at h
   ·rename_i a
    cases h
    simp only[Bool.and_eq_true]at a
    grind[Y0c]
   ·cases h
  ·cases h
 ·cases h
end
end Go.H
namespace Go.H
set_option linter.unusedVariables false
set_option linter.unusedSimpArgs false
theorem O04:∀ {L:FL} {t:Nat} {x:List (Nat×Bool)×R6},U03 L t=some x->(t,x)∈L
 | [],t,x,h=>by cases h
 |(d,y)::r,t,x,h=>by
  simp only[U03]at h
  split at h
  ·simp_all
  ·exact mC _ (O04 h)
theorem T09:∀ {L:FL} {t:Nat} {x:List (Nat×Bool)×R6},(t,x)∈L->∃ y,U03 L t=some y
 |(d,y)::r,t,x,h=>by
  simp only[U03]
  split
  ·exact⟨_,rfl⟩
  ·rename_i a
   rcases List.mem_cons.1 h with e|h
   ·simp_all
   ·exact T09 h
theorem N0n{bs:List BE}{x:BE}(e:∀ y∈bs,y.j≠x.j){j:Nat}{b:BE}(h:q03 bs j=some b):q03 (x::bs) j=some b:=by
 simp only[q03]
 split
 ·rename_i d
  obtain⟨a,c⟩:=c04 h
  simp_all
 ·exact h
abbrev Asg:=Nat->List (Nat×Bool)×Bool×R6
structure j0g (ops:List Oper) (A:Asg) (L:FL) (bs:List BE) (k:Nat):Prop where
 p1:∀ t x,(t,x)∈L->∃ i oi,i<k/\ops[i]?=some oi/\oi.dst=some t/\(A i).1=x.1/\(A i).2.2=x.2
 p2:∀ i oi d,i<k->ops[i]?=some oi->oi.dst=some d->∃ x,U03 L d=some x
 p3:∀ i,i<k->i<ops.length->cB bs (A i).1=some (A i).2.1
 p4:∀ x∈bs,x.j<k/\(∃ o,ops[x.j]?=some o/\o.dst=some x.d)/\(A x.j).1=x.ch/\(A x.j).2.2 = .pu (.val (.bool x.e))
structure n09 (bs bs':List BE):Prop where
 c:∀ ch c,cB bs ch=some c->cB bs' ch=some c
 e:∀ j b,q03 bs j=some b->q03 bs' j=some b
theorem n09.refl(bs:List BE):n09 bs bs:=⟨λ_ _ h=>h,λ_ _ h=>h⟩
theorem n09.trans{a b c:List BE}(d:n09 a b)(f:n09 b c):n09 a c:=⟨λch x h=>f.c ch x (d.c ch x h),λj b h=>f.e j b (d.e j b h)⟩
def OpU(P:Program)(st:St)(h:Hp)(L:FL)(bs:List BE)(o:Oper)(ch:List (Nat×Bool))(c:Bool):R6->Prop
 | .pu av=>v09 P L bs ch o st=some av∨∀ a,Sub h a->imp ch c (u07 L st a ch o.op.operands.toList [] λfr=>Z8 P o { st with fr:=fr } a (m0m av { st with fr:=fr } a))
 | .ef F=>(∀ v b d,Sub b d->F v b->F v d)/\∀ a,Sub h a->imp ch c (u07 L st a ch o.op.operands.toList [] λfr=>W0i P o { st with fr:=fr } a (H0o { st with fr:=fr } a F))
theorem Y0o{d:Option Tmp}{ch:List (Nat×Bool)}{f:R6}{L:FL}{p:Nat×List (Nat×Bool)×R6}(h:p∈O0h d ch f L):(∃ s,d=some s/\p=(s,ch,f))∨p∈L:=by
 cases d with
 |none=>exact .inr h
 |some s =>
  rcases List.mem_cons.1 h with h|h
  all_goals grind
theorem Z0o{i:Nat}{d:Option Tmp}{ch:List (Nat×Bool)}{av:AV}{bs:List BE}{x:BE}(h:x∈P0h i d ch av bs):(∃ s e,d=some s/\av = .val (.bool e)/\x=⟨i,s,e,ch⟩)∨x∈bs:=by
 unfold P0h at h
 grind
theorem a0p{i:Nat}{d:Option Tmp}{ch:List (Nat×Bool)}{av:AV}{bs:List BE}(f:∀ y∈bs,y.j<i):n09 bs (P0h i d ch av bs):=by
 unfold P0h
 split
 ·split
  ·refine⟨λe c h=>k0l (λy a=>?_) h,λj b h=>N0n (λy a=>?_) h⟩<;>(grind)
  ·exact n09.refl _
 ·exact n09.refl _
theorem y0q(P:Program)(i:Nat)(L:FL)(bs:List BE)(st:St)(h:Hp)(K:St->Hp->Prop):evU P [] i L bs st h K=∀ a,Sub h a->e0g a L st.fr λfr=>K { st with fr:=fr } a:=by
 obtain⟨n,fr,bx,ow⟩:=st;rfl
theorem b0p(P:Program)(o:Oper)(l:List Oper)(i:Nat)(L:FL)(bs:List BE)(st:St)(h:Hp)(K:St->Hp->Prop)(b:evU P (o::l) i L bs st h K):
    ∃ ch c f,o00 bs o.guard=some ch/\cB bs ch=some c/\(OpU P st h L bs o ch c f/\∀ av,v09 P L bs ch o st=some av->f = .pu av)/\∃ k,k=(match f with
      | .pu av=>P0h i o.dst ch av bs
      | .ef _=>bs)/\evU P l (i+1) (O0h o.dst ch f L) k st h K:=by
  obtain⟨n,fr,bx,ow⟩:=st
  change (match o00 bs o.guard with
        |some ch=>match cB bs ch with
          |some c=>match v09 P L bs ch o ⟨n,fr,bx,ow⟩with
            |some av=>Y01 av λav=>evU P l (i+1) (O0h o.dst ch (.pu av) L) (P0h i o.dst ch av bs) ⟨n,fr,bx,ow⟩ h K
            |none=>(∃ av,(∀ a,Sub h a->imp ch c (u07 L ⟨n,fr,bx,ow⟩ a ch o.op.operands.toList [] λfr=>Z8 P o ⟨n,fr,bx,ow⟩ a (m0m av ⟨n,fr,bx,ow⟩ a))) /\
                  Y01 av λav=>evU P l (i+1) (O0h o.dst ch (.pu av) L) (P0h i o.dst ch av bs) ⟨n,fr,bx,ow⟩ h K) ∨
                (∃ F:Value->Hp->Prop,(∀ v e d,Sub e d->F v e->F v d) /\
                  (∀ a,Sub h a->imp ch c (u07 L ⟨n,fr,bx,ow⟩ a ch o.op.operands.toList [] λfr=>W0i P o ⟨n,fr,bx,ow⟩ a (H0o ⟨n,fr,bx,ow⟩ a F))) /\
                  evU P l (i+1) (O0h o.dst ch (.ef F) L) bs ⟨n,fr,bx,ow⟩ h K)
          |none=>False
        |none=>False)at b
  split at b
  · rename_i ch j
    split at b
    · rename_i c g
      split at b
      · rename_i av q
        rw[r03]at b
        exact⟨ch,c,.pu av,j,g,⟨.inl q,λs a=>by grind⟩,_,rfl,b⟩
      · rename_i t
        have m:∀(f:R6) av,v09 P L bs ch o ⟨n,fr,bx,ow⟩=some av->f = .pu av:=λf av a=>by grind
        rcases b with⟨av,e,d⟩|⟨F,e,d,p⟩
        · rw[r03]at d
          exact⟨ch,c,.pu av,j,g,⟨.inr e,m _⟩,_,rfl,d⟩
        · exact⟨ch,c,.ef F,j,g,⟨⟨e,d⟩,m _⟩,_,rfl,p⟩
    · exact b.elim
  · exact b.elim
theorem z0e{P:Program}{ops:List Oper}{st:St}{h:Hp}{K:St->Hp->Prop}(an:∀(i j:Nat) (n Q:Oper) (d:Nat),ops[i]?=some n->ops[j]?=some Q->n.dst=some d->Q.dst=some d->i=j):
  ∀(l:List Oper) (k:Nat) (L:FL) (bs:List BE) (q:Asg),(∀ j,l[j]?=ops[k+j]?)->k+l.length=ops.length->j0g ops q L bs k->evU P l k L bs st h K ->
   ∃(A:Asg) (J:FL) (v:List BE),(∀ i,i<k->A i=q i)/\n09 bs v/\j0g ops A J v ops.length /\
    (∀ j o,k<=j->ops[j]?=some o->∃ R C,o00 v o.guard=some (A j).1/\j0g ops A R C j/\n09 C v/\cB C (A j).1=some (A j).2.1/\(OpU P st h R C o (A j).1 (A j).2.1 (A j).2.2/\∀ av,v09 P R C (A j).1 o st=some av->(A j).2.2 = .pu av)) /\
    (∀ V,Sub h V->e0g V J st.fr λfr=>K { st with fr:=fr } V)
 | [],k,L,bs,q,W,ae,g,ad=>by
  have af:k=ops.length:=by simpa using ae
  grind[n09.refl,y0q,List.getElem?_eq_some_iff]
 |o::l,k,L,bs,q,W,ae,g,ad=>by
  have Y:ops[k]?=some o:=by simpa using (W 0).symm
  have au:∀ j,l[j]?=ops[k+1+j]?:=λj=>by have:=W (j+1);grind
  have af:k+1+l.length=ops.length:=by grind
  obtain⟨ch,c,f,u,ac,aw,U,aq,ar⟩:=b0p P o l k L bs st h K ad
  let B:Asg:=λi=>if i=k then(ch,c,f)else q i
  have M:B k=(ch,c,f):=by simp[B]
  have aa:∀ i,i<k->B i=q i:=λi m=>by grind
  have az:∀ y∈bs,y.j<k:=λy ay=>(g.p4 y ay).1
  have I:n09 bs U:=by
   grind[a0p,n09.refl]
  have ax:j0g ops B (O0h o.dst ch f L) U (k+1):=by
   refine⟨λt x a=>?_,λi n d m H O=>?_,λi m X=>?_,λx a=>?_⟩
   ·rcases Y0o a with⟨ai,ah,e⟩|a
    ·grind
    ·obtain⟨i,n,s,D,E,G,am⟩:=g.p1 t x a
     grind
   ·rcases Nat.lt_or_ge i k with z|z
    ·obtain⟨x,a⟩:=g.p2 i n d z H O
     cases hd:o.dst with
     |none=>exact⟨x,a⟩
     |some ai=>exact T09 (x:=x) (mC _ (O04 a))
    ·have:i=k:=by omega
     subst this
     rw[Y]at H;cases H
     rw[O]
     exact T09 mS
   ·rcases Nat.lt_or_ge i k with z|z
    ·rw[aa i z];exact I.c _ _ (g.p3 i z X)
    ·have:i=k:=by omega
     subst this
     rw[M];exact I.c _ _ ac
   ·subst aq
    cases f with
    |ef F =>
     obtain⟨s,D,E,G⟩:=g.p4 x a
     grind
    |pu av =>
     rcases Z0o a with⟨ai,e,ah,ao,rfl⟩|a
     ·refine⟨nS _,⟨o,Y,ah⟩,by rw[M],?_⟩
      rw[M,ao]
     ·obtain⟨s,D,E,G⟩:=g.p4 x a
      grind
  obtain⟨A,J,v,ab,S,aj,ak,al⟩:=z0e an l (k+1) _ U B au af ax ar
  have T:A k=(ch,c,f):=by rw[ab k (nS _),M]
  have N:∀ i,i<k->A i=q i:=λi m=>by rw[ab i (Nat.lt_succ_of_lt m),aa i m]
  refine⟨A,J,v,N,I.trans S,aj,λj Q aA Z=>?_,al⟩
  rcases Nat.lt_or_ge k j with ag|ag
  ·exact ak j Q ag Z
  ·have:j=k:=by omega
   subst this
   rw[Y]at Z;cases Z
   refine⟨L,bs,?_,⟨λt x a=>?_,λi n d m H O=>g.p2 i n d m H O,λi m X=>?_,λx a=>?_⟩,I.trans S,by rw[T];exact ac,by rw[T];exact aw⟩
   ·rw[T]
    cases hg:o.guard with
    |none=>rw[hg]at u;exact u
    |some p =>
     obtain⟨aB,w⟩:=p
     rw[hg]at u
     simp only[o00]at u ⊢
     split at u
     ·rename_i b ap
      rw[(I.trans S).e _ _ ap]
      exact u
     ·cases u
   ·obtain⟨i,n,s,D,E,G,am⟩:=g.p1 t x a
    grind
   ·rw[N i m];exact g.p3 i m X
   ·obtain⟨s,D,E,G⟩:=g.p4 x a
    exact⟨s,D,by rw[N _ s];exact E,by rw[N _ s];exact G⟩
section
variable {P:Program} {h0:Hp} {w0:World} {be:Nat->Nat} {oe:Nat->Value} {H:Hp} {st:St} {h:Hp} {a:Act} {w:World} {o:Oper} {K:AV->St->Hp->Prop} {Q:Exit->Act->World->Prop}
theorem o0j(j:Sim P h0 w0 be oe H st h a w){t n:Nat}{f:Array (Nat×Operand)}(p:o.op = .buildSlice t n f)(A:f.toList = [])(c:I0o P t n st h K):o.wp P a w (Nx P h0 w0 st be oe K a o.dst) Q:=by
 unfold I0o at c
 split at c
 rotate_left
 ·exact c.elim
 rename_i e v
 split at c
 rotate_left
 ·exact c.elim
 rename_i sz u l
 have m:=Nat.eq_of_beq_eq_true l
 subst m
 have q:f = #[]:=by grind
 subst q
 have x:wpS P (execOp a.eval o) h (λi g=>∃ b,h b=none/\i = .value (.slice (some ⟨b,0,none⟩) 0 0)/\g=h.set b (.cells #[] e (0,0))):=by
  unfold execOp;rw[p]
  refine z8 _ _ _ ?_
  simp only[Instr.buildSlice,M2,C6 (G9 v),a02 u,Nat.zero_mul,U2]
  rw[if_neg (by omega)]
  simp only[U2,if_true,Instr.fill,Array.map_empty,M2,newRow,newObj,wpS]
  exact λb d=>⟨b,d,rfl,by rw[show Array.range 0 = #[] from rfl,Array.map_empty]⟩
 obtain⟨i,g,B,s,⟨b,d,rfl,rfl⟩,k⟩:=v00 _ _ _ (z09 j) x
 obtain⟨z,y⟩:=j.moved k
 exact t8 s ⟨_,_,_,_,_,_,_,c b d,rfl,y,rfl,a7.refl _ _ _⟩
theorem p0j(m:Sim P h0 w0 be oe H st h a w){t:TypeId}{p q:Operand}{as:Array Operand}{R:Array TypeId}(L:o.op = .call { callee := .builtin .append,args:=as,argTypes:=R })
  (F:as = #[p,q]) (N:R = #[t,t]) (d:J0o P t p q st h K):o.wp P a w (Nx P h0 w0 st be oe K a o.dst) Q:=by
 unfold J0o at d
 split at d
 rotate_left
 ·exact d.elim
 rename_i e aa
 split at d
 rotate_left
 ·exact d.elim
 rename_i sz by_ z Z S ac
 split at d
 rotate_left
 ·exact d.elim
 rename_i ad
 obtain⟨i,y,C,ag,ai⟩:=S09 Z S ac
 have A:=G9 aa
 have ae:z.cells.size=i.size:=by rw[C];simpa using E03 _ _ ad
 have g:=m.rdO p
 split at d
 rotate_left
 ·exact d.elim
 rename_i n s Y
 rw[Y]at g
 have v:a.eval p = .slice (some ⟨n,s,none⟩) 0 0:=g
 obtain⟨b,⟨M,W,J⟩,l⟩:=d05 m (Nat.succ_pos sz) d
 have af:i.size=sz+1:=C
 have ah:i.bytes=by_+1:=ag
 rw[←C]at l
 rw[←af]at J
 rw[←ah]at M
 have T:0<i.bytes:=by grind
 have am:b.length<=140737488355328:=Nat.le_trans (Nat.le_mul_of_pos_right _ T) M
 have X:((0+b.length:Nat):Int)<=9223372036854775807:=by omega
 have I:=b02 b (λx B=>(l.1 x B).1)
 have O:=z09 m
 by_cases hn:b = []
 ·have k:(Builtin.append_ #[t,t] o.type #[.slice (some ⟨n,s,none⟩) 0 0,a.eval q]).run P w = .ok (.slice (some ⟨n,s,none⟩) 0 0) w:=by
   subst hn
   rcases l.2 with⟨D,c,f,G⟩|⟨c,f,_⟩
   ·rw[f]
    simp[Builtin.append_,run_underlying A,sizeOf,typeInfo,y,Builtin.lenOf,Builtin.firstCells,loadCells,loadCellsFrom,storeCells]
   ·rw[f]
    simp[Builtin.append_,run_underlying A,sizeOf,typeInfo,y,Builtin.lenOf,Builtin.firstCells,storeCells]
  rw[←v]at k
  exact t8 (t03 L F N k) ⟨_,_,h,_,_,_,_,W hn,rfl,m,v,a7.refl _ _ _⟩
 ·rcases l.2 with⟨D,E,f,G⟩|⟨E,f,ab⟩
  rotate_left
  ·exact absurd ab hn
  have an:0<b.length:=by
   grind
  have k:=run_append_grow (P:=P) w t o.type e i z A y ai ⟨n,s,none⟩ 0 0 [] (by simp) (λj u V=>by simp at V) D b.length E b.flatten I G (by omega) X (growslice_fits (by omega) (by grind[Q07]))
  have al:=grownCap_ge w (0+b.length) 0 e
  have U:grownCap w (0+b.length) 0 e<=maxLen:=grownCap_le_maxLen w _ 0 e (by unfold maxLen;omega)
  rw[←f,←v]at k
  obtain⟨ak,aj⟩:=m.moved (T2.newD O (.cells ([].toArray++b.flatten.toArray++Builtin.zeroCells z.cells (grownCap w (0+b.length) 0 e-(0+b.length))) e (0,0)) rfl)
  refine t8 (t03 L F N k) ⟨_,_,_,_,_,_,_,J _ _ ⟨λx B=>l.1 x B,.inr ⟨w.heap.size,grownCap w (0+b.length) 0 e,_,?_,W02 O,rfl,by omega,U,?_,?_⟩⟩,rfl,aj,rfl,a7.refl _ _ _⟩
  ·rw[Nat.zero_add]
  ·simp only[Array.size_append,List.size_toArray,I,size_zeroCells,ae,List.length_nil,←Nat.add_mul,Nat.zero_add]
   grind
  grind
theorem q0j(e:Sim P h0 w0 be oe H st h a w)(b:W0i P o st h K):o.wp P a w (Nx P h0 w0 st be oe K a o.dst) Q:=by
 unfold W0i at b
 split at b
 ·grind[o0j,d00]
 ·rename_i as j d
  split at b
  ·rename_i x y t i f g
   split at b
   ·rename_i c
    have:=Nat.eq_of_beq_eq_true c
    subst this
    exact p0j e d (by grind) (by grind) b
   ·exact b.elim
  ·exact b.elim
 grind[d00]
end
section
variable {P:Program} {h0:Hp} {w0:World} {be:Nat->Nat} {oe:Nat->Value} {H:Hp} {h:Hp} {a:Act} {w:World}
def b0i(st:St)(be:Nat->Nat)(oe:Nat->Value)(h:Hp)(bs:List BE)(x:List (Nat×Bool)×R6)(v:Value):Prop:=cB bs x.1=some true->d06 st be oe h x.2 v
theorem e02{L:FL}{st:St}{h:Hp}{bs:List BE}{ch:List (Nat×Bool)}{val:Nat->Value}{K:List (Nat×AV)->Prop}(d:cB bs ch=some true):∀ {l:List Operand} {acc:List (Nat×AV)},
  (∀ t,I2 st be oe (Z2 acc t) (val t))->(∀ t,Operand.tmp t∈l->(∀ x,U03 L t=some x->b0i st be oe h bs x (val t))/\(U03 L t=none->I2 st be oe (Z2 st.fr t) (val t))) ->
  u07 L st h ch l acc K->∃ fr,K fr/\∀ t,I2 st be oe (Z2 fr t) (val t)
 | [],acc,c,b,a=>⟨acc,a,c⟩
 | .tmp t::r,acc,c,b,a=>by
  have j:∀ u,Operand.tmp u∈r->_:=λu i=>b u (mC _ i)
  have k:=b t mS
  have put:∀ av,I2 st be oe av (val t)->∀ u,I2 st be oe (Z2 ((t,av)::acc) u) (val u):=λav g u=>by
   grind[Z3]
  simp only[u07]at a
  split at a
  ·rename_i n f e
   split at a
   ·rename_i m
    have hf:=k.1 _ e (X08 m d)
    cases f with
    |pu av=>exact e02 d (put av hf) j a
    |ef F=>exact e02 d (put (.val (val t)) rfl) j (a _ hf)
   ·exact a.elim
  ·rename_i e
   exact e02 d (put _ (k.2 e)) j a
 | .const v::r,acc,c,b,a=>e02 (l:=r) d c (λu i=>b u (mC _ i)) a
 | .global v::r,acc,c,b,a=>e02 (l:=r) d c (λu i=>b u (mC _ i)) a
 | .func v::r,acc,c,b,a=>e02 (l:=r) d c (λu i=>b u (mC _ i)) a
theorem A0g{st:St}{val:Nat->Value}{K:List (Nat×AV)->Prop}:∀ {L:FL} {fr:List (Nat×AV)},(∀ p∈L,p.2.1 = []->d06 st be oe h p.2.2 (val p.1)) ->
  (∀ t,(∀ x,(t,x) ∉ L)->I2 st be oe (Z2 fr t) (val t))->e0g h L fr K->∃ fr,K fr/\∀ t,I2 st be oe (Z2 fr t) (val t)
 | [],fr,b,c,a=>⟨fr,a,λt=>c t (by simp)⟩
 |(d,ch,f)::r,fr,b,c,a=>by
  have step:∀ av,I2 st be oe av (val d)->e0g h r ((d,av)::fr) K->∃ fr,K fr/\∀ t,I2 st be oe (Z2 fr t) (val t):=λav g a =>
   A0g (L:=r) (fr:=(d,av)::fr) (λp e=>b p (mC _ e)) (λt i=>by
    grind[Z3]) a
  cases ch with
  |nil =>
   have hf:=b (d,[],f) mS rfl
   cases f with
   |pu av=>exact step av hf a
   |ef F=>exact step (.val (val d)) rfl (a _ hf)
  |cons p q =>
   refine step .dead trivial ?_
   cases f<;>exact a
theorem c0p{st:St}{L:FL}{bs:List BE}{ch:List (Nat×Bool)}{o:Oper}{av:AV}(c:v09 P L bs ch o st=some av)(z:cB bs ch=some true)
  (an:∀ t,(∀ x,U03 L t=some x->b0i st be oe h bs x (a.tmps.getD t undef))/\(U03 L t=none->I2 st be oe (Z2 st.fr t) (a.tmps.getD t undef))∨Operand.tmp t ∉ o.op.operands)
  (az:∀ x∈bs,∀ y,U03 L x.d=some y->y=(x.ch,.pu (.val (.bool x.e)))) (ai:∀ x∈bs,q03 bs x.j=some x) (ax:∀ x∈bs,∃ y,U03 L x.d=some y)
  (T:∀ {fr:List (Nat×AV)},(∀ t,I2 st be oe (Z2 fr t) (a.tmps.getD t undef))->Sim P h0 w0 be oe H { st with fr:=fr } h a w) {Q:Exit->Act->World->Prop} :
  o.wp P a w (λE l=>∃ v be' oe' C,E=a.put o.dst v/\(∃ fr,Sim P h0 w0 be' oe' C { st with fr:=fr } h a l)/\a7 st be oe st be' oe'/\I2 st be' oe' av v) Q:=by
 have G:Sim P h0 w0 be oe H { st with fr:=[] } h a w:=T (λt=>trivial)
 have rd:∀(x:Operand) (I:List (Nat×Bool)),cB bs I=some true->(∀ t,x = .tmp t->Operand.tmp t∈o.op.operands)->I2 st be oe (rdU L st I x) (a.eval x):=by
  intro x I ag f
  cases x with
  |tmp t =>
   have Y:=(an t).resolve_right (λB=>B (f t rfl))
   simp only[rdU]
   split
   ·rename_i au A e
    split
    ·rename_i O
     have:=Y.1 _ e (X08 O ag)
     have g:I2 st be oe A (a.tmps.getD t undef):=this
     have s:=G.rdA (I2.fr (st:=st) (fr:=[]) g)
     have p:rdA { st with fr:=[] } A=rdA st A:=by obtain⟨n,fr,bx,ow⟩:=st;cases A<;>rfl
     rw[p]at s
     exact I2.fr (st := { st with fr:=[] }) (fr:=st.fr) s
    ·trivial
   ·trivial
   ·rename_i e
    have g:=Y.2 e
    have s:=G.rdA (I2.fr (st:=st) (fr:=[]) g)
    have p:rdA { st with fr:=[] } (Z2 st.fr t)=rdA st (Z2 st.fr t):=by obtain⟨n,fr,bx,ow⟩:=st;cases Z2 fr t<;>rfl
    rw[p]at s
    exact I2.fr (st := { st with fr:=[] }) (fr:=st.fr) s
  |const v=>exact rfl
  |global v=>trivial
  |func v=>exact rfl
 have done:∀ {v:Value},(∀ l,(execOp a.eval o).run P l = .ok (.value v) l ∨ ¬ Vis H l)->I2 st be oe av v->o.wp P a w (λE l=>∃ v be' oe' C,E=a.put o.dst v/\(∃ fr,Sim P h0 w0 be' oe' C { st with fr:=fr } h a l)/\a7 st be oe st be' oe'/\I2 st be' oe' av v) Q:=λ{v} m g =>
  t8 ((m w).resolve_right λB=>B G.mv.vis) ⟨v,be,oe,H,rfl,⟨[],G⟩,a7.refl _ _ _,g⟩
 unfold v09 at c
 split at c
 ·rename_i x f
  have g:=rd x ch z (λt e=>by rw[f];simp[Op.operands,e])
  refine done (v:=a.eval x) (λl => .inl (by unfold execOp;rw[f];rfl)) ?_
  revert c
  cases m:rdU L st ch x<;>intro c<;>first|(cases c;done)|(cases c;rw[m]at g;exact g)
 ·rename_i x f
  have g:=rd x ch z (λt e=>by rw[f];simp[Op.operands,e])
  refine done (v:=a.eval x) (λl => .inl (by unfold execOp;rw[f];rfl)) ?_
  revert c
  cases m:rdU L st ch x<;>intro c<;>first|(cases c;done)|(cases c;rw[m]at g;exact g)
 ·rename_i t x f
  have g:=rd x ch z (λt e=>by rw[f];simp[Op.operands,e])
  split at c
  ·rename_i i off m
   rw[m]at g
   split at c
   ·rename_i cs ty B
    have ap:∃ u,x = .tmp u:=by
     cases x with
     |tmp u=>exact⟨u,rfl⟩
     |const v=>simp[rdU,rdO]at m
     |global v=>simp[rdU,rdO]at m
     |func v=>simp[rdU,rdO]at m
    obtain⟨u,rfl⟩:=ap
    have ah:Z8 P o { st with fr:=[(u,.box i off)] } h λS st' ae=>S=av/\st' = { st with fr:=[(u,.box i off)] }/\ae=h:=by
     have al:rdO { st with fr:=[(u,.box i off)] } (.tmp u) = .box i off:=by
      show rdA _ (Z2 [(u,AV.box i off)] u)=_
      rw[Z3,if_pos rfl]
      simp only[rdA,B]
     simp only[Z8,f,al,B]
     grind[e0e,T04,G0h,B6]
    have s1:=T (fr:=[(u,.box i off)]) (λaA=>by
     rw[Z3]
     split
     ·rename_i e;subst e;exact g
     ·trivial)
    refine Oper.wp_mono (λE l f=>?_) (d00 s1 ah)
    obtain⟨S,st',aw,v,be',oe',C,⟨J,p,ac⟩,af,s2,s,F⟩:=f
    rw[p,ac]at s2
    rw[J,p]at s
    rw[p]at F
    exact⟨v,be',oe',C,af,⟨_,s2⟩,⟨F.bl,F.be,F.sm⟩,I2.fr (st := { st with fr:=[(u,.box i off)] }) (fr:=st.fr) s⟩
   ·cases c
  ·cases c
 ·rename_i t x k f
  have g:=rd x ch z (λt e=>by rw[f];simp[Op.operands,e])
  split at c
  ·rename_i i off K m X
   rw[m]at g
   cases c
   refine done (v:=ptr (be i) (off+K)) (λl=>?_) ⟨g.1,rfl⟩
   by_cases hvis:Vis H l
   ·exact .inl (R.run_of (R.exec_fieldAddr (H:=H) f X g.2) l hvis)
   ·exact .inr hvis
  ·rename_i sl j sz ar K m X
   rw[m]at g
   cases c
   obtain⟨b,Z,n,ab,J,p⟩:=g
   refine done (v:=ptr b (Z+(j.toNat*sz+ar)+K)) (λl=>?_) ⟨b,Z,n,ab,J,by simp[Nat.add_assoc]⟩
   grind[Vis,R.run_of,R.exec_fieldAddr]
  ·cases c
 ·rename_i aa x y f
  have g:=rd (.tmp aa) ch z (λt e=>by rw[f];cases e;simp[Op.operands])
  split at c
  ·rename_i e q O ak
   rw[O]at g
   have ad:a.eval (.tmp aa) = .bool e:=g
   split at c
   ·rename_i am
    obtain⟨aj,ay⟩:=R0b ak
    have V:=X08 am z
    have W:q.e=e:=by
     grind[rdU,bool,Go.H.rdA]
    have U:=ai q aj
    split at c
    ·rename_i bx by_ ao aq
     cases c
     refine done (v := .bool (cond e bx by_)) (λl => .inl ?_) rfl
     unfold execOp;rw[f]
     simp only[ad,Sem.run_bind,asBool,Sem.run_pure,Result.andThen_ok]
     cases e with
     |true =>
      have N:cB bs ((q.j,true)::q.ch)=some true:=by
       rw[K04,U,V];simp[lit,W]
      have D:=rd x _ N (λt e=>by rw[f];simp[Op.operands,e])
      rw[ao]at D
      have M:a.eval x = .bool bx:=D
      simp[M]
     |false =>
      have N:cB bs ((q.j,false)::q.ch)=some true:=by
       rw[K04,U,V];simp[lit,W]
      have D:=rd y _ N (λt e=>by rw[f];simp[Op.operands,e])
      rw[aq]at D
      have M:a.eval y = .bool by_:=D
      simp[M]
    ·cases c
   ·cases c
  ·cases c
 ·cases c
theorem Sim.untail{st:St}{t:List Own}(c:Sim P h0 w0 be oe H { st with ow:=st.ow++t } h a w)(hf:∀ u,I2 st be oe (Z2 st.fr u) (a.tmps.getD u undef))
  (m:∀ i cs ty,nth st.bx i=some (.live cs ty)->∃ vs,D2 st oe cs vs/\H (be i)=some (.cells vs.toArray ty (0,0))):Sim P h0 w0 be oe H st h a w:=by
 have up:∀ i o,nth st.ow i=some o->nth (st.ow++t) i=some o:=λi o b=>by
  grind[b05,List.getElem?_append_left,List.getElem?_eq_some_iff]
 refine⟨c.mv,c.sub,λi cs ty b=>⟨(c.box i cs ty b).1,m i cs ty b⟩,c.pub,λi f e sz by_ nn xs b=>c.own i f e sz by_ nn xs (up i _ b),λi f v b=>c.frz i f v (up i _ b),c.bb,
  λi j s1 e sz by_ nn xs s2 l p k n q g b d=>c.oo i j s1 e sz by_ nn xs s2 l p k n q g (up i _ b) (up j _ d),λi cs ty j s1 e sz by_ nn xs b d=>c.bo i cs ty j s1 e sz by_ nn xs b (up j _ d),c.dfr,c.siz,hf⟩
def U09(P:Program)(h0:Hp)(w0:World)(ops:Array Oper)(st:St)(h:Hp)(A:Asg)(sk:Nat->Bool)(kp:List (Nat×Value))(listed:Array Bool)(a:Act)(w:World):Prop :=
 ∃ be oe H b,Sub h b/\Sim P h0 w0 be oe H { st with fr:=A4 ops.toList st.fr } b a w/\(∀ p∈kp,a.tmps.getD p.1 undef=p.2) /\
  ∀ j o d,sk j=false->ops[j]?=some o->o.dst=some d->listed.getD j false=true->((A j).2.1=true->d06 st be oe b (A j).2.2 (a.tmps.getD d undef))/\((A j).2.1=false->a.tmps.getD d undef=undef)
theorem z0q{st st':St}(t:d0l st st'):∃ r,st' = { st with ow:=st.ow++r }:=by
 obtain⟨n,fr,bx,ow⟩:=st
 obtain⟨g,b,a,h⟩:=st'
 obtain⟨c,d,e,r,f⟩:=t
 grind
theorem A0q{b:Type}{l r:List b}{i:Nat}(a:i<l.length):nth (l++r) i=nth l i:=by
 rw[b05,b05,List.getElem?_append_left a]
theorem B0g{st:St}{r:List Own}{i a:Nat}(b:stamp st i=some a):stamp { st with ow:=st.ow++r } i=some a:=by
 grind[stamp,nth,A0q,Z01]
theorem h0r{ops:Array Oper}{st:St}{A:Asg}{sk:Nat->Bool}{kp:List (Nat×Value)}{bg:FL}{aj:List BE}{listed:Array Bool}{j:Nat}{o:Oper}{Q:Exit->Act->World->Prop}
  (bt:∀(i j:Nat) (f a2:Oper) (d:Nat),ops.toList[i]?=some f->ops.toList[j]?=some a2->f.dst=some d->a2.dst=some d->i=j)
  (al:∀ o∈ops.toList,∀ d,o.dst=some d->d<st.n)
  (br:∀(k:Nat) (o:Oper),ops.toList[k]?=some o->∀ e∈o.after,Region.binds .any e=true->e.on<k)
  (aR:∀ o∈ops.toList,∀ t,Operand.tmp t∈o.op.operands->∀(i:Nat) (f:Oper),ops.toList[i]?=some f->f.dst=some t->∃ e∈o.after,Region.binds .any e=true/\e.on=i)
  (bF:∀ o∈ops.toList,∀ i w,o.guard=some (i,w)->c00 i o=true)
  (ar:j0g ops.toList A bg aj ops.toList.length)
  (aP:∀ j o,ops.toList[j]?=some o->∃ T D,o00 aj o.guard=some (A j).1/\j0g ops.toList A T D j/\n09 D aj/\cB D (A j).1=some (A j).2.1/\(OpU P st h T D o (A j).1 (A j).2.1 (A j).2.2/\∀ av,v09 P T D (A j).1 o st=some av->(A j).2.2 = .pu av))
  (cc:sk j=false) (ce:∀(i:Nat) (f:Oper) (d:Nat),ops.toList[i]?=some f->f.dst=some d->sk i=true->∀ C∈ops.toList,Operand.tmp d ∉ C.op.operands)
  (bP:∀ i,sk i=true->(A i).2.2 = .pu (.val undef)) (cd:∀ p∈kp,∃(i:Nat) (f:Oper),ops.toList[i]?=some f/\f.dst=some p.1/\sk i=true)
  (aT:ops[j]?=some o) (aV:∀ e∈o.after,Region.binds .any e=true->listed.getD e.on false=true) (ah:U09 P h0 w0 ops st h A sk kp listed a w) :
  (Region.wanted o (yielded ops a.tmps)=true->o.wp P a w (U09 P h0 w0 ops st h A sk kp (listed.setIfInBounds j true)) Q) /\
  (Region.wanted o (yielded ops a.tmps)=false->U09 P h0 w0 ops st h A sk kp (listed.setIfInBounds j true) (a.put o.dst undef) w):=by
 obtain⟨be,oe,H,Z,aF,ad,keep,az⟩:=ah
 have am:ops.toList[j]?=some o:=by simpa using aT
 have ak:o∈ops.toList:=List.mem_of_getElem? am
 have aS:j<ops.toList.length:=(List.getElem?_eq_some_iff.1 am).1
 obtain⟨T,D,ab,W,bT,au,L,_⟩:=aP j o am
 have ag:cB aj (A j).1=some (A j).2.1:=ar.p3 j aS aS
 have aY:Region.wanted o (yielded ops a.tmps)=(A j).2.1:=by
  unfold Region.wanted
  cases hg:o.guard with
  |none =>
   rw[hg]at ab
   cases hch':(A j).1 with
   |nil=>rw[hch']at ag;exact oJ ag
   |cons p q=>rw[hch']at ab;cases ab
  |some p =>
   obtain⟨i,aL⟩:=p
   rw[hg]at ab
   simp only[o00]at ab
   split at ab
   ·rename_i b J
    obtain⟨bJ,rfl⟩:=c04 J
    obtain⟨E,⟨C,s,N⟩,ao,af⟩:=ar.p4 b bJ
    have aD:listed.getD b.j false=true:=by
     obtain⟨e,R,bv,an⟩:=H8 (bF o ak b.j aL hg)
     rw[←an];exact aV e R bv
    have bO:sk b.j=false:=by
     cases e:sk b.j with
     |false=>rfl
     |true=>rw[bP b.j e]at af;cases af
    have hf:=az b.j C b.d bO (by simpa using s) N aD
    have aQ:=ar.p3 b.j E E
    rw[ao]at aQ
    have ac:b.d<a.tmps.size:=by rw[ad.siz];exact al C (List.mem_of_getElem? s) b.d N
    have aH:a.tmps[b.d]?=some (if(A b.j).2.1=true then .bool b.e else undef):=by
     rw[Array.getElem?_eq_getElem ac]
     have bG:a.tmps.getD b.d undef=a.tmps[b.d]:=by simp[ac]
     cases K:(A b.j).2.1 with
     |true =>
      have:=hf.1 K
      rw[af,bG]at this
      have I:a.tmps[b.d] = .bool b.e:=this
      rw[I];rfl
     |false =>
      grind
    have aJ:yielded ops a.tmps b.j=if(A b.j).2.1=true then some b.e else none:=by
     unfold yielded
     have:ops[b.j]?=some C:=by simpa using s
     simp only[this,N,oB,aH]
     cases (A b.j).2.1<;>rfl
    have bC:(A j).1=(b.j,aL)::b.ch:=by
     grind
    rw[bC,K04,J,aQ]at ag
    simp only[Option.some.injEq]at ag
    simp only[aJ,←ag]
    cases (A b.j).2.1<;>cases aL<;>cases b.e<;>rfl
   ·cases ab
 have b1:∀ i f,ops.toList[i]?=some f->∀ F,(A i).2.2 = .ef F->∀ v G I,Sub G I->F v G->F v I:=λi f aw F bu=>by
  obtain⟨b2,b5,_,_,_,_,aU,_⟩:=aP i f aw
  rw[bu]at aU
  exact aU.1
 have fin:∀ {fr:List (Nat×AV)} {ae:Act} {S:World} {O:Hp} {be':Nat->Nat} {oe':Nat->Value} {M:Hp} {v:Value},Sub Z O->ae=a.put o.dst v->Sim P h0 w0 be' oe' M { st with fr:=fr } O a S ->
   a7 st be oe st be' oe'->((A j).2.1=true->d06 st be' oe' O (A j).2.2 v)->((A j).2.1=false->v=undef)->U09 P h0 w0 ops st h A sk kp (listed.setIfInBounds j true) ae S:=by
  intro fr ae S O be' oe' M v aX aa bY ap aH bQ
  subst aa
  have bp:a7 { st with fr:=A4 ops.toList st.fr } be oe { st with fr:=A4 ops.toList st.fr } be' oe':=⟨ap.bl,ap.be,ap.sm⟩
  have s1:Sim P h0 w0 be' oe' M { st with fr:=A4 ops.toList st.fr } O a S :=
   bY.refr (fr:=A4 ops.toList st.fr) λt=>I2.fr (st := { st with fr:=A4 ops.toList st.fr }) ((ad.fr t).grow bp)
  have s2:Sim P h0 w0 be' oe' M { st with fr:=A4 ops.toList st.fr } O (a.put o.dst v) S:=by
   cases V:o.dst with
   |none=>exact s1
   |some d =>
    have aE:=s1.put (d:=d) (av := .dead) (v:=v) (al o ak d V) trivial
    refine aE.refr (fr:=A4 ops.toList st.fr) λt=>?_
    have g:=aE.fr t
    grind[Z3,E02]
  have co:∀ d,o.dst≠some d->(a.put o.dst v).tmps.getD d undef=a.tmps.getD d undef:=λd V=>by
   cases aC:o.dst with
   |none=>rfl
   |some U=>simp[Act.put,Array.getElem?_setIfInBounds_ne (λe=>V (by rw[aC,e]):U≠d)]
  refine⟨be',oe',M,O,λb x J=>aX b x (aF b x J),s2,λp aE=>?_,λi f d aG G I aO=>?_⟩
  ·grind
  by_cases hij:j=i
  ·subst hij
   rw[aT]at G;cases G
   have ac:d<a.tmps.size:=by rw[ad.siz];exact al o ak d I
   have:(a.put o.dst v).tmps.getD d undef=v:=by
    rw[I]
    simp[Act.put,ac]
   rw[this]
   exact⟨aH,bQ⟩
  ·have bI:listed.getD i false=true:=by rw[getD_set_ne false hij]at aO;exact aO
   have bL:∀ U,o.dst=some U->U≠d:=λU aC e=>by
    subst e
    exact hij (bt j i o f U am (by simpa using G) aC I)
   have:(a.put o.dst v).tmps.getD d undef=a.tmps.getD d undef:=by
    cases V:o.dst with
    |none=>rfl
    |some U=>simp[Act.put,Array.getElem?_setIfInBounds_ne (bL U V)]
   rw[this]
   obtain⟨ai,bU⟩:=az i f d aG G I bI
   refine⟨λK=>?_,bU⟩
   have ai:=ai K
   cases hA:(A i).2.2 with
   |pu av=>rw[hA]at ai;exact I2.grow ap ai
   |ef F=>rw[hA]at ai;exact b1 i f (by simpa using G) F hA _ _ _ aX ai
 refine⟨λbS=>?_,λbR=>?_⟩
 rotate_left
 ·have K:(A j).2.1=false:=by rw[←aY];exact bR
  exact fin (fr:=A4 ops.toList st.fr) (λ_ _ h=>h) rfl ad (a7.refl _ _ _) (λh=>by rw[K]at h;cases h) (λ_=>rfl)
 have K:(A j).2.1=true:=by rw[←aY];exact bS
 rw[K]at au L
 have cb:cB aj (A j).1=some true:=by rw[ag,K]
 have b0:∀ t x,U03 T t=some x->b0i st be oe Z D x (a.tmps.getD t undef)∨Operand.tmp t ∉ o.op.operands:=λt x m=>by
  by_cases B:Operand.tmp t∈o.op.operands
  ·refine .inl λbE=>?_
   obtain⟨i,f,E,s,N,ao,af⟩:=W.p1 t x (O04 m)
   obtain⟨e,R,J,an⟩:=aR o ak t B i f s N
   have aD:listed.getD i false=true:=by rw[←an];exact aV e R J
   have bD:(A i).2.1=true:=by
    have G:=ar.p3 i (List.getElem?_eq_some_iff.1 s).1 (List.getElem?_eq_some_iff.1 s).1
    rw[ao,bT.c _ _ bE]at G
    exact(oJ G).symm
   have aG:sk i=false:=by
    grind
   have:=(az i f t aG (by simpa using s) N aD).1 bD
   rwa [af]at this
  ·exact .inr B
 have bo:∀ t,Operand.tmp t∈o.op.operands->U03 T t=none->I2 st be oe (Z2 st.fr t) (a.tmps.getD t undef):=λt B bM=>by
  have g:=ad.fr t
  have bK:Z2 (A4 ops.toList st.fr) t=Z2 st.fr t:=t01 λC bN V=>by
   obtain⟨i,ah,e⟩:=List.getElem_of_mem bN
   have aw:ops.toList[i]?=some C:=by rw[List.getElem?_eq_getElem ah,e]
   obtain⟨bn,R,J,an⟩:=aR o ak t B i C aw V
   have ac:=br j o am bn R J
   rw[an]at ac
   obtain⟨x,m⟩:=W.p2 i C t ac aw V
   rw[bM]at m;cases m
  rw[←bK]
  exact I2.fr (st := { st with fr:=A4 ops.toList st.fr }) (fr:=st.fr) g
 have a3:∀ t,Operand.tmp t∈o.op.operands->(∀ x,U03 T t=some x->b0i st be oe Z D x (a.tmps.getD t undef))/\(U03 T t=none->I2 st be oe (Z2 st.fr t) (a.tmps.getD t undef)):=λt B =>
  ⟨λx m=>(b0 t x m).resolve_right λal=>al B,bo t B⟩
 have mk:∀ {fr:List (Nat×AV)},(∀ t,I2 st be oe (Z2 fr t) (a.tmps.getD t undef))->Sim P h0 w0 be oe H { st with fr:=fr } Z a w:=λ{fr} g=>ad.refr (fr:=fr) λt=>I2.fr (g t)
 cases hA:(A j).2.2 with
 |pu av =>
  rw[hA]at L
  rcases L with L|L
  ·refine Oper.wp_mono (λae S m=>?_) (c0p (be:=be) (oe:=oe) (H:=H) (h:=Z) L au (λt=>?_) (λx m y aJ=>?_) (λx m=>?_) (λx m=>?_) mk)
   ·obtain⟨v,be',oe',M,aa,⟨fr,s2⟩,Y,s⟩:=m
    exact fin (λ_ _ h=>h) aa s2 Y (λ_=>by rw[hA];exact s) (λh=>by rw[K]at h;cases h)
   ·grind
   ·obtain⟨E,⟨C,s,N⟩,ao,af⟩:=W.p4 x m
    obtain⟨i,f,a0,a1,cf,cg,ci⟩:=W.p1 x.d y (O04 aJ)
    grind
   ·have aK:∀(l:List BE),x∈l->∃ b,q03 l x.j=some b:=by
     intro l
     induction l with
     |nil=>intro h;cases h
     |cons z l aZ =>
      intro h
      simp only[q03]
      split
      ·exact⟨_,rfl⟩
      grind[absurd,Nat.ne_of_beq_eq_false]
    obtain⟨b,J⟩:=aK D m
    obtain⟨bA,bz⟩:=c04 J
    obtain⟨_,⟨cj,ax,aM⟩,aN,ay⟩:=W.p4 b bA
    obtain⟨_,⟨ck,bi,bj⟩,bk,bm⟩:=W.p4 x m
    rw[bz]at ax aN ay
    rw[bi]at ax;cases ax
    rw[bj]at aM
    rw[bm]at ay
    have b7:x.d=b.d:=by simpa using aM
    have b8:x.ch=b.ch:=bk.symm.trans aN
    have ca:x.e=b.e:=by simpa using ay
    rw[J]
    obtain⟨b6,b4,be',b3⟩:=b
    obtain⟨cv,ct,cu,cr⟩:=x
    grind
   ·obtain⟨E,⟨C,s,N⟩,_,_⟩:=W.p4 x m
    exact W.p2 x.j C x.d E s N
  ·obtain⟨fr,R,g⟩:=e02 (acc:=[]) (be:=be) (oe:=oe) (val:=λt=>a.tmps.getD t undef) au (λt=>trivial) (λt B=>a3 t (by simpa using B)) (c08 (bs:=D) (L Z aF) rfl)
   refine Oper.wp_mono (λae S m=>?_) (d00 (mk g) R)
   obtain⟨bh,st',O,v,be',oe',M,⟨rfl,rfl,rfl⟩,aa,s2,s,Y⟩:=m
   exact fin (λ_ _ h=>h) aa s2 ⟨Y.bl,Y.be,Y.sm⟩ (λ_=>by rw[hA];exact I2.fr (st := { st with fr:=fr }) (fr:=st.fr) s) (λh=>by rw[K]at h;cases h)
 |ef F =>
  rw[hA]at L
  obtain⟨_,L⟩:=L
  obtain⟨fr,R,g⟩:=e02 (acc:=[]) (be:=be) (oe:=oe) (val:=λt=>a.tmps.getD t undef) au (λt=>trivial) (λt B=>a3 t (by simpa using B)) (c08 (bs:=D) (L Z aF) rfl)
  refine Oper.wp_mono (λae S m=>?_) (q0j (mk g) R)
  obtain⟨bh,st',O,v,be',oe',M,bH,aa,s2,s,Y⟩:=m
  obtain⟨cm,I,⟨B,a0,a1⟩,bd,bq⟩:=s03 s2 s bH
  obtain⟨r,rfl⟩:=z0q B
  have aq:a7 st be oe st be' oe':=by
   have aB:=Y.trans bq
   refine⟨aB.bl,aB.be,λi bc aW=>?_⟩
   obtain⟨s1,a4,cl,a5⟩:=aB.sm i bc aW
   have a6:stamp { n:=st.n,fr:=fr,bx:=st.bx,ow:=st.ow++r } i=some bc:=B0g (st := { st with fr:=fr }) aW
   grind
  have bB:∀ i cs ty,nth st.bx i=some (.live cs ty)->∃ vs,D2 { st with fr:=fr } oe' cs vs/\M (be' i)=some (.cells vs.toArray ty (0,0)):=λi cs ty ah=>by
   obtain⟨_,X,a4,_⟩:=ad.box i cs ty ah
   obtain⟨_,vs,a5,a6⟩:=bd.box i cs ty ah
   refine⟨vs,?_,a6⟩
   have aK:∀(cs:List S5) (X vs:List Value),D2 { st with fr:=A4 ops.toList st.fr } oe cs X->D2 { n:=st.n,fr:=fr,bx:=st.bx,ow:=st.ow++r } oe' cs vs->D2 { st with fr:=fr } oe' cs vs:=by
    intro cs
    induction cs with
    |nil=>intro X vs _ g;cases vs with
     |nil=>trivial
     |cons v vs=>exact g.elim
    |cons c cs aZ =>
     intro X vs aA E
     cases X with
     |nil=>exact aA.elim
     |cons cp X =>
      cases vs with
      |nil=>exact E.elim
      |cons cq vs =>
       refine⟨?_,aZ X vs aA.2 E.2⟩
       cases c with
       |val x=>exact E.1
       |own k s1 =>
        obtain⟨bf,ba,_,_⟩:=aA.1
        obtain⟨cn,bb,bV,bW⟩:=E.1
        have bX:stamp { n:=st.n,fr:=fr,bx:=st.bx,ow:=st.ow++r } k=some bf:=B0g (st := { st with fr:=fr }) ba
        rw[bX]at bb
        cases bb
        exact⟨bf,ba,bV,bW⟩
   exact aK cs X vs a4 a5
  have bZ:Sim P h0 w0 be' oe' M { st with fr:=fr } I a S:=Sim.untail (st := { st with fr:=fr }) (t:=r) bd (λu=>I2.grow (st := { st with fr:=fr }) (st' := { st with fr:=fr }) ⟨aq.bl,aq.be,aq.sm⟩ (I2.fr (g u))) bB
  exact fin (fr:=fr) a0 aa bZ aq (λ_=>by rw[hA];exact a1) (λh=>by rw[K]at h;cases h)
theorem U09.start{ops:Array Oper}{st:St}{A:Asg}{sk:Nat->Bool}(f:Sim P h0 w0 be oe H st h a w):U09 P h0 w0 ops st h A sk [] (Array.replicate ops.size false) a w:=by
 refine⟨be,oe,H,h,λ_ _ h=>h,f.refr (fr:=A4 ops.toList st.fr) λt=>?_,λp k=>(by cases k),λj o d _ c e b=>?_⟩
 ·by_cases hx:∃ o∈ops.toList,o.dst=some t
  ·obtain⟨o,c,e⟩:=hx
   rw[E02 c e]
   trivial
  ·rw[t01 λo i g=>hx ⟨o,i,g⟩]
   exact f.fr t
 ·simp[Array.getElem?_replicate]at b
  split at b<;>cases b
theorem z0m{ops:Array Oper}{st:St}{A:Asg}{sk:Nat->Bool}{kp:List (Nat×Value)}{s:FL}{D:List BE}{K:St->Hp->Prop}{listed:Array Bool}
  (T:∀ i,sk i=true->(A i).2.2 = .pu (.val undef)) (Y:∀(i j:Nat) (b C:Oper) (d:Nat),ops.toList[i]?=some b->ops.toList[j]?=some C->b.dst=some d->C.dst=some d->i=j)
  (f:j0g ops.toList A s D ops.toList.length) (N:∀ c,Sub h c->e0g c s st.fr λfr=>K { st with fr:=fr } c) (ab:∀ j,j<ops.size->listed.getD j false=true)
  (l:U09 P h0 w0 ops st h A sk kp listed a w):∃ be oe H c fr,K { st with fr:=fr } c/\Sim P h0 w0 be oe H { st with fr:=A4 ops.toList st.fr } c a w/\(∀ p∈kp,a.tmps.getD p.1 undef=p.2) /\
   ∀ t,(∀(i:Nat) (b:Oper),ops.toList[i]?=some b->b.dst=some t->sk i=false)->I2 st be oe (Z2 fr t) (a.tmps.getD t undef):=by
 obtain⟨be,oe,H,c,S,W,keep,X⟩:=l
 have M:∀ t,(∃(i:Nat) (b:Oper),ops.toList[i]?=some b/\b.dst=some t/\sk i=true) ∨ ¬ ∃(i:Nat) (b:Oper),ops.toList[i]?=some b/\b.dst=some t/\sk i=true:=λt=>Classical.em _
 have m:∃ val:Nat->Value,∀ t,((∃(i:Nat) (b:Oper),ops.toList[i]?=some b/\b.dst=some t/\sk i=true)->val t=undef)/\((¬ ∃(i:Nat) (b:Oper),ops.toList[i]?=some b/\b.dst=some t/\sk i=true)->val t=a.tmps.getD t undef) :=
  Classical.axiomOfChoice (r:=λt v=>((∃(i:Nat) (b:Oper),ops.toList[i]?=some b/\b.dst=some t/\sk i=true)->v=undef)/\((¬ ∃(i:Nat) (b:Oper),ops.toList[i]?=some b/\b.dst=some t/\sk i=true)->v=a.tmps.getD t undef)) λt=>by
   rcases M t with h|h
   ·exact⟨undef,λ_=>rfl,λn=>absurd h n⟩
   grind
 obtain⟨val,m⟩:=m
 obtain⟨fr,aa,g⟩:=A0g (st:=st) (be:=be) (oe:=oe) (val:=val) (λp R J=>by
  obtain⟨t,x⟩:=p
  obtain⟨i,b,h0,E,F,G,I⟩:=f.p1 t x R
  cases hsk:sk i with
  |true =>
   have e:=(m t).1 ⟨i,b,E,F,hsk⟩
   have u:=T i hsk
   rw[I]at u
   show d06 st be oe c x.2 (val t)
   rw[u,e];exact rfl
  |false =>
  have y : ¬ ∃(i:Nat) (b:Oper),ops.toList[i]?=some b/\b.dst=some t/\sk i=true:=λ⟨k,ok,q,B,U⟩=>by
   grind
  have Z:(A i).2.1=true:=by
   have:=f.p3 i h0 h0
   rw[G,show x.1 = [] from J]at this
   exact(oJ this).symm
  grind) (λt z=>by
  have y : ¬ ∃(i:Nat) (b:Oper),ops.toList[i]?=some b/\b.dst=some t/\sk i=true:=λ⟨k,ok,q,B,U⟩=>by
   obtain⟨x,o⟩:=f.p2 k ok t (List.getElem?_eq_some_iff.1 q).1 q B
   exact z x (O04 o)
  rw[(m t).2 y]
  have O:Z2 (A4 ops.toList st.fr) t=Z2 st.fr t:=t01 λV Q L=>by
   obtain⟨i,l,e⟩:=List.getElem_of_mem Q
   obtain⟨x,o⟩:=f.p2 i V t l (by rw[List.getElem?_eq_getElem l,e]) L
   exact z x (O04 o)
  have:=W.fr t
  rw[O]at this
  exact I2.fr (st := { st with fr:=A4 ops.toList st.fr }) (fr:=st.fr) this) (N c S)
 grind
theorem b07:∀ {l:List Oper},Q0d l=true->∀ o∈l,∀ i w,o.guard=some (i,w)->c00 i o=true
 | [],h,o,a=>by cases a
 |y::r,h,o,a=>by
  simp only[Q0d,Bool.and_eq_true]at h
  rcases List.mem_cons.1 a with rfl|a
  ·grind
  ·exact b07 h.2 o a
theorem z0s{ops:Array Oper}{Q:Exit->Act->World->Prop}{Inv:Array Bool->Act->World->Prop}(hB:∀(k:Nat) (o:Oper),ops.toList[k]?=some o->∀ e∈o.after,Region.binds .any e=true->e.on<k)
  (hstep:∀ listed a w j o,ops[j]?=some o->(∀ e∈o.after,Region.binds .any e=true->listed.getD e.on false=true)->Inv listed a w ->
   (Region.wanted o (yielded ops a.tmps)=true->o.wp P a w (Inv (listed.setIfInBounds j true)) Q)/\(Region.wanted o (yielded ops a.tmps)=false->Inv (listed.setIfInBounds j true) (a.put o.dst undef) w))
  (hQ:∀ listed a w,(∀ j,j<ops.size->listed.getD j false=true)->Inv listed a w->Q .normal a w) :
  ∀(fuel:Nat) (listed:Array Bool) (a:Act) (w:World),listed.size=ops.size->listed.toList.count true+fuel=ops.size->Inv listed a w->wpAny P .any ops Q fuel listed a w
 |0,listed,a,w,hsz,hc,hi=>by
  have hall':∀ j,j<ops.size->listed.getD j false=true:=λj hj=>by
   have h1:∀ b∈listed.toList,true=b:=List.count_eq_length.1 (by grind)
   have hlt:j<listed.size:=by omega
   have:=h1 listed[j] (by simp)
   simp[hlt,←this]
  refine⟨?_,hQ listed a w hall' hi⟩
  simp_all[Region.ready,List.mem_cons_self,mem_ready,Array.getElem?_eq_some_iff]
 |fuel+1,listed,a,w,hsz,hc,hi=>by
  refine⟨λhr=>hQ listed a w (T0b hB hsz hr) hi,λj hj=>?_⟩
  obtain⟨h1,o,h2,h3⟩:=mem_ready.1 hj
  unfold wpOp
  simp only[h2]
  obtain⟨ht,hf⟩:=hstep listed a w j o h2 h3 hi
  have next:∀ a' w',Inv (listed.setIfInBounds j true) a' w'->wpAny P .any ops Q fuel (listed.setIfInBounds j true) a' w':=λa' w' hi'=>z0s hB hstep hQ fuel _ a' w' (by simpa using hsz) (by rw[count_set h1];omega) hi'
  cases hw:Region.wanted o (yielded ops a.tmps)with
  |true =>
   rw[if_pos rfl]
   exact .inl (Oper.wp_mono next (ht hw))
  |false =>
   grind
theorem i0r{ops:Array Oper}{Q:Exit->Act->World->Prop}{Inv:Array Bool->Act->World->Prop}(hB:∀(k:Nat) (o:Oper),ops.toList[k]?=some o->∀ e∈o.after,Region.binds .any e=true->e.on<k)
  (hstep:∀ listed a w j o,ops[j]?=some o->(∀ e∈o.after,Region.binds .any e=true->listed.getD e.on false=true)->Inv listed a w ->
   (Region.wanted o (yielded ops a.tmps)=true->o.wp P a w (Inv (listed.setIfInBounds j true)) Q)/\(Region.wanted o (yielded ops a.tmps)=false->Inv (listed.setIfInBounds j true) (a.put o.dst undef) w))
  (hQ:∀ listed a w,(∀ j,j<ops.size->listed.getD j false=true)->Inv listed a w->Q .normal a w) :
  ∀(l:List Oper) (k:Nat) (listed:Array Bool) (a:Act) (w:World),(∀ j,l[j]?=ops.toList[k+j]?)->k+l.length=ops.size->listed.size=ops.size->(∀ j,j<k->listed.getD j false=true)->Inv listed a w->wpList P ops Q l a w
 | [],k,listed,a,w,hl,hk,hsz,hp,hi=>hQ listed a w (λj hj=>hp j (by simp at hk;omega)) hi
 |o::l,k,listed,a,w,hl,hk,hsz,hp,hi=>by
  have ho:ops.toList[k]?=some o:=by simpa using (hl 0).symm
  have hl':∀ j,l[j]?=ops.toList[k+1+j]?:=λj=>by have:=hl (j+1);grind
  obtain⟨ht,hf⟩:=hstep listed a w k o (by simpa using ho) (λe he hb=>hp _ (hB k o ho e he hb)) hi
  have next:∀ a' w',Inv (listed.setIfInBounds k true) a' w'->wpList P ops Q l a' w':=λa' w' hi' =>
   i0r hB hstep hQ l (k+1) _ a' w' hl' (by grind) (by simpa using hsz) (λj hj=>by
    by_cases e:k=j
    ·subst e
     have:k<listed.size:=by grind
     simp[this]
    ·rw[getD_set_ne false e];exact hp j (by omega)) hi'
  unfold wpList
  cases hw:Region.wanted o (yielded ops a.tmps)with
  |true =>
   rw[if_pos rfl]
   exact .inl (Oper.wp_mono next (ht hw))
  |false =>
   grind
theorem r0j{ops:Array Oper}{st:St}{K:St->Hp->Prop}{Q:Exit->Act->World->Prop}(hb:k04 st.n ops.toList=true)(he:evU P ops.toList 0 [] [] st h K)
  (hQ:∀ a w st h be oe H,K st h->Sim P h0 w0 be oe H st h a w->Q .normal a w) :
  (∀ {be:Nat->Nat} {oe:Nat->Value} {H:Hp} {a:Act} {w:World},Sim P h0 w0 be oe H st h a w->wpAny P .any ops Q ops.size (Array.replicate ops.size false) a w) /\
  (∀ {be:Nat->Nat} {oe:Nat->Value} {H:Hp} {a:Act} {w:World},Sim P h0 w0 be oe H st h a w->wpList P ops Q ops.toList a w):=by
 simp only[k04,e03,Bool.and_eq_true]at hb
 obtain⟨⟨⟨b1,b2⟩,b3⟩,b4⟩:=hb
 obtain⟨hn,hD⟩:=i05 b1
 have hB:∀(k:Nat) (o:Oper),ops.toList[k]?=some o->∀ e∈o.after,Region.binds .any e=true->e.on<k:=λk o hk e he' hb=>by
  have:=d04 b2 k o hk e he' hb
  omega
 have hdep:=Z06 b3
 have hgd:=b07 b4
 obtain⟨A,Lf,Bf,_,_,hP,hall,hfin⟩:=z0e (ops:=ops.toList) hD ops.toList 0 [] [] (λ_=>([],true,.pu .dead)) (λj=>by simp) (by simp)
  ⟨λt x h=>(by cases h),λi oi d hi=>by omega,λi hi=>by omega,λx hx=>(by cases hx)⟩ he
 have step:∀ listed a w j o,ops[j]?=some o->(∀ e∈o.after,Region.binds .any e=true->listed.getD e.on false=true)->U09 P h0 w0 ops st h A (λ_=>false) [] listed a w ->
   (Region.wanted o (yielded ops a.tmps)=true->o.wp P a w (U09 P h0 w0 ops st h A (λ_=>false) [] (listed.setIfInBounds j true)) Q)/\(Region.wanted o (yielded ops a.tmps)=false->U09 P h0 w0 ops st h A (λ_=>false) [] (listed.setIfInBounds j true) (a.put o.dst undef) w) :=
  λlisted a w j o h1 h2 h3=>h0r hD hn hB hdep hgd hP (λj o ho=>hall j o (Nat.zero_le _) ho) rfl (λ_ _ _ _ _ h=>nomatch h) (λ_ h=>nomatch h) (λ_ hp=>nomatch hp) h1 h2 h3
 have done:∀ listed a w,(∀ j,j<ops.size->listed.getD j false=true)->U09 P h0 w0 ops st h A (λ_=>false) [] listed a w->Q .normal a w:=λlisted a w hl hi=>by
  obtain⟨be,oe,H,h',fr,hk,s,_,g⟩:=z0m (sk:=λ_=>false) (λ_ h=>nomatch h) hD hP hfin hl hi
  exact hQ a w _ h' be oe H hk (s.refr (fr:=fr) λt=>I2.fr (g t λ_ _ _ _=>rfl))
 refine⟨λs=>?_,λs=>?_⟩
 ·exact z0s hB step done ops.size _ _ _ (by simp) (by simp[List.count_replicate]) (U09.start s)
 ·exact i0r hB step done ops.toList 0 _ _ _ (λj=>by simp) (by simp) (by simp) (λj hj=>by omega) (U09.start s)
end
end Go.H
namespace Go.H
set_option linter.unusedVariables false
set_option linter.unusedSimpArgs false
def v04(H:Hp):List (Nat×Obj)->Hp
 | []=>H
 |p::l=>(v04 H l).set p.1 p.2
theorem e04{H:Hp}{b:Nat}:∀ {l:List (Nat×Obj)},(∀ p∈l,p.1≠b)->v04 H l b=H b
 | [],_=>rfl
 |p::l,h=>by
  rw[v04,Hp.set_other _ _ λe=>h p mS e.symm]
  exact e04 λq a=>h q (mC _ a)
theorem j05{H:Hp}:∀ {l:List (Nat×Obj)},(l.map λp=>p.1).Nodup->∀ {p:Nat×Obj},p∈l->v04 H l p.1=some p.2
 | [],_,p,h=>nomatch h
 |q::l,a,p,h=>by
  rw[List.map_cons,List.nodup_cons]at a
  rcases List.mem_cons.1 h with rfl|h
  ·exact Hp.set_same _ _ _
  ·rw[v04,Hp.set_other _ _ λe=>a.1 (List.mem_map.2 ⟨p,h,e⟩)]
   exact j05 a.2 h
theorem f08{H:Hp}{l:List (Nat×Obj)}(b:Nat):(∃ p∈l,p.1=b)∨∀ p∈l,p.1≠b:=by
 grind
theorem A0e{a H:Hp}{f w:World}{l:List (Nat×Obj)}(k:Vis (v04 a l) f)(i:∀ p∈l,a p.1=none/\p.1<f.heap.size)(g:(l.map λp=>p.1).Nodup)(m:T2 a f H w):
  T2 (v04 a l) f (v04 H l) w:=by
 refine⟨m.os,m.tape,m.output,m.size,λb e j=>?_,λb o c=>?_,λb e=>?_,m.fz,m.dn⟩
 ·rcases f08 (H:=a) (l:=l) b with⟨p,d,rfl⟩|c
  ·grind[j05]
  ·rw[e04 c]at j;exact m.keep b e j
 ·rcases f08 (H:=a) (l:=l) b with⟨p,d,rfl⟩|h
  ·rw[j05 g d]at c;cases c
   rw[m.keep p.1 (i p d).2 (i p d).1]
   exact k p.1 _ (j05 g d)
  ·rw[e04 h]at c;exact m.vis b o c
 ·rcases f08 (H:=a) (l:=l) b with⟨p,d,rfl⟩|h
  ·grind[j05]
  ·rw[e04 h]at e ⊢
   exact m.fresh b e
section
variable {P:Program} {h0:Hp} {w0:World} {be:Nat->Nat} {oe:Nat->Value} {H:Hp} {h:Hp} {a:Act} {w:World}
theorem Sim.base{st:St}(b:Sim P h0 w0 be oe H st h a w){c:Hp}{e d:World}(m:T2 c e H d):Sim P c e be oe H st h a d :=
 ⟨m,b.sub,b.box,b.pub,b.own,b.frz,b.bb,b.oo,b.bo,b.dfr,b.siz,b.fr⟩
theorem Sim.more{st:St}(c:Sim P h0 w0 be oe H st h a w){l:List (Nat×Obj)}(v:∀ p∈l,H p.1=none){j:Hp}{n:World}(m:T2 j n (v04 H l) w):Sim P j n be oe (v04 H l) st h a w:=by
 have keep:∀ b,H b≠none->v04 H l b=H b:=λb d=>e04 λp x e=>d (by grind)
 refine⟨m,λb o d=>by rw[keep b (by rw[c.sub b o d];simp)];exact c.sub b o d,λi cs ty f=>?_,c.pub,λi k e sz by_ nn xs f=>?_,c.frz,c.bb,c.oo,c.bo,c.dfr,c.siz,c.fr⟩
 ·obtain⟨s,vs,t,u⟩:=c.box i cs ty f
  grind
 ·refine(c.own i k e sz by_ nn xs f).keep λg q=>?_
  obtain⟨y,_,_,_,z⟩:=(c.own i k e sz by_ nn xs f).block q
  grind
theorem Sim.claim{st:St}(c:Sim P h0 w0 be oe H st h a w){cs:List S5}{vs:List Value}{t:TypeId}{b:Nat}(D:D2 st oe cs vs)(C:H b=some (.cells vs.toArray t (0,0)))(E:h b=none)
  (J:∀ i cs ty,nth st.bx i=some (.live cs ty)->be i≠b) (K:∀ i s e sz by_ nn xs g,nth st.ow i=some ⟨s,.live e sz by_ nn xs⟩->(oe i).ownBlock=some g->g≠b) :
  let be':=λj=>if j=st.bx.length then b else be j
  let st':St := { st with bx:=st.bx ++ [.live cs t] }
  Sim P h0 w0 be' oe H st' h a w/\a7 st be oe st' be' oe:=by
 intro be' st'
 have l:a7 st be oe st' be' oe:=by
  refine⟨by simp[st'],λi d=>?_,λi c F=>⟨c,F,Nat.le_refl _,λ_=>rfl⟩⟩
  grind
 have m:∀ i cs ty,nth st.bx i=some (.live cs ty)->be' i=be i:=λi cs ty d=>by simp[be',Nat.ne_of_lt (Z01 d)]
 have k:∀ i x,nth st'.bx i=some x->(i=st.bx.length/\x = .live cs t)∨(i≠st.bx.length/\nth st.bx i=some x):=by
  grind[V02]
 refine⟨⟨c.mv,c.sub,?_,?_,c.own,c.frz,?_,c.oo,?_,c.dfr,c.siz,λt=>(c.fr t).grow l⟩,l⟩
 ·intro i cs' ty d
  rcases k i _ d with⟨rfl,e⟩|⟨e,f⟩
  ·cases e
   exact⟨by simp[be',E],vs,D.grow l,by simp[be',C]⟩
  ·obtain⟨z,I,A,B⟩:=c.box i cs' ty f
   rw[m i cs' ty f]
   exact⟨z,I,A.grow l,B⟩
 ·intro i u d
  rcases k i _ d with⟨_,e⟩|⟨e,f⟩
  ·cases e
  ·simp[be',e,c.pub i u f]
 ·intro i j v G L M d o e
  rcases k i _ d with⟨rfl,n⟩|⟨n,f⟩<;>rcases k j _ o with⟨rfl,y⟩|⟨y,q⟩
  ·rfl
  ·grind
  ·grind
  ·rw[m i _ _ f,m j _ _ q]at e;exact c.bb i j _ _ _ _ f q e
 ·intro i v G j s e sz by_ nn xs d o p
  rcases k i _ d with⟨rfl,n⟩|⟨n,f⟩
  ·grind
  ·rw[m i _ _ f]at p;exact c.bo i _ _ j _ _ _ _ _ _ f o p
def O0a(a:Act)(d:Nat):Nat:=match a.tmps.getD d undef with
 | .pointer (some ⟨b,_,_⟩)=>b
 |_=>0
theorem z06{a:Act}{d b:Nat}(e:a.tmps.getD d undef=ptr b 0):O0a a d=b:=by
 unfold O0a;rw[e];rfl
def J0s(P:Program)(H h:Hp)(a:Act)(n:Nat)(o:Oper):Prop:=Z04 o=true->∃ d t z,o.op = .alloc t/\o.dst=some d/\d<n/\y01 P t=some z/\a.tmps.getD d undef=ptr (O0a a d) 0/\H (O0a a d)=some (.cells z.cells t (0,0))/\h (O0a a d)=none
def K0s(a:Act)(o c:Oper):Prop:=Z04 o=true->Z04 c=true->∀ d b,o.dst=some d->c.dst=some b->O0a a d≠O0a a b
theorem c0i{st:St}{h:Hp}{d:Nat}:R07 ⟨st,h,[],[]⟩ d=false:=rfl
theorem l0l{K:St->Hp->Prop}{fd:List (Nat×AV)}:∀(l:List Oper) (st:St) (be:Nat->Nat),Sim P h0 w0 be oe H { st with fr:=fd } h a w ->
  (∀ t,(∀ o∈l,Z04 o=true->o.dst≠some t)->I2 st be oe (Z2 st.fr t) (a.tmps.getD t undef))->(∀ o∈l,J0s P H h a st.n o)->l.Pairwise (K0s a) ->
  (∀ i cs ty,nth st.bx i=some (.live cs ty)->∀ o∈l,Z04 o=true->∀ d,o.dst=some d->be i≠O0a a d) ->
  (∀ i k e sz by_ nn xs g,nth st.ow i=some ⟨k,.live e sz by_ nn xs⟩->(oe i).ownBlock=some g->∀ o∈l,Z04 o=true->∀ d,o.dst=some d->g≠O0a a d) ->
  doA (s04 P) l st h K->∃ st' be',K st' h/\Sim P h0 w0 be' oe H st' h a w
 | [],st,be,x,q,_,_,_,_,j=>⟨st,be,j,x.refr (fr:=st.fr) λt=>I2.fr (st:=st) (q t λo p=>nomatch p)⟩
 |o::l,st,be,x,q,y,s,A,p,j=>by
  rw[List.pairwise_cons]at s
  have j:(match Z04 o with
   |true=>s04 P o st h λst h=>doA (s04 P) l st h K
   |false=>doA (s04 P) l st h K):=j
  cases hal:Z04 o with
  |false =>
   rw[hal]at j
   exact l0l l st be x (λt T=>q t λc b F=>by
    grind) (λc b=>y c (mC _ b)) s.2 (λi cs ty f c b=>A i cs ty f c (mC _ b)) (λi k e sz by_ nn xs g f m c b=>p i k e sz by_ nn xs g f m c (mC _ b)) j
  |true =>
   rw[hal]at j
   obtain⟨d,t,z,N,v,V,O,Q,B,R⟩:=y o mS hal
   simp only[s04,Z8,N,O,H0b,v,d0e,c0i]at j
   have J:Nat.blt d (st.withBx (st.bx ++ [.live (vals z.cells.toList) t])).n=true:=by
    grind
   simp only[J]at j
   obtain⟨n,fr,bx,ow⟩:=st
   have M:doA (s04 P) l ⟨n,(d,.box bx.length 0)::fr,bx ++ [.live (vals z.cells.toList) t],ow⟩ h K:=j
   have I:z.cells=z.cells.toList.toArray:=by simp
   rw[I]at B
   obtain⟨s2,E⟩:=x.claim (D2.vals _ oe _) B R (λi cs ty f=>A i cs ty f o mS hal d v) (λi k e sz by_ nn xs g f m=>p i k e sz by_ nn xs g f m o mS hal d v)
   refine l0l l ⟨n,(d,.box bx.length 0)::fr,bx ++ [.live (vals z.cells.toList) t],ow⟩ _ s2 (λu U=>?_) (λc b=>y c (mC _ b)) s.2 (λi cs ty f c b G C L=>?_) (λi k e sz by_ nn xs g f m c b=>p i k e sz by_ nn xs g f m c (mC _ b)) M
   ·show I2 _ _ _ (Z2 ((d,.box bx.length 0)::fr) u) _
    rw[Z3]
    split
    ·rename_i e
     subst e
     refine⟨by simp,?_⟩
     rw[Q];simp
    ·rename_i e
     have D:=q u λc b F S=>by
      grind
     exact I2.fr (st:=⟨n,fd,bx ++ [.live (vals z.cells.toList) t],ow⟩) (I2.grow E (I2.fr (st:=⟨n,fr,bx,ow⟩) (fr:=fd) D))
   ·simp only[V02]at f
    split at f
    ·rename_i e
     subst e
     simp only[if_pos]
     exact s.1 c b hal G d C v L
    grind
theorem K05{d:Nat}:∀ {l:List Operand},V07 d l=false->Operand.tmp d ∉ l
 | [],_,h=>nomatch h
 |x::r,a,h=>by
  rcases List.mem_cons.1 h with e|b
  ·subst e
   simp[V07]at a
  ·cases x<;>simp only[V07,Bool.or_eq_false_iff]at a
   ·exact K05 a.2 b
   all_goals exact K05 a b
theorem Z0c{d:Nat}:∀ {l:List Oper},h0e d l=false->∀ o∈l,Operand.tmp d ∉ o.op.operands
 | [],_,o,h=>nomatch h
 |y::r,a,o,h=>by
  simp only[h0e,Bool.or_eq_false_iff]at a
  rcases List.mem_cons.1 h with rfl|h
  ·exact λb=>K05 a.1 (by simpa using b)
  ·exact Z0c a.2 o h
theorem s0j{all:List Oper}:∀ {l:List Oper},okA P all l=true->∀ o∈l,Z04 o=true->∃ t d z,o.op = .alloc t/\o.guard=none/\o.dst=some d/\y01 P t=some z/\∀ c∈all,Operand.tmp d ∉ c.op.operands
 | [],_,o,h,_=>nomatch h
 |y::r,a,o,h,b=>by
  simp only[okA,Bool.and_eq_true]at a
  rcases List.mem_cons.1 h with rfl|h
  ·grind[Z04,Z0c]
  ·exact s0j a.2 o h b
theorem t0j{o:Oper}(h:Z04 o=false):B00 o=o:=by
 grind[B00,Z04]
theorem C8(o:Oper):(B00 o).dst=o.dst:=by unfold B00;split<;>rfl
theorem u0j(o:Oper):(B00 o).after=o.after:=by unfold B00;split<;>rfl
theorem v0j(o:Oper):(B00 o).guard=o.guard:=by unfold B00;split<;>rfl
theorem D8:∀(l:List Oper) (i:Nat),(Q5 l)[i]?=(l[i]?).map B00
 | [],i=>by simp[Q5]
 |o::r,0=>by simp[Q5]
 |o::r,i+1=>by simp[Q5,D8 r i]
theorem C0g:∀(l:List Oper),(Q5 l).length=l.length
 | []=>rfl
 |o::r=>by simp[Q5,C0g r]
theorem w0j{o:Oper}{d:Nat}(h:Operand.tmp d∈(B00 o).op.operands):Operand.tmp d∈o.op.operands:=by
 grind[Z04,t0j,B00,Op.operands]
abbrev L0s:=List (Nat×Nat×Obj)
def skA(a:List Oper)(i:Nat):Bool:=match a[i]? with
 |some o=>Z04 o
 |none=>false
def Y0b(P:Program)(h0:Hp)(w0:World)(e:List Oper)(st:St)(h:Hp)(A:Asg)(listed:Array Bool)(a:Act)(w:World):Prop :=
 ∃(c:L0s) (f:Hp) (g:World),T2 h0 w0 (v04 f (c.map λp=>p.2)) g/\(∀ p∈c,f p.2.1=none/\p.2.1<g.heap.size)/\((c.map λp=>p.2).map λp=>p.1).Nodup /\
  U09 P f g (Q5 e).toArray st h A (skA e) (c.map λp=>(p.1,ptr p.2.1 0)) listed a w /\
  (∀(j:Nat) (o:Oper) t d z,e[j]?=some o->o.op = .alloc t->o.dst=some d->y01 P t=some z->listed.getD j false=true->∃ b,(d,b,Obj.cells z.cells t (0,0))∈c) /\
  ∀ p∈c,∃(j:Nat) (o:Oper),e[j]?=some o/\Z04 o=true/\o.dst=some p.1/\listed.getD j false=true
theorem Y0b.start{f:List Oper}{st:St}{A:Asg}{N:Nat}(g:Sim P h0 w0 be oe H st h a w):Y0b P h0 w0 f st h A (Array.replicate N false) a w:=by
 refine⟨[],H,w,g.mv,λp b=>(by cases b),by simp,?_,λj o t d z _ _ _ _ e=>?_,λp b=>(by cases b)⟩
 ·have l:Sim P H w be oe H st h a w:=g.base (T2.refl g.mv.vis)
  refine⟨be,oe,H,h,λ_ _ h=>h,l.refr (fr:=A4 (Q5 f) st.fr) λt=>?_,λp b=>(by cases b),λj o d _ i k c=>?_⟩
  ·by_cases hx:∃ o∈Q5 f,o.dst=some t
   ·obtain⟨o,i,k⟩:=hx
    rw[E02 i k]
    trivial
   ·rw[t01 λo n m=>hx ⟨o,n,m⟩]
    exact l.fr t
  ·simp[Array.getElem?_replicate]at c
   split at c<;>cases c
 ·simp[Array.getElem?_replicate]at e
  split at e<;>cases e
theorem j0r{f:List Oper}{st:St}{A:Asg}{ar:FL}{Y:List BE}{listed:Array Bool}{j:Nat}{o:Oper}{Q:Exit->Act->World->Prop}
  (ac:∀(i j:Nat) (l ao:Oper) (d:Nat),(Q5 f)[i]?=some l->(Q5 f)[j]?=some ao->l.dst=some d->ao.dst=some d->i=j)
  (ad:∀ o∈Q5 f,∀ d,o.dst=some d->d<st.n)
  (az:∀(k:Nat) (o:Oper),(Q5 f)[k]?=some o->∀ e∈o.after,Region.binds .any e=true->e.on<k)
  (aF:∀ o∈Q5 f,∀ t,Operand.tmp t∈o.op.operands->∀(i:Nat) (l:Oper),(Q5 f)[i]?=some l->l.dst=some t->∃ e∈o.after,Region.binds .any e=true/\e.on=i)
  (aG:∀ o∈Q5 f,∀ i w,o.guard=some (i,w)->c00 i o=true)
  (aA:j0g (Q5 f) A ar Y (Q5 f).length)
  (aC:∀ j o,(Q5 f)[j]?=some o->∃ Z I,o00 Y o.guard=some (A j).1/\j0g (Q5 f) A Z I j/\n09 I Y/\cB I (A j).1=some (A j).2.1/\(OpU P st h Z I o (A j).1 (A j).2.1 (A j).2.2/\∀ av,v09 P Z I (A j).1 o st=some av->(A j).2.2 = .pu av))
  (aT:∀(i:Nat) (l:Oper) (d:Nat),(Q5 f)[i]?=some l->l.dst=some d->skA f i=true->∀ af∈Q5 f,Operand.tmp d ∉ af.op.operands)
  (aR:∀ i,skA f i=true->(A i).2.2 = .pu (.val undef)) (aB:∀ o∈f,Z04 o=true->∃ t d z,o.op = .alloc t/\o.guard=none/\o.dst=some d/\y01 P t=some z/\∀ af∈f,Operand.tmp d ∉ af.op.operands)
  (a5:listed.getD j true=false)
  (J:f[j]?=some o) (aP:∀ e∈o.after,Region.binds .any e=true->listed.getD e.on false=true) (aH:Y0b P h0 w0 f st h A listed a w) :
  (Region.wanted o (yielded (Q5 f).toArray a.tmps)=true->o.wp P a w (Y0b P h0 w0 f st h A (listed.setIfInBounds j true)) Q) /\
  (Region.wanted o (yielded (Q5 f).toArray a.tmps)=false->Y0b P h0 w0 f st h A (listed.setIfInBounds j true) (a.put o.dst undef) w):=by
 obtain⟨s,S,X,ae,K,V,am,ai,ab⟩:=aH
 have aN:o∈f:=List.mem_of_getElem? J
 have G:(Q5 f)[j]?=some (B00 o):=by rw[D8,J];rfl
 have aL:listed.getD j false=false:=by
  grind
 have aK:j<listed.size:=by
  grind
 have ay:∀ p∈s,∃(i:Nat) (l:Oper),(Q5 f)[i]?=some l/\l.dst=some p.1/\skA f i=true:=λp c=>by
  obtain⟨i,l,m,C,y,_⟩:=ab p c
  exact⟨i,B00 l,by rw[D8,m];rfl,by rw[C8];exact y,by unfold skA;rw[m];exact C⟩
 cases hisa:Z04 o with
 |false =>
  have aJ:=t0j hisa
  rw[aJ]at G
  have aS:skA f j=false:=by unfold skA;rw[J];exact hisa
  have up:∀ aa D,U09 P S X (Q5 f).toArray st h A (skA f) (s.map λp=>(p.1,ptr p.2.1 0)) (listed.setIfInBounds j true) aa D->Y0b P h0 w0 f st h A (listed.setIfInBounds j true) aa D:=λaa D aX=>by
   refine⟨s,S,X,ae,K,V,aX,λi l t d z m C y F N=>?_,λp c=>?_⟩
   ·by_cases e:j=i
    ·grind[Z04]
    ·rw[getD_set_ne false e]at N
     exact ai i l t d z m C y F N
   grind[getD_set_true]
  have ba:=h0r (P:=P) (h0:=S) (w0:=X) (ops:=(Q5 f).toArray) (Q:=Q) (sk:=skA f) (kp:=s.map λp=>(p.1,ptr p.2.1 0)) (by simpa using ac) (by simpa using ad) (by simpa using az) (by simpa using aF) (by simpa using aG) (by simpa using aA) (by simpa using aC) aS (by simpa using aT) aR (λp c=>by
   obtain⟨q,B,rfl⟩:=List.mem_map.1 c
   simpa using ay q B) (by simpa using G) aP am
  grind[Oper.wp_mono]
 |true =>
  obtain⟨t,d,z,aY,aZ,E,a0,a6⟩:=aB o aN hisa
  refine⟨λ_=>?_,λL=>?_⟩
  rotate_left
  ·unfold Region.wanted at L;rw[aZ]at L;cases L
  obtain⟨be,oe,H,R,aQ,O,keep,ax⟩:=am
  have an:T2 h0 w0 (v04 H (s.map λp=>p.2)) w:=ae.trans (A0e ae.vis (λp c=>by
   obtain⟨q,B,rfl⟩:=List.mem_map.1 c
   exact K q B) V O.mv)
  have ah:∀ p∈s,H p.2.1=none:=λp c=>O.mv.none_of (K p c).2 (K p c).1
  have L:wpS P (execOp a.eval o) (v04 H (s.map λp=>p.2)) (λn ag=>∃ b,v04 H (s.map λp=>p.2) b=none/\n = .value (ptr b 0)/\ag=(v04 H (s.map λp=>p.2)).set b (.cells z.cells t (0,0))):=by
   unfold execOp;rw[aY]
   refine z8 _ _ _ ?_
   simp only[Instr.alloc,newVar,newRow,newObj,M2,H0a a0,U2,wpS]
   exact λb T=>⟨b,T,rfl,rfl⟩
  obtain⟨n,ag,D,aO,⟨b,T,rfl,rfl⟩,U⟩:=v00 _ _ _ an.vis L
  refine t8 aO ?_
  have ak:∀ p∈s,p.2.1≠b:=λp c e=>by
   have:=j05 (H:=H) V (List.mem_map.2 ⟨p,c,rfl⟩)
   rw[e,T]at this;cases this
  have aj:H b=none:=by
   rw[←T,e04]
   intro p c
   obtain⟨q,B,rfl⟩:=List.mem_map.1 c
   exact ak q B
  have aW:Vis H D:=λx a1 M=>by
   refine U.vis x a1 ?_
   rw[Hp.set_other _ _ λe=>by subst e;rw[aj]at M;cases M]
   rw[e04]
   ·exact M
   ·intro p c e
    obtain⟨q,B,rfl⟩:=List.mem_map.1 c
    rw[←e,ah q B]at M;cases M
  have aM:d<a.tmps.size:=by rw[O.siz];exact ad (B00 o) (List.mem_of_getElem? G) d (by rw[C8];exact E)
  have a4:(a.put o.dst (ptr b 0)).tmps.getD d undef=ptr b 0:=by rw[E];simp[Act.put,aM]
  have aq:∀ u,u≠d->(a.put o.dst (ptr b 0)).tmps.getD u undef=a.tmps.getD u undef:=λu aU=>by
   rw[E];simp[Act.put,Array.getElem?_setIfInBounds_ne (Ne.symm aU)]
  have a2:∀ p∈s,p.1≠d:=λp c e=>by
   obtain⟨i,l,m,C,y,F⟩:=ab p c
   have:=ac i j (B00 l) (B00 o) d (by rw[D8,m];rfl) G (by rw[C8,y,e]) (by rw[C8];exact E)
   subst this
   rw[aL]at F;cases F
  have s1:Sim P H D be oe H { st with fr:=A4 (Q5 f) st.fr } R a D:=(by simpa using O:Sim P S X be oe H { st with fr:=A4 (Q5 f) st.fr } R a w).base (T2.refl aW)
  have s2:Sim P H D be oe H { st with fr:=A4 (Q5 f) st.fr } R (a.put o.dst (ptr b 0)) D:=by
   have c:=s1.put (d:=d) (av := .dead) (v:=ptr b 0) (ad (B00 o) (List.mem_of_getElem? G) d (by rw[C8];exact E)) trivial
   rw[E]
   refine c.refr (fr:=A4 (Q5 f) st.fr) λu=>?_
   have g:=c.fr u
   rw[Z3]at g
   split at g
   ·rename_i e
    subst e
    rw[E02 (List.mem_of_getElem? G) (by rw[C8];exact E)]
    trivial
   ·exact g
  refine⟨(d,b,.cells z.cells t (0,0))::s,H,D,?_,λp c=>?_,?_,⟨be,oe,H,R,aQ,by simpa using s2,λp c=>?_,λi l u W m C y=>?_⟩,λi l a3 aw z' m C y F N=>?_,λp c=>?_⟩
  ·exact an.trans U
  ·rcases List.mem_cons.1 c with rfl|c
   ·exact⟨aj,U.vis.lt (by rw[Hp.set_same];simp)⟩
   ·exact⟨ah p c,Nat.lt_of_lt_of_le (K p c).2 (Nat.le_trans O.mv.size U.size)⟩
  ·rw[List.map_cons,List.map_cons,List.nodup_cons]
   refine⟨λaE=>?_,V⟩
   obtain⟨q,B,e⟩:=List.mem_map.1 aE
   obtain⟨p,c,rfl⟩:=List.mem_map.1 B
   exact ak p c e
  ·rw[List.map_cons]at c
   rcases List.mem_cons.1 c with rfl|c
   ·exact a4
   ·obtain⟨q,B,rfl⟩:=List.mem_map.1 c
    rw[aq _ (a2 q B)]
    exact keep _ c
  ·have al:j≠i:=λe=>by
    subst e
    have ap:Z04 o=false:=by unfold skA at W;rw[J]at W;exact W
    rw[hisa]at ap;cases ap
   rw[getD_set_ne false al]at y
   have aV:u≠d:=λe=>by
    subst e
    exact al (ac j i (B00 o) l u G (by simpa using m) (by rw[C8];exact E) C)
   rw[aq u aV]
   exact ax i l u W m C y
  ·by_cases e:j=i
   ·grind[List.mem_cons_self]
   ·rw[getD_set_ne false e]at N
    obtain⟨au,aD⟩:=ai i l a3 aw z' m C y F N
    exact⟨au,mC _ aD⟩
  ·rcases List.mem_cons.1 c with rfl|c
   ·exact⟨j,o,J,hisa,E,by simp[aK]⟩
   ·obtain⟨i,l,m,C,y,F⟩:=ab p c
    exact⟨i,l,m,C,y,getD_set_true F⟩
theorem D0g{a m:Type}{f:a->m}:∀ {l:List a},(l.map f).Nodup->∀ {p q:a},p∈l->q∈l->f p=f q->p=q
 | [],_,p,q,h,_,_=>nomatch h
 |x::l,b,p,q,g,j,e=>by
  rw[List.map_cons,List.nodup_cons]at b
  rcases List.mem_cons.1 g with c|i<;>rcases List.mem_cons.1 j with d|k
  ·rw[c,d]
  ·grind
  ·grind
  ·exact D0g b.2 i k e
theorem B0q{c:List Oper}{st:St}{A:Asg}{U:FL}{ac:List BE}{K:St->Hp->Prop}{listed:Array Bool}
  (W:∀(i j:Nat) (M ab:Oper) (d:Nat),(Q5 c)[i]?=some M->(Q5 c)[j]?=some ab->M.dst=some d->ab.dst=some d->i=j)
  (an:∀ o∈Q5 c,∀ d,o.dst=some d->d<st.n)
  (ap:∀ i,skA c i=true->(A i).2.2 = .pu (.val undef)) (aj:∀ o∈c,Z04 o=true->∃ t d z,o.op = .alloc t/\o.guard=none/\o.dst=some d/\y01 P t=some z/\∀ au∈c,Operand.tmp d ∉ au.op.operands)
  (ah:j0g (Q5 c) A U ac (Q5 c).length) (ak:∀ m,Sub h m->e0g m U st.fr λfr=>doA (s04 P) c { st with fr:=fr } m K) (Y:∀ j,j<c.length->listed.getD j false=true)
  (B:Y0b P h0 w0 c st h A listed a w):∃ st' m be oe H,K st' m/\Sim P h0 w0 be oe H st' m a w:=by
 obtain⟨N,aC,aJ,aa,Z,S,aq,ag,aD⟩:=B
 obtain⟨be,oe,H,m,fr,am,E,keep,g⟩:=z0m (K:=λst h=>doA (s04 P) c st h K) (ops:=(Q5 c).toArray) ap (by simpa using W) (by simpa using ah) ak (λj u=>Y j (by simpa [C0g] using u)) aq
 have ar:T2 h0 w0 (v04 H (N.map λp=>p.2)) w:=aa.trans (A0e aa.vis (λp J=>by
  grind) S E.mv)
 have Q:∀ p∈N,H p.2.1=none:=λp J=>E.mv.none_of (Z p J).2 (Z p J).1
 have ax:=E.more (l:=N.map λp=>p.2) (λp J=>by
  grind) ar
 have F:∀ o∈c,Z04 o=true->∃ t d z b,o.op = .alloc t/\o.dst=some d/\y01 P t=some z/\(d,b,Obj.cells z.cells t (0,0))∈N/\a.tmps.getD d undef=ptr b 0:=λo v s=>by
  obtain⟨t,d,z,C,q,D,k,x⟩:=aj o v s
  obtain⟨j,u⟩:=List.getElem?_of_mem v
  obtain⟨b,I⟩:=ag j o t d z u C D k (Y j (List.getElem?_eq_some_iff.1 u).1)
  exact⟨t,d,z,b,C,D,k,I,keep _ (List.mem_map.2 ⟨_,I,rfl⟩)⟩
 have ao:∀ b,H b=none->m b=none:=λb I=>by
  cases e:m b with
  |none=>rfl
  |some o=>rw[E.sub b o e]at I;cases I
 refine(l0l (K:=K) (fd:=A4 (Q5 c).toArray.toList st.fr) c { st with fr:=fr } be ax (λt aF=>?_) (λo v s=>?_) ?_ (λi cs ty B o v s d y=>?_) (λi ay e sz by_ nn xs aB B al o v s d y=>?_) am).elim λst' L=>L.elim λbe' L=>⟨st',m,be',oe,_,L.1,L.2⟩
 ·refine I2.fr (st:=st) (fr:=fr) (g t λi M O T=>?_)
  have O:(Q5 c)[i]?=some M:=by simpa using O
  rw[D8]at O
  grind[Z04,skA,absurd,C8,List.mem_of_getElem?]
 ·obtain⟨t,d,z,b,C,q,D,k,x⟩:=F o v s
  have R:=z06 x
  obtain⟨j,u⟩:=List.getElem?_of_mem v
  refine⟨d,t,z,C,q,an (B00 o) (List.mem_of_getElem? (i:=j) (by rw[D8,u];rfl)) d (by rw[C8];exact q),D,by rw[R];exact x,by rw[R];exact j05 S (List.mem_map.2 ⟨_,k,rfl⟩),by rw[R];exact ao b (Q _ k)⟩
 ·rw[List.pairwise_iff_getElem]
  intro i j B u aE s ai d ad y X e
  obtain⟨t,V,z,b,C,q,D,k,x⟩:=F _ (List.getElem_mem B) s
  obtain⟨aH,aA,z',az,O,T,aG,av,aw⟩:=F _ (List.getElem_mem u) ai
  rw[q]at y;cases y
  rw[T]at X;cases X
  rw[z06 x,z06 aw]at e
  subst e
  have:=D0g (f:=λp:Nat×Nat×Obj=>p.2.1) (by have:=S;rw[List.map_map]at this;exact this) k av rfl
  have af:d=ad:=congrArg Prod.fst this
  subst af
  have:=W i j (B00 c[i]) (B00 c[j]) d (by rw[D8,List.getElem?_eq_getElem B];rfl) (by rw[D8,List.getElem?_eq_getElem u];rfl) (by rw[C8];exact q) (by rw[C8];exact T)
  omega
 ·obtain⟨t,V,z,b,C,q,D,k,x⟩:=F o v s
  rw[q]at y;cases y
  rw[z06 x]
  intro e
  obtain⟨_,vs,_,G⟩:=E.box i cs ty B
  rw[e,Q _ k]at G;cases G
 ·obtain⟨t,V,z,b,C,q,D,k,x⟩:=F o v s
  rw[q]at y;cases y
  rw[z06 x]
  intro ae
  obtain⟨_,_,_,_,G⟩:=(E.own i ay e sz by_ nn xs B).block al
  rw[ae,Q _ k]at G;cases G
theorem A0s{ops:Array Oper}{Q:Exit->Act->World->Prop}{Inv:Array Bool->Act->World->Prop}(hB:∀(k:Nat) (o:Oper),ops.toList[k]?=some o->∀ e∈o.after,Region.binds .any e=true->e.on<k)
  (hstep:∀ listed a w j o,listed.size=ops.size->listed.getD j true=false->ops[j]?=some o->(∀ e∈o.after,Region.binds .any e=true->listed.getD e.on false=true)->Inv listed a w ->
   (Region.wanted o (yielded ops a.tmps)=true->o.wp P a w (Inv (listed.setIfInBounds j true)) Q)/\(Region.wanted o (yielded ops a.tmps)=false->Inv (listed.setIfInBounds j true) (a.put o.dst undef) w))
  (hQ:∀ listed a w,(∀ j,j<ops.size->listed.getD j false=true)->Inv listed a w->Q .normal a w) :
  ∀(fuel:Nat) (listed:Array Bool) (a:Act) (w:World),listed.size=ops.size->listed.toList.count true+fuel=ops.size->Inv listed a w->wpAny P .any ops Q fuel listed a w
 |0,listed,a,w,hsz,hc,hi=>by
  have hall':∀ j,j<ops.size->listed.getD j false=true:=λj hj=>by
   have h1:∀ b∈listed.toList,true=b:=List.count_eq_length.1 (by grind)
   have hlt:j<listed.size:=by omega
   have:=h1 listed[j] (by simp)
   simp[hlt,←this]
  refine⟨?_,hQ listed a w hall' hi⟩
  cases hr:Region.ready .any ops listed with
  |nil=>rfl
  |cons j r =>
   grind[Region.ready,List.mem_cons_self,mem_ready,Array.getElem?_eq_some_iff]
 |fuel+1,listed,a,w,hsz,hc,hi=>by
  refine⟨λhr=>hQ listed a w (T0b hB hsz hr) hi,λj hj=>?_⟩
  obtain⟨h1,o,h2,h3⟩:=mem_ready.1 hj
  unfold wpOp
  simp only[h2]
  obtain⟨ht,hf⟩:=hstep listed a w j o hsz h1 h2 h3 hi
  have next:∀ a' w',Inv (listed.setIfInBounds j true) a' w'->wpAny P .any ops Q fuel (listed.setIfInBounds j true) a' w':=λa' w' hi'=>A0s hB hstep hQ fuel _ a' w' (by simpa using hsz) (by rw[count_set h1];omega) hi'
  cases hw:Region.wanted o (yielded ops a.tmps)with
  |true =>
   rw[if_pos rfl]
   exact .inl (Oper.wp_mono next (ht hw))
  |false =>
   grind
theorem Z0b{x:Nat}:∀ {l:List Nat},e0l x l=true↔x∈l
 | []=>by simp[e0l]
 |y::r=>by
  simp only[e0l,Bool.or_eq_true,List.mem_cons,Z0b (l:=r)]
  simp_all
theorem E0g{ops:List Oper}{i:Nat}:∀ {l:List Nat},x0a ops i l=true->∃ j o,j∈l/\ops[j]?=some o/\c00 i o=true
 | [],h=>by cases h
 |j::r,h=>by
  simp only[x0a,Bool.or_eq_true]at h
  rcases h with h|h
  ·grind[b05,List.mem_cons_self]
  ·obtain⟨c,o,a,b⟩:=E0g h
   grind
theorem V09{ops:List Oper}{G:Nat->Prop}(a:∀ i j o,G j->ops[j]?=some o->c00 i o=true->G i):∀(n:Nat) (acc:List Nat),(∀ j∈acc,G j)->∀ i∈s0g ops n acc,G i
 |0,acc,h=>h
 |n+1,acc,h=>by
  unfold s0g
  split
  ·rename_i b
   obtain⟨j,o,c,d,e⟩:=E0g b
   exact V09 a n _ λi f=>by
    grind
  ·exact V09 a n acc h
theorem W09{d:Nat}:∀ {l:List Oper},x09 d l=false->∀ o∈l,o.dst≠some d
 | [],_,o,h=>nomatch h
 |y::r,a,o,h=>by
  simp only[x09,Bool.or_eq_false_iff]at a
  rcases List.mem_cons.1 h with rfl|h
  ·intro b
   simp_all
  ·exact W09 a.2 o h
theorem f06{b:List Nat}{t:Nat}:∀ {l:List Oper} {k:Nat},a05 b t l k=true->∀(i:Nat) (o:Oper),l[i]?=some o->o.dst=some t->k+i∈b
 | [],k,_,i,o,h,_=>by simp at h
 |y::r,k,a,i,o,h,c=>by
  simp only[a05,Bool.and_eq_true]at a
  cases i with
  |zero =>
   simp_all[Z0b]
  |succ i =>
   have:=f06 a.2 i o (by simpa using h) c
   grind
theorem E09{i d:Nat}:∀ {l:List Oper},q06 i d l=true->∀ o∈l,Operand.tmp d∈o.op.operands->c00 i o=true
 | [],_,o,h,_=>nomatch h
 |y::r,b,o,h,c=>by
  simp only[q06,Bool.and_eq_true,Bool.or_eq_true]at b
  rcases List.mem_cons.1 h with rfl|h
  ·rcases b.1 with a|a
   ·have e:V07 d o.op.operands.toList=false:=by simpa using a
    exact absurd (show Operand.tmp d∈o.op.operands.toList by simpa using c) (K05 e)
   ·exact a
  ·exact E09 b.2 o h c
theorem B0e:∀ {l:List Oper},X0i l=true->∀ o∈l,P0c o.op=false
 | [],_,o,h=>nomatch h
 |y::r,a,o,h=>by
  simp only[X0i,Bool.and_eq_true]at a
  rcases List.mem_cons.1 h with rfl|h
  ·simpa using a.1
  ·exact B0e a.2 o h
def u03(o:Oper)(f:Operand->Value):Option Value:=match o.op with
 | .extract x k=>match f x with
  | .tuple vs=>vs[k]?
  |_=>none
 | .move x=>some (f x)
 | .assign x=>some (f x)
 | .pick c x y=>match f c with
  | .bool q=>some (if q=true then f x else f y)
  |_=>none
 |_=>none
theorem P04{x:Operand}{a b:Act}(h:∀ t∈I0b x,a.tmps.getD t undef=b.tmps.getD t undef):a.eval x=b.eval x:=by
 cases x with
 |tmp t=>exact h t (List.mem_singleton.2 rfl)
 |const v=>rfl
 |global g=>rfl
 |func f=>rfl
theorem w04{o:Oper}{a:List Nat}(h:w09 o=some a):o.guard=none/\((∃ x k,o.op = .extract x k/\a=I0b x)∨(∃ x,o.op = .move x/\a=I0b x)∨(∃ x,o.op = .assign x/\a=I0b x)∨∃ c x y,o.op = .pick c x y/\a=I0b c++(I0b x++I0b y)):=by
 unfold w09 at h
 split at h
 ·cases h
 ·rename_i b
  refine⟨b,?_⟩
  split at h
  ·rename_i x k e;cases h;exact .inl ⟨x,k,e,rfl⟩
  ·rename_i x e;cases h;exact .inr (.inl ⟨x,e,rfl⟩)
  ·rename_i x e;cases h;exact .inr (.inr (.inl ⟨x,e,rfl⟩))
  ·rename_i c x y e;cases h;exact .inr (.inr (.inr ⟨c,x,y,e,rfl⟩))
  ·cases h
theorem g08{o:Oper}{g:List Nat}{a b:Act}(h:w09 o=some g)(e:∀ t∈g,a.tmps.getD t undef=b.tmps.getD t undef):u03 o a.eval=u03 o b.eval:=by
 obtain⟨_,⟨x,k,d,rfl⟩|⟨x,d,rfl⟩|⟨x,d,rfl⟩|⟨c,x,y,d,rfl⟩⟩:=w04 h
 ·unfold u03;rw[d];simp only[P04 e]
 ·unfold u03;rw[d];simp only[P04 e]
 ·unfold u03;rw[d];simp only[P04 e]
 ·unfold u03;rw[d]
  simp only[P04 (x:=c) λt f=>e t (List.mem_append_left _ f),P04 (x:=x) λt f=>e t (List.mem_append_right _ (List.mem_append_left _ f)),P04 (x:=y) λt f=>e t (List.mem_append_right _ (List.mem_append_right _ f))]
theorem C0e{o:Oper}{f:List Nat}{a:Act}{v:Value}(h:w09 o=some f)(b:u03 o a.eval=some v)(w:World):(execOp a.eval o).run P w = .ok (.value v) w:=by
 obtain⟨_,⟨x,k,e,_⟩|⟨x,e,_⟩|⟨x,e,_⟩|⟨c,x,y,e,_⟩⟩:=w04 h
 ·unfold u03 at b;rw[e]at b
  simp only at b
  split at b
  ·rename_i vs d
   unfold execOp;rw[e]
   simp only[Instr.extract,d,b]
   rfl
  ·cases b
 ·unfold u03 at b;rw[e]at b;cases b
  unfold execOp;rw[e];rfl
 ·unfold u03 at b;rw[e]at b;cases b
  unfold execOp;rw[e];rfl
 ·unfold u03 at b;rw[e]at b
  simp only at b
  split at b
  ·rename_i q d
   cases b
   unfold execOp;rw[e]
   simp only[d,asBool]
   cases q<;>rfl
  ·cases b
theorem C0q{o:Oper}{g:List Nat}{a:Act}{w:World}{N:Act->World->Prop}(h:w09 o=some g)(b:o.wp P a w N λ_ _ _=>False):∃ v,u03 o a.eval=some v/\N (a.put o.dst v) w:=by
 obtain⟨_,⟨x,k,e,_⟩|⟨x,e,_⟩|⟨x,e,_⟩|⟨c,x,y,e,_⟩⟩:=w04 h
 ·cases hx:u03 o a.eval with
  |some v =>
   refine⟨v,rfl,?_⟩
   unfold Oper.wp at b
   rw[C0e h hx w]at b
   exact b
  |none =>
   exfalso
   unfold u03 at hx;rw[e]at hx
   simp only at hx
   unfold Oper.wp execOp at b;rw[e]at b
   simp only[Instr.extract]at b
   split at hx
   ·rename_i vs f
    rw[f]at b
    simp only[hx]at b
    exact b
   ·rename_i d
    generalize a.eval x=z at b d
    cases z<;>first|exact b|exact absurd rfl (d _)
 ·refine⟨_,by unfold u03;rw[e],?_⟩
  unfold Oper.wp execOp at b;rw[e]at b
  exact b
 ·refine⟨_,by unfold u03;rw[e],?_⟩
  unfold Oper.wp execOp at b;rw[e]at b
  exact b
 ·cases hx:u03 o a.eval with
  |some v =>
   refine⟨v,rfl,?_⟩
   unfold Oper.wp at b
   rw[C0e h hx w]at b
   exact b
  |none =>
   exfalso
   unfold u03 at hx;rw[e]at hx
   simp only at hx
   unfold Oper.wp execOp at b;rw[e]at b
   simp only at b
   split at hx
   ·cases hx
   ·rename_i d
    generalize a.eval c=z at b d
    cases z<;>first|exact b|exact absurd rfl (d _)
def D0e(as a:Act)(D:Nat->Prop):Prop:=as.tmps.size=a.tmps.size/\as.defers=a.defers/\∀ d,¬ D d->as.tmps.getD d undef=a.tmps.getD d undef
theorem x04(a:Act)(d u:Nat)(v:Value):(a.put (some d) v).tmps.getD u undef=if d=u/\d<a.tmps.size then v else a.tmps.getD u undef:=by
 by_cases e:d=u
 all_goals simp_all[Act.put,if_neg,Array.getElem?_setIfInBounds_ne]
theorem D0e.put{as a:Act}{b:Nat->Prop}(l:D0e as a b)(d:Option Nat)(v:Value):D0e (as.put d v) (a.put d v) b:=by
 cases d with
 |none=>exact l
 |some d =>
  refine⟨by simp[Act.put,l.1],l.2.1,λu c=>?_⟩
  rw[x04,x04,l.1,l.2.2 u c]
theorem D0q{o:Oper}{as a:Act}{w:World}{k:Nat->Prop}{N:Act->World->Prop}{Q:Exit->Act->World->Prop}(l:D0e as a k)(q:P0c o.op=false)(y:∀ d,Operand.tmp d∈o.op.operands -> ¬ k d)
  (i:o.wp P as w N λ_ _ _=>False):o.wp P a w (λm j=>∃ g,N g j/\D0e g m k/\(∃ v,g=as.put o.dst v∨∃ x,g = { as with defers:=x }.put o.dst v)/\∃ v,m=a.put o.dst v∨∃ x,m = { a with defers:=x }.put o.dst v) Q:=by
 have t:execOp as.eval o=execOp a.eval o:=execOp_congr o (λcs b e=>by rw[e]at q;cases q) λx z=>by
  cases x with
  |tmp d=>exact l.2.2 d (y d z)
  |_=>rfl
 unfold Oper.wp at *
 rw[t]at i
 generalize (execOp a.eval o).run P w=r at i
 have fin:∀(v:Value) (j:World),N (as.put o.dst v) j->∃ g,N g j/\D0e g (a.put o.dst v) k/\(∃ v,g=as.put o.dst v∨∃ x,g = { as with defers:=x }.put o.dst v)/\∃ s,a.put o.dst v=a.put o.dst s∨∃ x,a.put o.dst v = { a with defers:=x }.put o.dst s :=
  λv j h=>⟨_,h,l.put o.dst v,⟨v,.inl rfl⟩,v,.inl rfl⟩
 cases r with
 |ok n j =>
  cases n with
  |value v=>exact fin v j i
  |skip=>exact fin undef j i
  |defer d =>
   refine⟨_,i,D0e.put (as := { as with defers:=d::as.defers }) (a := { a with defers:=d::a.defers }) ⟨l.1,by simp[l.2.1],l.2.2⟩ o.dst undef,⟨_,.inr ⟨_,rfl⟩⟩,_,.inr ⟨_,rfl⟩⟩
  |enter f args =>
   refine Calls.mono i λe p h=>?_
   cases e with
   |returned v=>exact fin v p h
   |panicked c=>exact h.elim
   |outgrown=>obtain⟨_,_,h⟩:=h;exact h.elim
  |row row args=>exact Rows.mono i λv p h=>fin v p h
  |_=>exact i.elim
 |halt u j=>cases u<;>exact i.elim
theorem Sim.like{st:St}{as a:Act}{h0:Hp}{w0:World}{be:Nat->Nat}{oe:Nat->Value}{H h:Hp}{w:World}(b:Sim P h0 w0 be oe H st h as w){c:Nat->Prop}(l:D0e as a c)(e:∀ d,¬ c d):Sim P h0 w0 be oe H st h a w :=
 ⟨b.mv,b.sub,b.box,b.pub,b.own,b.frz,b.bb,b.oo,b.bo,by rw[←l.2.1];exact b.dfr,by rw[←l.1];exact b.siz,λt=>by rw[←l.2.2 t (e t)];exact b.fr t⟩
theorem F0g:∀ {l:List Oper} {k:Nat},K0o k l=true->(∀ o∈l,o.guard=none)/\∀(i:Nat) (o:Oper),l[i+1]?=some o->c00 (k+i) o=true
 | [],k,h=>⟨λo b=>(nomatch b),λi o a=>(nomatch a)⟩
 | [x],k,h=>by
  rw[K0o]at h
  grind
 |x::y::r,k,h=>by
  rw[K0o]at h
  simp only[Bool.and_eq_true]at h
  obtain⟨c,d⟩:=F0g (l:=y::r) h.2
  refine⟨λo b=>?_,λi o a=>?_⟩
  ·grind
  ·cases i with
   |zero=>grind
   |succ i =>
    grind
theorem x0j{o:Oper}{st:St}{K:St->Hp->Prop}{Q:Exit->Act->World->Prop}(q:Sim P h0 w0 be oe H st h a w)(l:s04 P o st h K):
  o.wp P a w (λj k=>∃ st' b be' oe' f,K st' b/\Sim P h0 w0 be' oe' f st' b j k) Q:=by
 refine Oper.wp_mono (λj k p=>?_) (d00 q l)
 obtain⟨av,st',b,v,be',oe',f,m,rfl,s,g,t⟩:=p
 obtain⟨B,u,y,z,A⟩:=g05 (ops := #[o]) (i:=0) (rs:=⟨st',b,[],[]⟩) (ch:=[]) (c:=true) (v:=v) s ⟨(λx e=>nomatch e),(λx e=>nomatch e),(λd ch av n=>nomatch n)⟩ (by rfl) rfl (λ_=>g) (λh=>by cases h) m
 grind
theorem P0a{c d:List Oper}{a:List Nat}:∀ {l:List Oper} {k:Nat},R0d c d a l k=true->∀(i:Nat) (o:Oper),l[i]?=some o->e0l (k+i) a=true∨p0m c d a (k+i) o=true
 | [],k,_,i,o,h=>by simp at h
 |y::r,k,b,i,o,h=>by
  simp only[R0d,Bool.and_eq_true,Bool.or_eq_true]at b
  cases i with
  |zero=>grind
  |succ i =>
   have:=P0a b.2 i o (by simpa using h)
   grind
theorem E0e{c d:List Oper}{b:List Nat}:∀ {e:List Nat},o0m c d b e=true->∀ t∈e,x09 t d=false/\a05 b t c 0=true
 | [],_,t,h=>by cases h
 |x::r,a,t,h=>by
  simp only[o0m,Bool.and_eq_true,Bool.not_eq_true']at a
  rcases List.mem_cons.1 h with rfl|h
  ·exact a.1
  ·exact E0e a.2 t h
theorem m0l{c a:List Oper}{b:List Nat}{i:Nat}{o:Oper}(h:p0m c a b i o=true):∃ e d,w09 o=some e/\o.dst=some d/\x09 d a=false/\(∀ t∈e,x09 t a=false/\a05 b t c 0=true)/\q06 i d a=true:=by
 unfold p0m at h
 split at h
 ·rename_i t d f g
  simp only[Bool.and_eq_true,Bool.not_eq_true']at h
  exact⟨t,d,f,g,h.1.1,E0e h.1.2,h.2⟩
 ·cases h
theorem O0n{ops:Array Oper}{m:Nat}{st:St}{K:St->Hp->Prop}{Q:Exit->Act->World->Prop}(hb:okZ P st.n m ops.toList=true)(he:evT P (s04 P) m ops.toList st h K)
  (hQ:∀ a w st h be oe H,K st h->Sim P h0 w0 be oe H st h a w->Q .normal a w) (s:Sim P h0 w0 be oe H st h a w):wpAny P .any ops Q ops.size (Array.replicate ops.size false) a w:=by
 simp only[okZ,k04,e03,Bool.and_eq_true,Bool.or_eq_true]at hb
 obtain⟨⟨⟨⟨⟨⟨⟨b1,b2⟩,b3⟩,b4⟩,b5⟩,b6⟩,b7⟩,b8⟩:=hb
 generalize hpre:ops.toList.take m=pre at b1 b2 b3 b4 b5 b8
 obtain⟨hn,hD⟩:=i05 b1
 have hB:∀(k:Nat) (o:Oper),(Q5 pre)[k]?=some o->∀ e∈o.after,Region.binds .any e=true->e.on<k:=λk o hk e he' hb=>by
  have:=d04 b2 k o hk e he' hb
  omega
 have hdep:=Z06 b3
 have hgd:=b07 b4
 have hal:=s0j b5
 have hBB:∀(k:Nat) (o:Oper),ops.toList[k]?=some o->∀ e∈o.after,Region.binds .any e=true->e.on<k:=λk o hk e he' hb=>by
  have:=d04 b6 k o hk e he' hb
  omega
 obtain⟨sq1,sq2⟩:=F0g b7
 unfold evT at he
 rw[hpre]at he
 obtain⟨A,Lf,Bf,_,_,hP,hall,hfin⟩:=z0e (ops:=Q5 pre) hD (Q5 pre) 0 [] [] (λ_=>([],true,.pu .dead)) (λj=>by simp) (by simp)
  ⟨λt x h=>(by cases h),λi oi d hi=>by omega,λi hi=>by omega,λx hx=>(by cases hx)⟩ he
 have hpl:pre.length=min m ops.size:=by rw[←hpre];simp
 have hpg:∀ j,j<m->ops.toList[j]?=pre[j]?:=λj hj=>by rw[←hpre,List.getElem?_take,if_pos hj]
 have hdg:∀ j,(ops.toList.drop m)[j]?=ops.toList[m+j]?:=λj=>List.getElem?_drop
 have hsr:∀(i:Nat) (oi:Oper) (d:Nat),(Q5 pre)[i]?=some oi->oi.dst=some d->skA pre i=true->∀ o'∈Q5 pre,Operand.tmp d ∉ o'.op.operands:=λi oi d q1 q2 q3 o' ho' hc=>by
  rw[D8]at q1
  unfold skA at q3
  cases e:pre[i]? with
  |none=>rw[e]at q1;cases q1
  |some o0 =>
   rw[e]at q1 q3
   cases q1
   obtain⟨t,d1,z,k1,k2,k3,k4,k5⟩:=hal o0 (List.mem_of_getElem? e) q3
   rw[C8,k3]at q2;cases q2
   obtain⟨j,hj⟩:=List.getElem?_of_mem ho'
   rw[D8]at hj
   cases e2:pre[j]? with
   |none=>rw[e2]at hj;cases hj
   |some o1 =>
    rw[e2]at hj;cases hj
    exact k5 o1 (List.mem_of_getElem? e2) (w0j hc)
 have hsb:∀ i,skA pre i=true->(A i).2.2 = .pu (.val undef):=λi q3=>by
  unfold skA at q3
  cases e:pre[i]? with
  |none=>rw[e]at q3;cases q3
  |some o0 =>
   rw[e]at q3
   obtain⟨t,d1,z,k1,k2,k3,k4,k5⟩:=hal o0 (List.mem_of_getElem? e) q3
   obtain⟨Lj,bj,_,_,_,_,_,hu⟩:=hall i (B00 o0) (Nat.zero_le _) (by rw[D8,e];rfl)
   refine hu _ ?_
   unfold B00
   rw[k1]
   rfl
 let Rest:Nat->Act->World->Prop:=λk a w=>∃ st' h' be oe H,doT (s04 P) (ops.toList.drop k) st' h' K/\Sim P h0 w0 be oe H st' h' a w
 let ml:=s0g ops.toList m [m]
 let Dl:Array Bool->Nat->Prop:=λlisted u=>∃(i:Nat) (o:Oper),pre[i]?=some o/\listed.getD i false=false/\o.dst=some u
 let Lat:Array Bool->Act->Act->Prop:=λlisted as a=>∀(i:Nat) (o:Oper) (t:List Nat) (d:Nat),pre[i]?=some o->listed.getD i false=false->w09 o=some t->o.dst=some d->u03 o a.eval=some (as.tmps.getD d undef)
 let Inv:Array Bool->Act->World->Prop:=λlisted a w=>(∀(j:Nat) (o:Oper),ops[j]?=some o->listed.getD j false=true->∀ e∈o.after,Region.binds .any e=true->listed.getD e.on false=true) /\
  (((∀ k,m<=k->listed.getD k false=false)/\Y0b P h0 w0 pre st h A listed a w)∨∃ k as,m<k/\k<=ops.size/\(∀ i,i<k->listed.getD i false=true∨(i<m/\i ∉ ml))/\(∀ i,k<=i->listed.getD i false=false)/\Rest k as w/\D0e as a (Dl listed)/\Lat listed as a)
 have lateOf:m<ops.size->∀(i:Nat) (o:Oper),pre[i]?=some o->i ∉ ml->∃ t d,w09 o=some t/\o.dst=some d/\x09 d (ops.toList.drop m)=false/\(∀ x∈t,x09 x (ops.toList.drop m)=false/\a05 ml x pre 0=true)/\q06 i d (ops.toList.drop m)=true:=λhm i o hi hml=>by
  rcases b8 with h|h
  ·exfalso
   have:ops.toList.drop m = []:=by
    cases e:ops.toList.drop m with
    |nil=>rfl
    |cons x r=>rw[e]at h;cases h
   have:=List.drop_eq_nil_iff.1 this
   simp at this;omega
  ·have:=P0a h.1 i o hi
   rw[Nat.zero_add]at this
   rcases this with h1|h1
   ·exact absurd (Z0b.1 h1) hml
   ·exact m0l h1
 have noselT:m<ops.size->X0i (ops.toList.drop m)=true:=λhm=>by
  rcases b8 with h|h
  ·exfalso
   have:ops.toList.drop m = []:=by
    cases e:ops.toList.drop m with
    |nil=>rfl
    |cons x r=>rw[e]at h;cases h
   have:=List.drop_eq_nil_iff.1 this
   simp at this;omega
  ·exact h.2
 have preD:∀(i j:Nat) (oi oj:Oper) (d:Nat),pre[i]?=some oi->pre[j]?=some oj->oi.dst=some d->oj.dst=some d->i=j:=λi j oi oj d h1 h2 h3 h4 =>
  hD i j (B00 oi) (B00 oj) d (by rw[D8,h1];rfl) (by rw[D8,h2];rfl) (by rw[C8];exact h3) (by rw[C8];exact h4)
 have preN:∀(i:Nat) (o:Oper) (d:Nat),pre[i]?=some o->o.dst=some d->d<st.n:=λi o d h1 h2 =>
  hn (B00 o) (List.mem_of_getElem? (i:=i) (by rw[D8,h1];rfl)) d (by rw[C8];exact h2)
 have unl:∀ {listed:Array Bool} {j:Nat},listed.getD j true=false->listed.getD j false=false/\j<listed.size:=λ{listed j} hj=>by
  rcases Nat.lt_or_ge j listed.size with h|h
  ·simp[h]at hj ⊢;exact hj
  ·simp[Array.getElem?_eq_none h]at hj
 have allpre:∀ {listed:Array Bool} {a:Act} {w:World},(∀ j,j<pre.length->listed.getD j false=true)->Y0b P h0 w0 pre st h A listed a w->Rest m a w:=λ{listed a w} hl hi =>
  B0q (K:=λst h=>doT (s04 P) (ops.toList.drop m) st h K) hD hn hsb hal hP hfin hl hi
 have tail:∀ {Q:Exit->Act->World->Prop} {k:Nat} {o:Oper} {a:Act} {w:World},ops[k]?=some o->Rest k a w->o.wp P a w (Rest (k+1)) Q:=λ{Q k o a w} ho hr=>by
  obtain⟨st',h',be,oe,H,hd,s'⟩:=hr
  have hk:k<ops.toList.length:=by simpa using (Array.getElem?_eq_some_iff.1 ho).1
  have e:ops.toList.drop k=o::ops.toList.drop (k+1):=by
   rw[List.drop_eq_getElem_cons hk]
   congr 1
   have:ops.toList[k]?=some o:=by simpa using ho
   rw[List.getElem?_eq_getElem hk]at this
   exact oJ this
  rw[e]at hd
  exact x0j s' hd
 have virt:m<ops.size->∀ {listed:Array Bool} {a:Act} {w:World},listed.size=ops.size->(∀ i,i<m->i∈ml->listed.getD i false=true)->Y0b P h0 w0 pre st h A listed a w ->
   ∀ k,k<=pre.length->∃ l2 as,l2.size=ops.size/\(∀ i,i<k->l2.getD i false=true)/\(∀ i,k<=i->l2.getD i false=listed.getD i false)/\Y0b P h0 w0 pre st h A l2 as w /\
    D0e as a (λu=>∃(i:Nat) (o:Oper),i<k/\pre[i]?=some o/\listed.getD i false=false/\o.dst=some u) /\
    ∀(i:Nat) (o:Oper) (t:List Nat) (d:Nat),i<k->pre[i]?=some o->listed.getD i false=false->w09 o=some t->o.dst=some d->u03 o a.eval=some (as.tmps.getD d undef):=by
  intro hmN listed a w hsz hml hA k
  induction k with
  |zero=>exact λ_=>⟨listed,a,hsz,λi hi=>by omega,λi _=>rfl,hA,⟨rfl,rfl,λ_ _=>rfl⟩,λi o t d hi=>by omega⟩
  |succ k ih =>
   intro hk
   obtain⟨l2,as,z1,z2,z3,z4,z5,z6⟩:=ih (by omega)
   cases hlk:listed.getD k false with
   |true =>
    refine⟨l2,as,z1,λi hi=>?_,λi hi=>z3 i (by omega),z4,⟨z5.1,z5.2.1,λu hu=>z5.2.2 u λ⟨i,o,q1,q2⟩=>hu ⟨i,o,by omega,q2⟩⟩,λi o t d hi q1 q2 q3 q4=>?_⟩
    ·by_cases e:i=k
     ·subst e;rw[z3 i (Nat.le_refl _)];exact hlk
     ·exact z2 i (by omega)
    ·have:i≠k:=λe=>by subst e;rw[hlk]at q2;cases q2
     exact z6 i o t d (by omega) q1 q2 q3 q4
   |false =>
    obtain⟨o,ho⟩:∃ o,pre[k]?=some o:=⟨pre[k],List.getElem?_eq_getElem (by omega)⟩
    have hkm:k<m:=by omega
    have hkml:k ∉ ml:=λh=>by rw[hml k hkm h]at hlk;cases hlk
    obtain⟨t,d,y1,y2,y3,y5,y6⟩:=lateOf hmN k o ho hkml
    have hg:=(w04 y1).1
    have hl2k:l2.getD k false=false:=by rw[z3 k (Nat.le_refl _)];exact hlk
    have hks:k<l2.size:=by rw[z1];omega
    have hun2:l2.getD k true=false:=by
     simp[hks]at hl2k ⊢;exact hl2k
    have hoL:ops.toList[k]?=some o:=by rw[hpg k hkm];exact ho
    have st1:=(j0r (Q:=λ_ _ _=>False) hD hn hB hdep hgd hP (λj o ho=>hall j o (Nat.zero_le _) ho) hsr hsb hal hun2 ho (λe he1 he2=>z2 e.on (hBB k o hoL e he1 he2)) z4).1 (by unfold Region.wanted;rw[hg])
    obtain⟨v,v1,v2⟩:=C0q y1 st1
    have hasz:as.tmps.size=st.n:=by
     obtain⟨_,_,_,_,_,_,iu,_,_⟩:=z4
     obtain⟨_,_,_,_,_,s,_⟩:=iu
     exact s.siz
    have htne:∀ x∈t,¬ ∃(i:Nat) (o:Oper),i<k/\pre[i]?=some o/\listed.getD i false=false/\o.dst=some x:=λx hx ⟨i,o',q1,q2,q3,q4⟩=>by
     have:=f06 (y5 x hx).2 i o' q2 q4
     rw[Nat.zero_add]at this
     rw[hml i (by omega) this]at q3;cases q3
    rw[g08 y1 λx hx=>z5.2.2 x (htne x hx)]at v1
    rw[y2]at v2
    refine⟨l2.setIfInBounds k true,as.put (some d) v,by simpa using z1,λi hi=>?_,λi hi=>?_,v2,⟨by simp[Act.put,z5.1],z5.2.1,λu hu=>?_⟩,λi o' t' d' hi q1 q2 q3 q4=>?_⟩
    ·by_cases e:k=i
     ·subst e;simp[hks]
     ·rw[getD_set_ne false e];exact z2 i (by omega)
    ·rw[getD_set_ne false (by omega)];exact z3 i (by omega)
    ·rw[x04,if_neg λe=>hu ⟨k,o,by omega,ho,hlk,by rw[y2,e.1]⟩]
     exact z5.2.2 u λ⟨i,o',q1,q2⟩=>hu ⟨i,o',by omega,q2⟩
    ·rw[x04]
     by_cases e:i=k
     ·subst e
      rw[ho]at q1;cases q1
      rw[y1]at q3;cases q3
      rw[y2]at q4;cases q4
      rw[if_pos ⟨rfl,by rw[hasz];exact preN i o d ho y2⟩]
      exact v1
     ·rw[if_neg λh=>e (preD i k o' o d' q1 ho q4 (by rw[y2,h.1]))]
      exact z6 i o' t' d' (by omega) q1 q2 q3 q4
 refine A0s (Inv:=Inv) hBB (λlisted a w j o hsz hun ho hrd hi=>?_) (λlisted a w hl hi=>?_) ops.size _ a w (by simp) (by simp[List.count_replicate]) ⟨λj o _ h=>?_,.inl ⟨λk _=>?_,Y0b.start s⟩⟩
 rotate_left 2
 ·simp[Array.getElem?_replicate]at h
  split at h<;>cases h
 ·simp[Array.getElem?_replicate]
  split<;>simp
 rotate_left 1
 ·rcases hi.2 with⟨hm,hA⟩|⟨k,as,k1,k2,k3,k4,hr,lk,lt⟩
  ·have hms:ops.size<=m:=by
    rcases Nat.lt_or_ge m ops.size with h|h
    ·have:=hm m (Nat.le_refl _)
     rw[hl m h]at this;cases this
    ·exact h
   obtain⟨st',h',be,oe,H,hd,s'⟩:=allpre (λj hj=>hl j (by omega)) hA
   rw[List.drop_eq_nil_of_le (by simpa using hms)]at hd
   exact hQ a w st' h' be oe H hd s'
  ·have hk:k=ops.size:=by
    rcases Nat.lt_or_ge k ops.size with h|h
    ·have:=k4 k (Nat.le_refl _)
     rw[hl k h]at this;cases this
    ·omega
   subst hk
   obtain⟨st',h',be,oe,H,hd,s'⟩:=hr
   rw[List.drop_eq_nil_of_le (by simp)]at hd
   refine hQ a w st' h' be oe H hd (s'.like lk λu ⟨i,o,q1,q2,q3⟩=>?_)
   have:=(List.getElem?_eq_some_iff.1 q1).1
   rw[hl i (by omega)]at q2;cases q2
 ·obtain⟨hcl,hi⟩:=hi
  obtain⟨hjf,hjs⟩:=unl hun
  have hcl':∀(i:Nat) (oi:Oper),ops[i]?=some oi->(listed.setIfInBounds j true).getD i false=true->∀ e∈oi.after,Region.binds .any e=true->(listed.setIfInBounds j true).getD e.on false=true:=λi oi h1 h2 e he1 he2=>by
   by_cases hij:j=i
   ·subst hij
    rw[ho]at h1;cases h1
    exact getD_set_true (hrd e he1 he2)
   ·rw[getD_set_ne false hij]at h2
    exact getD_set_true (hcl i oi h1 h2 e he1 he2)
  have hoL:ops.toList[j]?=some o:=by simpa using ho
  have hjlt:j<ops.size:=(Array.getElem?_eq_some_iff.1 ho).1
  by_cases hjm:j<m
  ·rcases hi with⟨hm,hA⟩|⟨k,as,k1,k2,k3,k4,hr,lk,lt⟩
   ·have hop:pre[j]?=some o:=by rw[←hpg j hjm];exact hoL
    have st1:=j0r (Q:=Q) hD hn hB hdep hgd hP (λj o ho=>hall j o (Nat.zero_le _) ho) hsr hsb hal hun hop hrd hA
    have hyd:Region.wanted o (yielded ops a.tmps)=Region.wanted o (yielded (Q5 pre).toArray a.tmps):=by
     unfold Region.wanted
     cases hg:o.guard with
     |none=>rfl
     |some p =>
      obtain⟨i,wv⟩:=p
      obtain⟨e,he1,he2,he3⟩:=H8 (hgd (B00 o) (List.mem_of_getElem? (i:=j) (by rw[D8,hop];rfl)) i wv (by rw[v0j];exact hg))
      rw[u0j]at he1
      have hlt:=hBB j o hoL e he1 he2
      rw[he3]at hlt
      have hig:=hpg i (by omega)
      have:yielded ops a.tmps i=yielded (Q5 pre).toArray a.tmps i:=by
       unfold yielded
       have e1:ops[i]?=pre[i]?:=by rw[←hig];simp
       have e2:(Q5 pre).toArray[i]?=(pre[i]?).map B00:=by simp[D8]
       rw[e1,e2]
       cases pre[i]? with
       |none=>rfl
       |some o0=>simp[C8]
      simp only[this]
    rw[hyd]
    have up:∀ a' w',Y0b P h0 w0 pre st h A (listed.setIfInBounds j true) a' w'->Inv (listed.setIfInBounds j true) a' w':=λa' w' hx=>⟨hcl',.inl ⟨λk hk=>by rw[getD_set_ne false (by omega)];exact hm k hk,hx⟩⟩
    exact⟨λhw=>Oper.wp_mono up (st1.1 hw),λhw=>up _ _ (st1.2 hw)⟩
   ·have hop:pre[j]?=some o:=by rw[←hpg j hjm];exact hoL
    have hjml:j ∉ ml:=by
     rcases k3 j (by omega)with h|h
     ·rw[hjf]at h;cases h
     ·exact h.2
    obtain⟨t,d,y1,y2,y3,y5,y6⟩:=lateOf (by omega) j o hop hjml
    have hg:=(w04 y1).1
    refine⟨λ_=>?_,λhw=>by unfold Region.wanted at hw;rw[hg]at hw;cases hw⟩
    unfold Oper.wp
    rw[C0e y1 (lt j o t d hop hjf y1 y2) w]
    refine⟨hcl',.inr ⟨k,as,k1,k2,λi hi=>?_,λi hi=>?_,hr,⟨by rw[y2];simp[Act.put,lk.1],by rw[y2];exact lk.2.1,λu hu=>?_⟩,λi o' t' d' q1 q2 q3 q4=>?_⟩⟩
    ·rcases k3 i hi with h|h
     ·exact .inl (getD_set_true h)
     ·exact .inr h
    ·rw[getD_set_ne false (by omega)];exact k4 i hi
    ·rw[y2,x04]
     by_cases e:d=u
     ·subst e
      by_cases hlt:d<a.tmps.size
      ·rw[if_pos ⟨rfl,hlt⟩]
      ·rw[if_neg λh=>hlt h.2]
       have e1:∀(x:Act),¬ d<x.tmps.size->x.tmps.getD d undef=undef:=λx hx=>by
        simp[Array.getElem?_eq_none (Nat.le_of_not_lt hx)]
       rw[e1 a hlt,e1 as (by rw[lk.1];exact hlt)]
     ·rw[if_neg λh=>e h.1]
      refine lk.2.2 u λ⟨i,o',q1,q2,q3⟩=>?_
      by_cases e2:j=i
      ·subst e2
       rw[hop]at q1;cases q1
       rw[y2]at q3;cases q3
       exact e rfl
      ·exact hu ⟨i,o',q1,by rw[getD_set_ne false e2];exact q2,q3⟩
    ·have e2:j≠i:=λe2=>by subst e2;simp[hjs]at q2
     rw[getD_set_ne false e2]at q2
     have hi':=(List.getElem?_eq_some_iff.1 q1).1
     have himl:i ∉ ml:=by
      rcases k3 i (by omega)with h|h
      ·rw[q2]at h;cases h
      ·exact h.2
     obtain⟨t2,d2,x1,x2,x3,x5,x6⟩:=lateOf (by omega) i o' q1 himl
     rw[q3]at x1;cases x1
     rw[←lt i o' t' d' q1 q2 q3 q4]
     refine g08 q3 λx hx=>?_
     rw[y2,x04,if_neg λh=>?_]
     have:=f06 (x5 x hx).2 j o hop (by rw[y2,h.1])
     rw[Nat.zero_add]at this
     exact hjml this
  ·have hg:o.guard=none:=sq1 o (List.mem_of_getElem? (i:=j-m) (by rw[hdg];rw[show m+(j-m)=j by omega];exact hoL))
   have prev:m<j->listed.getD (j-1) false=true:=λhlt=>by
    have:=sq2 (j-m-1) o (by rw[hdg];rw[show m+(j-m-1+1)=j by omega];exact hoL)
    obtain⟨e,he1,he2,he3⟩:=H8 this
    have:=hrd e he1 he2
    rw[he3,show m+(j-m-1)=j-1 by omega]at this
    exact this
   refine⟨λ_=>?_,λhw=>by unfold Region.wanted at hw;rw[hg]at hw;cases hw⟩
   have hmt:o∈ops.toList.drop m:=List.mem_of_getElem? (i:=j-m) (by rw[hdg,show m+(j-m)=j by omega];exact hoL)
   have go:∀ as,(∀ i,i<j->listed.getD i false=true∨(i<m/\i ∉ ml))->(∀ i,j<=i->listed.getD i false=false)->Rest j as w->D0e as a (Dl listed)->Lat listed as a->o.wp P a w (Inv (listed.setIfInBounds j true)) Q:=λas q1 q2 hr lk lt=>by
    have hjD:∀ u,Dl (listed.setIfInBounds j true) u↔Dl listed u:=λu=>by
     constructor
     ·rintro⟨i,o',p1,p2,p3⟩
      have:=(List.getElem?_eq_some_iff.1 p1).1
      rw[getD_set_ne false (by omega)]at p2
      exact⟨i,o',p1,p2,p3⟩
     ·rintro⟨i,o',p1,p2,p3⟩
      have:=(List.getElem?_eq_some_iff.1 p1).1
      exact⟨i,o',p1,by rw[getD_set_ne false (by omega)];exact p2,p3⟩
    have lateU:∀(i:Nat) (o':Oper),pre[i]?=some o'->listed.getD i false=false->i ∉ ml:=λi o' p1 p2=>by
     have:=(List.getElem?_eq_some_iff.1 p1).1
     rcases q1 i (by omega)with h|h
     ·rw[p2]at h;cases h
     ·exact h.2
    refine Oper.wp_mono (λa' w' hx=>?_) (D0q (Q:=Q) lk (B0e (noselT (by omega)) o hmt) (λu hu ⟨i,o',p1,p2,p3⟩=>?_) (tail (Q:=λ_ _ _=>False) ho hr))
    ·obtain⟨as',hr',lk',⟨v1,hv1⟩,v2,hv2⟩:=hx
     have e1:∀ u,o.dst≠some u->as'.tmps.getD u undef=as.tmps.getD u undef:=λu hu=>by
      cases hd:o.dst with
      |none =>
       rw[hd]at hv1
       rcases hv1 with h|⟨x,h⟩<;>rw[h]<;>rfl
      |some d =>
       rw[hd]at hv1 hu
       rcases hv1 with h|⟨x,h⟩<;>rw[h,x04,if_neg λh=>hu (by rw[h.1])]
     have e2:∀ u,o.dst≠some u->a'.tmps.getD u undef=a.tmps.getD u undef:=λu hu=>by
      cases hd:o.dst with
      |none =>
       rw[hd]at hv2
       rcases hv2 with h|⟨x,h⟩<;>rw[h]<;>rfl
      |some d =>
       rw[hd]at hv2 hu
       rcases hv2 with h|⟨x,h⟩<;>rw[h,x04,if_neg λh=>hu (by rw[h.1])]
     refine⟨hcl',.inr ⟨j+1,as',by omega,by omega,λi hi=>?_,λi hi=>?_,hr',⟨lk'.1,lk'.2.1,λu hu=>lk'.2.2 u λh=>hu ((hjD u).2 h)⟩,λi o' t d p1 p2 p3 p4=>?_⟩⟩
     ·by_cases e:j=i
      ·subst e;left;simp[hjs]
      ·rw[getD_set_ne false e];exact q1 i (by omega)
     ·rw[getD_set_ne false (by omega)];exact q2 i (by omega)
     ·have hi':=(List.getElem?_eq_some_iff.1 p1).1
      rw[getD_set_ne false (by omega)]at p2
      obtain⟨t2,d2,x1,x2,x3,x5,x6⟩:=lateOf (by omega) i o' p1 (lateU i o' p1 p2)
      rw[p3]at x1;cases x1
      rw[p4]at x2;cases x2
      rw[e1 d (W09 x3 o hmt),g08 p3 λx hx=>e2 x (W09 (x5 x hx).1 o hmt)]
      exact lt i o' t d p1 p2 p3 p4
    ·obtain⟨t2,d2,x1,x2,x3,x5,x6⟩:=lateOf (by omega) i o' p1 (lateU i o' p1 p2)
     rw[p3]at x2;cases x2
     obtain⟨e,he1,he2,he3⟩:=H8 (E09 x6 o hmt hu)
     have:=hrd e he1 he2
     rw[he3,p2]at this;cases this
   rcases hi with⟨hm,hA⟩|⟨k,as,k1,k2,k3,k4,hr,lk,lt⟩
   ·have hjm':j=m:=by
     rcases Nat.lt_or_ge m j with h|h
     ·have:=prev h
      rw[hm (j-1) (by omega)]at this;cases this
     ·omega
    subst hjm'
    have hml:∀ i,i<j->i∈ml->listed.getD i false=true:=λi hi hmi=>by
     have:=V09 (G:=λi=>i=j∨listed.getD i false=true) (ops:=ops.toList) (λi' j' o' hG ho' he'=>?_) j [j] (λx hx => .inl (by simpa using hx)) i hmi
     ·rcases this with h|h
      ·omega
      ·exact h
     ·obtain⟨e,he1,he2,he3⟩:=H8 he'
      rw[←he3]
      right
      rcases hG with rfl|hG
      ·rw[hoL]at ho';cases ho'
       exact hrd e he1 he2
      ·exact hcl j' o' (by simpa using ho') hG e he1 he2
    obtain⟨l2,as,z1,z2,z3,z4,z5,z6⟩:=virt hjlt (by assumption) hml hA pre.length (Nat.le_refl _)
    refine go as (λi hi=>?_) hm (allpre (λi hi=>z2 i hi) z4) ⟨z5.1,z5.2.1,λu hu=>z5.2.2 u λ⟨i,o',p1,p2⟩=>hu ⟨i,o',p2⟩⟩ (λi o' t d p1 p2 p3 p4=>z6 i o' t d (List.getElem?_eq_some_iff.1 p1).1 p1 p2 p3 p4)
    by_cases h:i∈ml
    ·exact .inl (hml i hi h)
    ·exact .inr ⟨hi,h⟩
   ·have hjk:j=k:=by
     have h1:k<=j:=by
      rcases Nat.lt_or_ge j k with h|h
      ·rcases k3 j h with h2|h2
       ·rw[hjf]at h2;cases h2
       ·omega
      ·exact h
     rcases Nat.lt_or_ge k j with h|h
     ·have:=prev (by omega)
      rw[k4 (j-1) (by omega)]at this;cases this
     ·omega
    subst hjk
    exact go as k3 k4 hr lk lt
end
end Go.H
namespace Go.H
set_option linter.unusedVariables false
set_option linter.unusedSimpArgs false
section
variable {P:Program} {h0:Hp} {w0:World} {Q:Exit->Act->World->Prop} {ops:Array Oper} {K:RS->Prop}
theorem y0j{be:Nat->Nat}{oe:Nat->Value}{H:Hp}{rs:RS}{a:Act}{w:World}{o:Oper}{i:Nat}{e:RS->Prop}(f:Sim P h0 w0 be oe H rs.st rs.h a w)(r:b08 ops be oe rs a i)(m:ops[i]?=some o)
  {ch:List (Nat×Bool)} {c:Bool} (j:o00 rs.bs o.guard=some ch) (d:cB rs.bs ch=some c) (k:evG P o ch c rs λav=>d0e o.dst i ch av rs e) :
  ∃ v b,e b/\b08 ops be oe b (a.put o.dst v) (i+1)/\Sim P h0 w0 be oe H b.st b.h (a.put o.dst v) w/\Region.wanted o (yielded ops a.tmps)=c /\
   (c=true->∀ g,CW H w g->o.quietAt P a (CW H w) g v)/\(c=false->v=undef):=by
 obtain⟨av,l,n⟩:=H0n f r d k
 have p:=G0n r j d
 cases c with
 |true =>
  grind[g05]
 |false =>
  obtain⟨b,q,_,s,t⟩:=g05 (v:=undef) f r m d (λh=>by cases h) (λ_=>rfl) l
  grind
theorem L05(f:∀ rs a w be oe H,K rs->Sim P h0 w0 be oe H rs.st rs.h a w->Q .normal a w):∀(l:List Oper) (i:Nat) (rs:RS) (a:Act) (w:World) (be:Nat->Nat) (oe:Nat->Value) (H:Hp),
  (∀ j,l[j]?=ops[i+j]?)->Sim P h0 w0 be oe H rs.st rs.h a w->b08 ops be oe rs a i->Q0c P l i rs K->wpList P ops Q l a w
 | [],i,rs,a,w,be,oe,H,_,d,_,b=>f rs a w be oe H b d
 |o::l,i,rs,a,w,be,oe,H,y,d,r,b=>by
  have z:ops[i]?=some o:=by simpa using (y 0).symm
  have s:∀ j,l[j]?=ops[i+1+j]?:=λj=>by have:=y (j+1);grind
  have O:∀ ch c,o00 rs.bs o.guard=some ch->cB rs.bs ch=some c->(evG P o ch c rs λav=>d0e o.dst i ch av rs λrs=>Q0c P l (i+1) rs K)->wpList P ops Q (o::l) a w:=by
   intro ch c G F b
   obtain⟨v,p,k,A,n,u,L,t⟩:=y0j d r z G F b
   unfold wpList
   rw[u]
   cases c with
   |false =>
    rw[if_neg (by simp),←t rfl]
    exact L05 f l (i+1) p _ w be oe H s n A k
   |true =>
    rw[if_pos rfl]
    refine .inl (Oper.wp_of_quiet (C:=CW H w) (K:=λq=>q=a.put o.dst v) (T2.refl d.mv.vis) (λq x m e=>?_) ⟨v,L rfl,rfl⟩)
    subst e
    exact L05 f l (i+1) p _ x be oe H s (n.still (hf:=H) (λ_ _ h=>h) m) A k
  simp only[Q0c]at b
  split at b
  ·rename_i I R
   have u:Region.wanted o (yielded ops a.tmps)=true:=by unfold Region.wanted;rw[I]
   unfold wpList
   rw[if_pos u]
   refine .inl (Oper.wp_mono (λq x t=>?_) (d00 (Q:=Q) d b))
   obtain⟨av,st',E,v,be',oe',B,J,rfl,N,g,D⟩:=t
   obtain⟨p,k,_,n,M⟩:=g05 (rs := { rs with st:=st',h:=E }) (ch:=[]) (c:=true) (v:=v) N (r.grow D) z rfl (λ_=>g) (λh=>by cases h) J
   exact L05 f l (i+1) p _ x be' oe' B s M n k
  grind
theorem G0g{be:Nat->Nat}{oe:Nat->Value}{H:Hp}{w:World}(f:∀ rs a w be oe H,K rs->Sim P h0 w0 be oe H rs.st rs.h a w->Q .normal a w):∀(l:List Oper) (i:Nat) (rs:RS) (a:Act),
  (∀ j,l[j]?=ops[i+j]?)->Sim P h0 w0 be oe H rs.st rs.h a w->b08 ops be oe rs a i->evQ P l i rs K->wpQuiet P ops (CW H w) (λk=>∀ d,CW H w d->Q .normal k d) l a
 | [],i,rs,a,_,e,_,b=>λd m=>f rs a d be oe H b (e.still (hf:=H) (λ_ _ h=>h) m)
 |o::l,i,rs,a,g,e,r,b=>by
  have s:ops[i]?=some o:=by simpa using (g 0).symm
  have q:∀ j,l[j]?=ops[i+1+j]?:=λj=>by have:=g (j+1);grind
  simp only[evQ]at b
  split at b
  ·rename_i ch p
   split at b
   ·rename_i c n
    obtain⟨v,B,y,z,A,u,t,C⟩:=y0j e r s p n b
    have x:=G0g f l (i+1) B _ q A z y
    unfold wpQuiet
    rw[u]
    cases c with
    |false=>grind
    |true=>rw[if_pos rfl];exact⟨v,t rfl,x⟩
   ·exact b.elim
  ·exact b.elim
theorem b08.init{be:Nat->Nat}{oe:Nat->Value}{st:St}{h:Hp}{a:Act}:b08 ops be oe ⟨st,h,[],[]⟩ a 0 :=
 ⟨(λx b=>nomatch b),(λx b=>nomatch b),(λd ch av c=>nomatch c)⟩
def d0i(P:Program)(h0:Hp)(w0:World)(Q:Ex->St->Hp->Prop):Exit->Act->World->Prop
 | .normal,a,w=>∃ st h be oe H,Q .normal st h/\Sim P h0 w0 be oe H st h a w
 | .exit i,a,w=>∃ st h be oe H,Q (.exit i) st h/\Sim P h0 w0 be oe H st h a w
 | .ret,a,w=>∃ st h be oe H,Q .ret st h/\Sim P h0 w0 be oe H st h a w
 |_,_,_=>False
variable {be:Nat->Nat} {oe:Nat->Value} {H:Hp} {st:St} {h:Hp} {a:Act} {w:World}
theorem e0i{Q:Ex->St->Hp->Prop}{id:Nat}{d:Bool}(b:Sim P h0 w0 be oe H st h a w)(f:ev P (.region id ops d) Q st h):(Code.region id ops d).wp P (d0i P h0 w0 Q) a w:=by
 cases d with
 |false =>
  simp only[ev]at f
  split at f
  ·exact wp_region_list ((r0j (h0:=h0) (w0:=w0) f.1 f.2 λa w st h be oe H l b=>⟨st,h,be,oe,H,l,b⟩).2 b)
  ·exact wp_region_list (L05 (K:=λrs=>Q .normal rs.st rs.h) (λrs a w be oe H l b=>⟨rs.st,rs.h,be,oe,H,l,b⟩) _ 0 ⟨st,h,[],[]⟩ a w be oe H (λj=>by simp) b b08.init f)
 |true =>
  rcases f with⟨⟨p,n⟩,f⟩|f|f|⟨⟨p,n⟩,f⟩|⟨m,⟨p,n⟩,f⟩
  ·refine wp_region_quiet (C:=CW H w) p n (T2.drawn b.mv.vis _ (by grind)) ?_
   exact G0g (K:=λrs=>Q .normal rs.st rs.h) (λrs a w be oe H l b=>⟨rs.st,rs.h,be,oe,H,l,b⟩) _ 0 ⟨st,h,[],[]⟩ a (λj=>by simp) b b08.init f
  ·exact f.elim
  ·split at f
   ·obtain⟨⟨p,n⟩,f⟩:=f
    exact wp_region_any p (K0n (b.still (hf:=H) (λ_ _ h=>h) (T2.drawn b.mv.vis _ (by grind))) n f λa w st h be oe H l b=>⟨st,h,be,oe,H,l,b⟩)
   ·rename_i o J
    obtain⟨⟨p,n⟩,f⟩:=f
    simp only[Bool.and_eq_true]at n
    obtain⟨A,G,D⟩:=M0n J
    have s:=b.still (hf:=H) (λ_ _ h=>h) (T2.drawn b.mv.vis (w.drawn+1) (by grind))
    obtain⟨Inv,t,u,x,q⟩:=n0j (ops:=(n01 ops.toList).toArray) (Q:=d0i P h0 w0 Q) (R:=λa w=>o.wp P a w (λa w=>d0i P h0 w0 Q .normal a w) (d0i P h0 w0 Q)) s (by simpa using n.1) (by simpa using f) λa w st h be oe H l b=>by
     refine Oper.wp_mono (λL N I=>?_) (d00 (Q:=d0i P h0 w0 Q) b l)
     obtain⟨av,st',B,v,be',oe',z,l,rfl,s,g,M⟩:=I
     obtain⟨y,t,u,x,q⟩:=g05 (ops := #[o]) (i:=0) (rs:=⟨st',B,[],[]⟩) (ch:=[]) (c:=true) (v:=v) s b08.init (by rfl) rfl (λ_=>g) (λh=>by cases h) l
     exact⟨y.st,y.h,be',oe',z,t,q⟩
    exact wp_region_any p (y0s (ops0:=(n01 ops.toList).toArray) (o:=o) (Inv:=Inv) (by simpa using A) (λk o l e F E=>by
     have:=d04 n.2 k o l e F E
     omega) G (λk l=>e06 D k (by simpa using l) (by simp at l;omega)) u x q)
  ·exact wp_region_any p ((r0j (h0:=h0) (w0:=w0) n f λa w st h be oe H l b=>⟨st,h,be,oe,H,l,b⟩).1 (b.still (hf:=H) (λ_ _ h=>h) (T2.drawn b.mv.vis _ (by grind))))
  ·exact wp_region_any p (O0n n f (λa w st h be oe H l b=>⟨st,h,be,oe,H,l,b⟩) (b.still (hf:=H) (λ_ _ h=>h) (T2.drawn b.mv.vis _ (by grind))))
end
end Go.H
namespace Go.H
set_option linter.unusedVariables false
set_option linter.unusedSimpArgs false
theorem y04(x:Nat):∀ l:List Nat,R09 x l=true↔x∈l
 | []=>by simp[R09]
 |y::r=>by
  simp only[R09]
  cases h:Nat.beq x y with
  |true=>simp_all
  |false=>simp[y04 x r,Nat.ne_of_beq_eq_false h]
theorem c07{x:Nat}{l:List Nat}(h:R09 x l=false):x ∉ l:=λa=>by grind[y04]
theorem H0g:∀(l:List Nat) (K:List Nat->Prop),J0b l K=K l
 | [],K=>rfl
 |x::r,K=>by simp only[J0b,H0g r]
theorem Q0a:∀(n:Nat) {K:List Value->Prop},z0a n K->∀ vs:List Value,vs.length=n->K vs
 |0,K,h,vs,a=>by rw[List.length_eq_zero_iff.1 a];exact h
 |n+1,K,h,[],a=>by cases a
 |n+1,K,h,v::vs,a=>Q0a n (h v) vs (by simpa using a)
theorem R0a:∀(n:Nat) {K:List (List (List Value))->Prop},A0a n K->∀ os:List (List (List Value)),os.length=n->K os
 |0,K,h,vs,a=>by rw[List.length_eq_zero_iff.1 a];exact h
 |n+1,K,h,[],a=>by cases a
 |n+1,K,h,v::vs,a=>R0a n (h v) vs (by simpa using a)
theorem X09{c:Type}:∀(a b:List c) (K:List c->List c->Prop),W07 a.length (a++b) K=K a b
 | [],b,K=>rfl
 |x::a,b,K=>by simp only[List.length_cons,List.cons_append,W07,X09 a b]
theorem a0c(e:St):∀(l:List Nat) {K:List Value->Prop},q0q l e K->∃ vs,vs.length=l.length/\K vs /\
  ∀ acc t,(Z2 (K0b l vs acc) t=Z2 acc t/\t ∉ l)∨(∃ v,Z2 (K0b l vs acc) t = .val v/\rdA e (Z2 e.fr t) = .val v)
 | [],K,h=>⟨[],rfl,h,λacc t => .inl ⟨rfl,by simp⟩⟩
 |b::r,K,h=>by
  simp only[q0q]at h
  split at h
  ·rename_i v i
   obtain⟨vs,c,d,f⟩:=a0c e r h
   refine⟨v::vs,by simp[c],d,λacc t=>?_⟩
   rcases f ((b,.val v)::acc) t with⟨a,g⟩|a
   ·by_cases e':b=t
    ·simp_all[K0b,Z3,if_true]
    simp_all[K0b,Z3,if_neg,Ne.symm]
   ·exact .inr a
  ·exact h.elim
def k05(B:Nat->Nat->Prop):List S5->Prop
 | []=>True
 | .val _::r=>k05 B r
 | .own i k::r=>B i k/\k05 B r
def ShC(e:St):List S5->List S5->Prop
 | [],[]=>True
 | .val _::r,.val _::a=>ShC e r a
 | .own i _::r,.own j c::a=>i=j/\(∃ b,rdA e (.own j c) = .own j b)/\ShC e r a
 |_,_=>False
def EqC(e:St):List S5->List S5->Prop
 | [],[]=>True
 | .val v::r,.val d::a=>v=d/\EqC e r a
 | .own i _::r,.own j c::a=>i=j/\(∃ b,rdA e (.own j c) = .own j b)/\EqC e r a
 |_,_=>False
theorem EqC.sh{e:St}:∀ {cs cs':List S5},EqC e cs cs'->ShC e cs cs'
 | [],[],_=>trivial
 | .val _::r,.val _::a,h=>EqC.sh (cs:=r) (cs':=a) h.2
 | .own i _::r,.own j b::a,h=>⟨h.1,h.2.1,EqC.sh (cs:=r) (cs':=a) h.2.2⟩
 | [],_::_,h=>h.elim
 | .val _::_,[],h=>h.elim
 | .own _ _::_,[],h=>h.elim
 | .val _::_,.own _ _::_,h=>h.elim
 | .own _ _::_,.val _::_,h=>h.elim
theorem S0a{e:St}{i k a b:Nat}(h:rdA e (.own i k) = .own a b):a=i/\b=k:=by
 grind[rdA]
theorem d07{g e:St}:∀(cs cs':List S5),u06 g e cs cs'=true->ShC e cs cs'
 | [],[],_=>trivial
 | .val _::r,.val _::c,h=>d07 r c h
 | .own i _::r,.own j k::c,h=>by
  simp only[u06]at h
  split at h
  ·rename_i a b f d
   obtain⟨rfl,_⟩:=S0a d
   exact⟨Nat.eq_of_beq_eq_true f,⟨_,d⟩,d07 r c h⟩
  ·cases h
 | [],_::_,h=>by cases h
 | .val _::_,[],h=>by cases h
 | .own _ _::_,[],h=>by cases h
 | .val _::_,.own _ _::_,h=>by cases h
 | .own _ _::_,.val _::_,h=>by cases h
theorem b0c(e:St):∀(cs cs':List S5),ShC e cs cs'->∀ {K:List Value->Prop},a0j cs' e K->∃ vs,K vs/\∃ a,(∀(f:List Value) (c:List S5->List Value->Prop),l04 cs (vs++f) c=c a f)/\EqC e a cs' /\
  (∀ B,k05 B cs->k05 B a)
 | [],[],_,K,h=>⟨[],h,[],λ_ _=>rfl,trivial,λ_ h=>h⟩
 | .val _::r,.val v::n,b,K,h=>by
  obtain⟨vs,g,a,o,l,m⟩:=b0c e r n b (K:=λvs=>K (v::vs)) h
  exact⟨v::vs,g,.val v::a,λf c=>by grind[l04],⟨rfl,l⟩,λB d=>m B d⟩
 | .own i k::r,.own j p::n,b,K,h=>by
  obtain⟨vs,g,a,o,l,m⟩:=b0c e r n b.2.2 (K:=K) h
  exact⟨vs,g,.own i k::a,λf c=>by simp only[l04,o],⟨b.1,b.2.1,l⟩,λB d=>⟨d.1,m B d.2⟩⟩
 | [],_::_,h,_,_=>h.elim
 | .val _::_,[],h,_,_=>h.elim
 | .own _ _::_,[],h,_,_=>h.elim
 | .val _::_,.own _ _::_,h,_,_=>h.elim
 | .own _ _::_,.val _::_,h,_,_=>h.elim
theorem c0c(e:St):∀(cs:List S5) {K:List Value->Prop},a0j cs e K->∃ vs,K vs/\∀(b:List Value) (a:List S5->List Value->Prop),l04 cs (vs++b) a=a cs b
 | [],K,h=>⟨[],h,λ_ _=>rfl⟩
 | .val v::r,K,h=>by
  obtain⟨vs,c,d⟩:=c0c e r (K:=λvs=>K (v::vs)) h
  grind[l04]
 | .own i k::r,K,h=>by
  obtain⟨vs,c,d⟩:=c0c e r (K:=K) h
  grind[l04]
theorem I0g{a:Type}(l:List a)(i:Nat)(x:a)(h:nth l i=some x):I00 l i x=l:=by
 grind[b05,List.getElem?_eq_some_iff,C0a,List.set_getElem_self]
theorem A0m(e:St):∀(is:List Nat) {K:List Value->Prop},l0e is e K->∃ a,K a/\∀ b,r06 is a e.bx b=b e.bx
 | [],K,h=>⟨[],h,λ_=>rfl⟩
 |i::r,K,h=>by
  simp only[l0e]at h
  split at h
  ·rename_i cs ty j
   obtain⟨vs,c,d⟩:=c0c e cs h
   obtain⟨a,f,g⟩:=A0m e r c
   grind[r06,I0g]
  ·exact h.elim
theorem B0m(e:St):∀(is:List Nat) {K:List (List (List Value))->Prop},t0g is e K->∃ os,os.length=is.length/\K os/\∀ a,s06 is os e.ow a=a e.ow
 | [],K,h=>⟨[],rfl,h,λ_=>rfl⟩
 |i::r,K,h=>by
  simp only[t0g]at h
  split at h
  ·rename_i g ty sz by_ nn xs f
   obtain⟨j,b,c,d⟩:=B0m e r h
   grind[s06,I0g]
  ·exact h.elim
theorem C0m(e:St):∀(is:List Nat) (bx:List BSt),(∀ i∈is,∃ cs ty cs',nth bx i=some (.live cs ty)/\nth e.bx i=some (.live cs' ty)/\ShC e cs cs')->∀ {K:List Value->Prop},l0e is e K ->
  ∃ d,K d/\∃ b,(∀ f,r06 is d bx f=f b)/\b.length=bx.length/\(∀ i,i ∉ is->nth b i=nth bx i) /\
   (∀ i∈is,∃ c ty cs',nth b i=some (.live c ty)/\nth e.bx i=some (.live cs' ty)/\EqC e c cs') /\
   (∀ B,(∀ i cs ty,nth bx i=some (.live cs ty)->k05 B cs)->(∀ i cs ty,nth b i=some (.live cs ty)->k05 B cs))
 | [],bx,_,K,h=>⟨[],h,bx,λ_=>rfl,rfl,λ_ _=>rfl,by simp,λ_ h=>h⟩
 |i::r,bx,t,K,h=>by
  obtain⟨cs,ty,cs',q,g,s⟩:=t i mS
  simp only[l0e,g]at h
  obtain⟨vs,v,c,D,n,E⟩:=b0c e cs cs' s h
  have k:=Z01 q
  have u:∀ j∈r,∃ l p m,nth (I00 bx i (.live c ty)) j=some (.live l p)/\nth e.bx j=some (.live m p)/\ShC e l m:=λj a=>by
   rw[D7 _ _ _ k]
   by_cases ej:j=i
   ·subst ej
    rw[if_pos rfl]
    exact⟨c,ty,cs',rfl,g,n.sh⟩
   grind
  obtain⟨d,w,b,F,x,o,y,z⟩:=C0m e r _ u v
  refine⟨vs++d,w,b,λf=>by grind[r06],by rw[x,C05],λj a=>?_,λj a=>?_,λB C=>z B λj A G a=>?_⟩
  ·simp only[List.mem_cons,not_or]at a
   rw[o j a.2,D7 _ _ _ k,if_neg a.1]
  ·by_cases hr:j∈r
   ·exact y j hr
   ·rcases List.mem_cons.1 a with rfl|a
    ·refine⟨c,ty,cs',?_,g,n⟩
     rw[o j hr,D7 _ _ _ k,if_pos rfl]
    ·exact absurd a hr
  grind[D7]
theorem D0m(g:St):∀(is:List Nat) (ow:List Own),(∀ i∈is,∃ f e sz by_ nn k c a xs,nth ow i=some ⟨f,.live e sz by_ nn k⟩/\nth g.ow i=some ⟨c,.live e sz by_ a xs⟩/\(nn=true->a=true)) ->
  ∀ {K:List (List (List Value))->Prop},t0g is g K->∃ os,os.length=is.length/\K os/\∃ d,(∀ l,s06 is os ow l=l d)/\(∀ i,i ∉ is->nth d i=nth ow i) /\
   (∀ i∈is,∃ f e sz by_ nn c a xs,nth d i=some ⟨f,.live e sz by_ nn xs⟩/\nth g.ow i=some ⟨c,.live e sz by_ a xs⟩/\(nn=true->a=true)) /\
   (∀ i,(nth d i).map (·.stamp)=(nth ow i).map (·.stamp))
 | [],ow,_,K,h=>⟨[],rfl,h,ow,λ_=>rfl,λ_ _=>rfl,by simp,λ_=>rfl⟩
 |i::r,ow,w,K,h=>by
  obtain⟨f,e,sz,by_,nn,k,c,a,xs,p,q,v⟩:=w i mS
  simp only[t0g,q]at h
  have m:=Z01 p
  have x:∀ j∈r,∃ C o u n t k c a D,nth (I00 ow i ⟨f,.live e sz by_ nn xs⟩) j=some ⟨C,.live o u n t k⟩/\nth g.ow j=some ⟨c,.live o u n a D⟩/\(t=true->a=true):=λj b=>by
   rw[D7 _ _ _ m]
   grind
  obtain⟨os,y,z,d,A,s,B,E⟩:=D0m g r _ x h
  refine⟨xs::os,by simp[y],z,d,λl=>by simp only[s06,p,A],λj b=>?_,λj b=>?_,λj=>?_⟩
  ·simp only[List.mem_cons,not_or]at b
   rw[s j b.2,D7 _ _ _ m,if_neg b.1]
  ·by_cases hr:j∈r
   ·exact B j hr
   ·rcases List.mem_cons.1 b with rfl|b
    ·refine⟨f,e,sz,by_,nn,c,a,xs,?_,q,v⟩
     rw[s j hr,D7 _ _ _ m,if_pos rfl]
    ·exact absurd b hr
  grind[D7]
theorem h08{A:Ann}{m e:St}:∀(i:Nat) (bx c:List BSt),L0b A m e i bx c->∀ k b,nth bx k=some b ->
  (i+k∈A.boxes/\∃ cs ty cs',b = .live cs ty/\nth c k=some (.live cs' ty)/\ShC e cs cs')∨(i+k ∉ A.boxes/\nth c k=some b/\h0l A.owns b=true)
 |i,[],_,_,k,b,a=>by cases k<;>cases a
 |i,x::r,[],h,_,_,_=>by cases h
 |i,x::r,y::f,h,k,b,a=>by
  simp only[L0b]at h
  split at h
  ·rename_i d
   split at h
   ·rename_i cs ty cs' n
    split at h
    ·rename_i g j
     have:=Nat.eq_of_beq_eq_true g
     subst this
     cases k with
     |zero=>cases a;exact .inl ⟨(y04 _ _).1 d,cs,ty,cs',rfl,rfl,d07 _ _ j⟩
     |succ k=>have:=h08 (i+1) r f h k b a;rwa [show i+1+k=i+(k+1) from by omega]at this
    ·exact h.elim
   ·exact h.elim
  ·rename_i d
   split at h
   ·rename_i l
    obtain⟨rfl,h⟩:=h
    cases k with
    |zero=>cases a;exact .inr ⟨c07 d,rfl,l⟩
    |succ k=>have:=h08 (i+1) r f h k b a;rwa [show i+1+k=i+(k+1) from by omega]at this
   ·exact h.elim
theorem i08{A:Ann}:∀(i:Nat) (ow f:List Own),M0b A i ow f->∀ k b,nth ow k=some b ->
  (i+k∈A.owns/\∃ g e sz by_ nn n j d xs,b=⟨g,.live e sz by_ nn n⟩/\nth f k=some ⟨j,.live e sz by_ d xs⟩/\(nn=true->d=true)/\(i+k∈A.kept->g=j))∨(i+k ∉ A.owns/\nth f k=some b)
 |i,[],_,_,k,b,a=>by cases k<;>cases a
 |i,x::r,[],h,_,_,_=>by cases h
 |i,x::r,y::m,h,k,b,a=>by
  simp only[M0b]at h
  split at h
  ·rename_i c
   split at h
   ·rename_i g e sz by_ nn n j u v t d xs
    split at h
    ·rename_i o p q s l
     have:=Nat.eq_of_beq_eq_true o
     subst this
     have:=Nat.eq_of_beq_eq_true p
     subst this
     have:=Nat.eq_of_beq_eq_true q
     subst this
     cases k with
     |zero=>cases a;exact .inl ⟨(y04 _ _).1 c,_,_,_,_,_,_,_,_,_,rfl,rfl,(λh=>by subst h;exact s),λh=>by rw[show R09 i A.kept=true from(y04 _ _).2 h]at l;exact Nat.eq_of_beq_eq_true l⟩
     |succ k=>have:=i08 (i+1) r m h k b a;rwa [show i+1+k=i+(k+1) from by omega]at this
    ·exact h.elim
   ·exact h.elim
  ·rename_i c
   obtain⟨rfl,h⟩:=h
   cases k with
   |zero=>cases a;exact .inr ⟨c07 c,rfl⟩
   |succ k=>have:=i08 (i+1) r m h k b a;rwa [show i+1+k=i+(k+1) from by omega]at this
end Go.H
namespace Go.H
set_option linter.unusedVariables false
set_option linter.unusedSimpArgs false
def T0a(A:Ann)(st:St):AV->Prop
 | .val _ | .hel _ _ _ _ | .dead=>True
 | .agg cs=>q0m cs=true
 | .box i _=>i<st.bx.length
 | .own i k=>(i ∉ A.owns∨i∈A.kept)/\stamp st i=some k
 | .oel _ _ _ _ _=>False
theorem E0m{st:St}{av:AV}{i off:Nat}(h:rdA st av = .box i off):i<st.bx.length:=by
 cases av with
 |box j o =>
  simp only[rdA]at h
  split at h
  all_goals simp_all[Z01]
 |own j k =>
  grind[rdA]
 |oel j s idx sz k =>
  grind[rdA]
 |_=>cases h
theorem d0c{st:St}{av:AV}{i k:Nat}(h:rdA st av = .own i k):stamp st i=some k:=by
 grind[Q06,stamp]
theorem Y09(A:Ann)(ds:List Nat)(st:St):∀(l:List (Nat×AV)) {K:List (Nat×AV)->Prop},t06 A ds st l K->∃ a,K a/\∀ t,t ∉ ds ->
  Z2 a t = .dead∨(Z2 a t=rdA st (Z2 l t)/\T0a A st (Z2 a t))
 | [],K,h=>⟨[],h,λt _ => .inl rfl⟩
 |(j,av)::r,K,h=>by
  have put:∀ c,(c = .dead∨(c=rdA st av/\T0a A st c))->(t06 A ds st r λl=>K ((j,c)::l))->∃ a,K a/\∀ t,t ∉ ds ->
    Z2 a t = .dead∨(Z2 a t=rdA st (Z2 ((j,av)::r) t)/\T0a A st (Z2 a t)):=by
   intro c s h
   obtain⟨a,d,f⟩:=Y09 A ds st r h
   refine⟨_,d,λt g=>?_⟩
   rw[Z3,Z3]
   grind
  simp only[t06]at h
  split at h
  ·rename_i n
   obtain⟨a,d,f⟩:=Y09 A ds st r h
   refine⟨a,d,λt g=>?_⟩
   rw[Z3,if_neg (λe=>g (by grind[y04]))]
   exact f t g
  ·split at h
   ·rename_i i k b
    split at h
    ·simp_all
    ·rename_i n
     refine put _ (.inr ⟨b.symm,?_,d0c b⟩) h
     grind[R09,c07,y04,absurd]
   ·simp_all
   ·rename_i cs b
    split at h
    ·rename_i p
     exact put _ (.inr ⟨b.symm,p⟩) h
    simp_all
   ·rename_i d f m
    refine put _ (.inr ⟨rfl,?_⟩) h
    cases b:rdA st av with
    |own i k=>grind
    |oel i q idx sz k=>grind
    |agg cs=>exact absurd b (m cs)
    |box i o=>exact E0m b
    |val v=>trivial
    |hel q idx sz k=>trivial
    |dead=>trivial
def z0j(st:St)(t:Nat)(av:AV):Prop :=
 av = .dead∨(∃ i k,av = .own i k/\stamp st i=some k/\rdA st (Z2 st.fr t) = .own i k)∨(∃ i o,av = .box i o/\i<st.bx.length/\rdA st (Z2 st.fr t) = .box i o)
theorem Z09(A:Ann)(st:St):∀(l:List Nat) (acc:List (Nat×AV)) {K:List (Nat×AV)->Prop},y09 A st l acc K->(∀ p∈acc,z0j st p.1 p.2) ->
  ∃ a,K a/\(∀ p∈a,p.1∈l∨p∈acc)/\(∀ p∈a,z0j st p.1 p.2)/\(∀ t∈l,t ∉ A.vars->∃ av,(t,av)∈a)/\(∀ p∈acc,p∈a)
 | [],acc,K,h,f=>⟨acc,h,λp c => .inr c,f,by simp,λ_ h=>h⟩
 |d::r,acc,K,h,f=>by
  have put:∀ e,z0j st d e->y09 A st r ((d,e)::acc) K->∃ a,K a/\(∀ p∈a,p.1∈d::r∨p∈acc)/\(∀ p∈a,z0j st p.1 p.2)/\(∀ t∈d::r,t ∉ A.vars->∃ av,(t,av)∈a)/\(∀ p∈acc,p∈a):=by
   intro e s h
   obtain⟨a,g,j,m,q,n⟩:=Z09 A st r _ h (λp c=>by
    grind)
   grind
  simp only[y09]at h
  split at h
  ·rename_i u
   obtain⟨a,g,j,m,q,n⟩:=Z09 A st r _ h f
   refine⟨a,g,λp c=>(j p c).imp (mC _) id,m,λt v w=>?_,n⟩
   grind[absurd,y04]
  ·split at h
   ·rename_i i k b
    exact put _ (.inr (.inl ⟨i,k,rfl,d0c b,b⟩)) h
   ·rename_i i o b
    exact put _ (.inr (.inr ⟨i,o,rfl,E0m b,b⟩)) h
   ·exact put _ (.inl rfl) h
theorem F0e:∀(b a:List (Nat×AV)) (t:Nat),(∃ av,(t,av)∈b/\Z2 (b++a) t=av)∨((∀ av,(t,av) ∉ b)/\Z2 (b++a) t=Z2 a t)
 | [],a,t => .inr ⟨by simp,rfl⟩
 |(f,av)::r,a,t=>by
  simp only[List.cons_append]
  rw[Z3]
  by_cases e:f=t
  ·grind
  ·rw[if_neg e]
   rcases F0e r a t with⟨g,c,d⟩|⟨c,d⟩
   all_goals grind
theorem G0e{c e:St}:∀(b:List (Nat×AV)),T0c c e b=true->∀ t av,(t,av)∈b->(∀ i k,av = .own i k->∃ a,rdA e (Z2 e.fr t) = .own i a)/\(∀ i o,av = .box i o->rdA e (Z2 e.fr t) = .box i o)
 | [],_,t,av,h=>by cases h
 |(f,x)::r,g,t,av,h=>by
  have d:T0c c e r=true/\(∀ i k,x = .own i k->∃ a,rdA e (Z2 e.fr f) = .own i a)/\(∀ i o,x = .box i o->rdA e (Z2 e.fr f) = .box i o):=by
   simp only[T0c]at g
   grind[Nat.eq_of_beq_eq_true,absurd]
  rcases List.mem_cons.1 h with h|h
  ·cases h;exact d.2
  ·exact G0e r d.1 t av h
theorem a0a{fr:List (Nat×AV)}:∀(a:List (Nat×AV)),u0g fr a=B0n a->∀ t,Z2 a t = .dead∨Z2 fr t=Z2 a t
 | [],_,t => .inl rfl
 |(b,av)::r,h,t=>by
  rw[Z3]
  simp only[u0g,B0n]at h
  cases hd:g0l av with
  |true =>
   rw[hd]at h
   by_cases e:b=t
   ·rw[if_pos e]
    left
    cases av<;>first|rfl|cases hd
   ·rw[if_neg e]
    exact a0a r h t
  |false =>
   rw[hd]at h
   simp only[List.cons.injEq]at h
   by_cases e:b=t
   ·grind
   ·rw[if_neg e]
    exact a0a r h.2 t
theorem e0c{e l:St}{be:Nat->Nat}{oe:Nat->Value}:∀ {d cs':List S5} {vs:List Value},EqC e d cs'->k05 (λj k=>∃ c,stamp l j=some c/\k<=c) d->D2 e oe cs' vs->D2 l oe d vs
 | [],[],[],_,_,_=>trivial
 | .val v::r,.val q::o,x::vs,h,a,g=>⟨by rw[show x=q from g.1,h.1];rfl,e0c (be:=be) h.2 a g.2⟩
 | .own i k::r,.own j s::o,x::vs,h,a,g=>by
  obtain⟨n,⟨b,f⟩,h⟩:=h
  subst n
  obtain⟨⟨c,s1,s2⟩,a⟩:=a
  refine⟨⟨c,s1,s2,λ_=>?_⟩,e0c (be:=be) h a g.2⟩
  obtain⟨_,m⟩:=S0a f
  subst m
  obtain⟨t,p,u,w⟩:=g.1
  rw[d0c f]at p
  grind
 | [],_::_,_,h,_,_=>h.elim
 | .val _::_,[],_,h,_,_=>h.elim
 | .own _ _::_,[],_,h,_,_=>h.elim
 | .val _::_,.own _ _::_,_,h,_,_=>h.elim
 | .own _ _::_,.val _::_,_,h,_,_=>h.elim
 |_,_::_,[],_,_,g=>g.elim
 |_,[],_::_,_,_,g=>g.elim
theorem e07{os:List Nat}{e c:St}{oe:Nat->Value}(d:∀ j,j ∉ os->∀ a,stamp c j=some a->stamp e j=some a):∀ {cs:List S5} {vs:List Value},y0a os cs=true ->
  k05 (λj k=>∃ a,stamp c j=some a/\k<=a) cs->D2 e oe cs vs->D2 c oe cs vs
 | [],[],_,_,_=>trivial
 | .val v::r,x::vs,h,b,g=>⟨g.1,e07 d h b g.2⟩
 | .own i k::r,x::vs,h,b,g=>by
  simp only[y0a]at h
  split at h
  ·cases h
  ·rename_i l
   obtain⟨⟨a,s1,s2⟩,b⟩:=b
   refine⟨⟨a,s1,s2,λf=>?_⟩,e07 d h b g.2⟩
   obtain⟨m,n,o,p⟩:=g.1
   grind[c07]
 | [],_::_,_,_,g=>g.elim
 |_::_,[],_,_,g=>g.elim
section
variable {P:Program} {h0:Hp} {w0:World} {be:Nat->Nat} {oe:Nat->Value} {H:Hp} {h:Hp} {a:Act} {w:World}
theorem d0p{A:Ann}{e l:St}(c:Sim P h0 w0 be oe H e h a w)(N:e.n=l.n)
  (I:∀ i b,nth l.bx i=some b->(∃ C ty cs',b = .live C ty/\nth e.bx i=some (.live cs' ty)/\EqC e C cs')∨(nth e.bx i=some b/\h0l A.owns b=true))
  (O:∀ i o,nth l.ow i=some o->(∃ c t sz by_ nn B q xs,o=⟨c,.live t sz by_ nn xs⟩/\nth e.ow i=some ⟨B,.live t sz by_ q xs⟩/\(nn=true->q=true))/\i∈A.owns∨(nth e.ow i=some o/\i ∉ A.owns))
  (G:∀ i cs ty,nth l.bx i=some (.live cs ty)->k05 (λj k=>∃ c,stamp l j=some c/\k<=c) cs)
  (hf:∀ t,I2 l be oe (Z2 l.fr t) (a.tmps.getD t undef)):Sim P h0 w0 be oe H l h a w:=by
 have Q:∀ j,j ∉ A.owns->∀ c,stamp l j=some c->stamp e j=some c:=λj s m Z=>by
  grind[stamp,nth,absurd]
 have E:∀ i cs ty,nth l.bx i=some (.live cs ty)->∃ cs',nth e.bx i=some (.live cs' ty):=λi cs ty f=>by
  grind
 have D:∀ i m t sz by_ nn xs,nth l.ow i=some ⟨m,.live t sz by_ nn xs⟩->∃ B q,nth e.ow i=some ⟨B,.live t sz by_ q xs⟩/\(nn=true->q=true):=λi m t sz by_ nn xs f=>by
  grind
 refine⟨c.mv,c.sub,λi cs ty f=>?_,λi b f=>?_,λi m t sz by_ nn xs f=>?_,λi m v f=>?_,λi j cs ty cs' U f s=>?_,λi j m t sz by_ nn xs s1 T S L R W g f s=>?_,λi cs ty j m t sz by_ nn xs f s=>?_,c.dfr,by rw[c.siz,N],hf⟩
 ·rcases I i _ f with⟨C,V,cs',x,d,p⟩|⟨d,p⟩
  ·cases x
   obtain⟨y,vs,z,F⟩:=c.box i cs' ty d
   exact⟨y,vs,e0c (be:=be) p (G i _ _ f) z,F⟩
  ·obtain⟨y,vs,z,F⟩:=c.box i cs ty d
   exact⟨y,vs,e07 Q p (G i _ _ f) z,F⟩
 ·rcases I i _ f with⟨C,V,cs',x,d,p⟩|⟨d,p⟩
  ·cases x
  ·exact c.pub i b d
 ·obtain⟨B,q,d,p⟩:=D i _ _ _ _ _ _ f
  obtain⟨y,z⟩:=c.own i _ _ _ _ _ _ d
  refine⟨y,z.imp (λ⟨J,K,X⟩=>⟨J,K,?_⟩) id⟩
  grind
 ·rcases O i _ f with⟨⟨s1,T,S,L,R,B,q,W,x,d,p⟩,_⟩|⟨d,_⟩
  ·cases x
  ·exact c.frz i m v d
 ·obtain⟨M,u⟩:=E i cs ty f
  obtain⟨Y,d⟩:=E j cs' U s
  exact c.bb i j _ _ _ _ u d
 ·obtain⟨_,_,u,_⟩:=D i _ _ _ _ _ _ f
  obtain⟨_,_,d,_⟩:=D j _ _ _ _ _ _ s
  exact c.oo i j _ _ _ _ _ _ _ _ _ _ _ _ g u d
 ·obtain⟨M,u⟩:=E i cs ty f
  obtain⟨_,_,d,_⟩:=D j _ _ _ _ _ _ s
  exact c.bo i _ _ j _ _ _ _ _ _ u d
end
end Go.H
namespace Go.H
set_option linter.unusedVariables false
set_option linter.unusedSimpArgs false
section
variable {P:Program} {h0:Hp} {w0:World} {be:Nat->Nat} {oe:Nat->Value} {H:Hp} {st:St} {h:Hp} {a:Act} {w:World}
theorem e0p(b:Sim P h0 w0 be oe H st h a w):∀ i cs ty,nth st.bx i=some (.live cs ty)->k05 (λj k=>∃ b,stamp st j=some b/\k<=b) cs:=by
 intro i cs ty l
 obtain⟨_,vs,g,_⟩:=b.box i cs ty l
 have:∀(cs:List S5) (vs:List Value),D2 st oe cs vs->k05 (λj k=>∃ b,stamp st j=some b/\k<=b) cs:=by
  intro cs
  induction cs with
  |nil=>intro vs _;trivial
  |cons c r d =>
   intro vs g
   cases vs with
   |nil=>exact g.elim
   |cons v vs =>
    cases c with
    |val x=>exact d vs g.2
    |own j k =>
     obtain⟨m,e,f,_⟩:=g.1
     exact⟨⟨m,e,f⟩,d vs g.2⟩
 exact this cs vs g
theorem A0j(p:Nat->Prop)(h:∃ n,p n):∃ n,p n/\∀ m,p m->n<=m:=by
 obtain⟨n,a⟩:=h
 induction n using Nat.strongRecOn with
 |_ n b =>
  grind
theorem F0m:∀(a b:List Value),r0q a b=true->a.length=b.length
 | [],[],_=>rfl
 |_::r,_::c,h=>by simp[F0m r c h]
 | [],_::_,h=>by cases h
 |_::_,[],h=>by cases h
theorem T0r{A:Ann}{ds:List Nat}{st e m:St}{f l:List (Nat×AV)}{y:List Value}{av1:∀ t,(Z2 (K0b A.vars y (f++l)) t=Z2 (f++l) t/\t ∉ A.vars)∨(∃ v,Z2 (K0b A.vars y (f++l)) t = .val v/\rdA e (Z2 e.fr t) = .val v)}
  (J:Sim P h0 w0 be oe H e h a w) (O:m.fr=K0b A.vars y (f++l)) (C:m.bx.length=st.bx.length) (D:∀ i,stamp m i=stamp st i)
  (ad:∀ i k,(i ∉ A.owns∨i∈A.kept)->stamp st i=some k->stamp e i=stamp m i)
  (aa:∀ p∈f,p.1∈ds) (K:∀ p∈f,z0j st p.1 p.2) (ab:∀ t∈ds,t ∉ A.vars->∃ av,(t,av)∈f)
  (s1:∀ t,t ∉ ds->T0a A st (Z2 l t)) (S:∀ t av,(t,av)∈f->(∀ i k,av = .own i k->∃ F,rdA e (Z2 e.fr t) = .own i F)/\(∀ i o,av = .box i o->rdA e (Z2 e.fr t) = .box i o))
  (T:∀ t,Z2 l t = .dead∨Z2 e.fr t=Z2 l t):∀ t,I2 m be oe (Z2 m.fr t) (a.tmps.getD t undef):=by
 intro t
 rw[O]
 have b:=J.fr t
 have n:=J.rdA b
 rcases av1 t with⟨q,af⟩|⟨v,q,L⟩
 ·rw[q]
  rcases F0e f l t with⟨av,s,u⟩|⟨s,u⟩
  ·rw[u]
   obtain⟨W,X⟩:=S t av s
   rcases K _ s with rfl|⟨i,k,rfl,d,_⟩|⟨i,o,rfl,M,_⟩
   ·trivial
   ·obtain⟨F,B⟩:=W i k rfl
    rw[B]at n
    refine⟨k,by rw[D,d],Nat.le_refl _,λ_=>?_⟩
    obtain⟨z,aj,Z,ah,ak,Q⟩:=Q06 B
    exact n.own_cur Q
   ·rw[X i o rfl]at n
    exact⟨by rw[C];exact M,n.2⟩
  ·rw[u]
   have U:t ∉ ds:=λac=>by
    grind
   rcases T t with N|z
   ·rw[N];trivial
   have d:=s1 t U
   rw[z]at b
   cases hl:Z2 l t with
   |val v=>rw[hl]at b;exact b
   |hel Y idx sz k=>rw[hl]at b;exact b
   |dead=>trivial
   |agg cs =>
    rw[hl]at b d
    obtain⟨vs,G,I⟩:=b
    refine⟨vs,G,?_⟩
    have:∀(cs:List S5) (vs:List Value),q0m cs=true->D2 e oe cs vs->D2 m oe cs vs:=by
     intro cs
     induction cs with
     |nil=>intro vs _ g;cases vs<;>exact g
     |cons c r V =>
      intro vs E g
      cases vs with
      |nil=>exact g.elim
      |cons v vs =>
       cases c with
       |val x=>exact⟨g.1,V vs E g.2⟩
       |own j k=>cases E
    exact this cs vs d I
   |box i o =>
    rw[hl]at b d
    exact⟨by rw[C];exact d,b.2⟩
   |own i k =>
    rw[hl]at b d
    obtain⟨ae,R⟩:=d
    obtain⟨ai,G,I,ag⟩:=b
    refine⟨k,by rw[D,R],Nat.le_refl _,λ_=>?_⟩
    grind
   |oel i Y idx sz k=>rw[hl]at d;exact d.elim
 ·rw[q]
  rw[L]at n
  exact n
theorem a0d:∀(l:List (Nat×Nat×Nat×Nat)) (st:St) (oe:Nat->Value) {K:St->Prop},Sim P h0 w0 be oe H st h a w->Y0i l st K->∃ st' oe',K st'/\Sim P h0 w0 be oe' H st' h a w
 | [],st,oe,K,d,c=>⟨st,oe,c,d⟩
 |(t,e,sz,by_)::r,⟨n,fr,bx,ow⟩,oe,K,d,c=>by
  simp only[Y0i]at c
  split at c
  ·rename_i j p
   rw[t0a]at c
   have f:=d.rdA (d.fr t)
   have k:a.tmps.getD t undef = .slice none 0 0:=by
    have:rdA ⟨n,fr,bx,ow⟩ (Z2 fr t) = .val (.slice none 0 0):=j
    rw[show rdA ⟨n,fr,bx,ow⟩ (Z2 (St.mk n fr bx ow).fr t) = .val (.slice none 0 0) from this]at f
    exact f
   have g:v06 h H (.slice none 0 0) e sz false []:=⟨by simp,.inl ⟨rfl,rfl,rfl⟩⟩
   obtain⟨s1,m⟩:=d.newOwn (by_:=by_) (λb o i=>i) (T2.refl d.mv.vis) g (by simp[Value.ownBlock])
   refine a0d r _ _ (s1.refr (fr:=(t,.own ow.length 0)::fr) λu=>?_) c
   rw[Z3]
   by_cases eu:t=u
   ·subst eu
    rw[if_pos rfl,k]
    exact⟨0,by simp[stamp,V02],Nat.le_refl _,λ_=>by simp⟩
   ·rw[if_neg eu]
    exact s1.fr u
  ·exact c.elim
theorem U0a:∀(l:List (Nat×Nat×Nat×Nat×Nat)) (st:St) (oe:Nat->Value) {K:St->Prop},Sim P h0 w0 be oe H st h a w->k0e l st K->∃ st' oe',K st'/\Sim P h0 w0 be oe' H st' h a w
 | [],st,oe,K,g,f=>⟨st,oe,f,g⟩
 |(i,k,e,sz,by_)::r,⟨n,fr,bx,ow⟩,oe,K,g,f=>by
  simp only[k0e]at f
  split at f
  rotate_left
  ·exact f.elim
  rename_i cs ty B
  split at f
  rotate_left
  ·exact f.elim
  rename_i N
  rw[t0a]at f
  have J:v06 h H (.slice none 0 0) e sz false []:=⟨by simp,.inl ⟨rfl,rfl,rfl⟩⟩
  obtain⟨s1,W⟩:=g.newOwn (by_:=by_) (λb o L=>L) (T2.refl g.mv.vis) J (by simp[Value.ownBlock])
  have A:=Z01 B
  refine U0a r _ (λj=>if j=ow.length then .slice none 0 0 else oe j) ?_ f
  have q:a7 ⟨n,fr,bx,ow ++ [⟨0,.live e sz by_ false []⟩]⟩ be (λj=>if j=ow.length then .slice none 0 0 else oe j) ⟨n,fr,I00 bx i (.live (I00 cs k (.own ow.length 0)) ty),ow ++ [⟨0,.live e sz by_ false []⟩]⟩ be (λj=>if j=ow.length then .slice none 0 0 else oe j) :=
   ⟨by simp[C05],λ_ _=>rfl,λi g h=>⟨g,h,Nat.le_refl _,λ_=>rfl⟩⟩
  have u:∀ j cs' m,nth (I00 bx i (.live (I00 cs k (.own ow.length 0)) ty)) j=some (.live cs' m)->∃ D,nth bx j=some (.live D m):=λj cs' m d=>by
   grind[D7]
  refine⟨s1.mv,s1.sub,λj cs' m d=>?_,λj b d=>?_,s1.own,s1.frz,λj x S Z T aa F G=>?_,s1.oo,λj cs' m x X V Y R nn xs d M=>?_,s1.dfr,s1.siz,λt=>(s1.fr t).grow q⟩
  ·rw[D7 _ _ _ A]at d
   split at d
   ·rename_i E
    subst E
    cases d
    obtain⟨y,vs,p,z⟩:=s1.box j cs ty B
    refine⟨y,vs,?_,z⟩
    obtain⟨v,ab,Q⟩:=p.nth N
    have O:v = .slice none 0 0:=Q
    have:=(p.grow q).upd (k:=k) (c := .own ow.length 0) (v:=v) (by rw[O];exact⟨0,by simp[stamp,V02],Nat.le_refl _,λ_=>by simp⟩)
    rwa [show vs.set k v=vs from by
     grind[List.getElem?_eq_some_iff,List.set_getElem_self]]at this
   ·obtain⟨y,vs,p,z⟩:=s1.box j cs' m d
    exact⟨y,vs,p.grow q,z⟩
  ·rw[D7 _ _ _ A]at d
   split at d
   ·cases d
   ·exact s1.pub j b d
  ·obtain⟨C,s⟩:=u _ _ _ F
   obtain⟨U,I⟩:=u _ _ _ G
   exact s1.bb j x _ _ _ _ s I
  ·obtain⟨C,s⟩:=u _ _ _ d
   exact s1.bo j _ _ x _ _ _ _ _ _ s M
theorem b0a:∀(l:List Nat) {st:St} {h:Hp} {K:St->Hp->Prop},Sim P h0 w0 be oe H st h a w->Z0i l st h K->∃ st' e,K st' e/\Sim P h0 w0 be oe H st' e a w
 | [],st,h,K,b,c=>⟨st,h,c,b⟩
 |t::r,st,h,K,b,c=>by
  simp only[Z0i]at c
  obtain⟨⟨n,fr,bx,ow⟩,e,d,s1,_⟩:=s03 b (b.rdA (b.fr t)) c
  dsimp only at d
  split at d
  ·refine b0a r (s1.refr (fr:=(t,.val (a.tmps.getD t undef))::fr) λu=>?_) d
   rw[Z3]
   by_cases eu:t=u
   ·subst eu
    rw[if_pos rfl]
    rfl
   ·rw[if_neg eu]
    exact s1.fr u
  ·exact d.elim
set_option maxHeartbeats 1000000 in
theorem n0l{Y:Code}{O:List Nat}{Q:Ex->St->Hp->Prop}
  (C:∀(Q:Ex->St->Hp->Prop) (st:St) (h:Hp) (a:Act) (w:World) (be:Nat->Nat) (oe:Nat->Value) (H:Hp),Sim P h0 w0 be oe H st h a w->ev P Y Q st h->Y.wp P (d0i P h0 w0 Q) a w)
  (f:Sim P h0 w0 be oe H st h a w) (g:r0m (λQ=>ev P Y Q) O Q st h):(Code.loop Y).wp P (d0i P h0 w0 Q) a w:=by
 obtain⟨A,aO,μ,g⟩:=g
 obtain⟨st,oe,g,f⟩:=a0d _ _ _ f g
 obtain⟨st,oe,g,f⟩:=U0a _ _ _ f g
 obtain⟨st,h,g,f⟩:=b0a _ f g
 unfold f0l at g
 obtain⟨D,bq,g,br⟩:=a0c st _ g
 obtain⟨ac,g,aE⟩:=A0m st _ g
 obtain⟨ab,bc,⟨Z,g⟩,aF⟩:=B0m st _ g
 rw[H0g]at g
 obtain⟨E,g,aS,aC,aD,_⟩:=Z09 A st _ _ g (by simp)
 obtain⟨V,a3,s1⟩:=Y09 A O st _ g
 have aT:∀ p∈E,p.1∈O:=λp R=>(aS p R).resolve_right (by simp)
 have bD:∀ t,t ∉ O->T0a A st (Z2 V t):=λt bm=>by
  rcases s1 t bm with h|⟨_,h⟩
  ·rw[h];trivial
  ·exact h
 have bf:=λ(vs:List Value) (ae:vs.length=(D++ac).length) (os:List (List (List Value))) (ap:os.length=ab.length)=>R0a _ (Q0a _ a3 vs ae) os ap
 let z:List Value->List BSt->List Own->St:=λD bx ow=>⟨st.n,K0b A.vars D (E++V),bx,ow⟩
 let Inv:Nat->Act->World->Prop:=λm a w=>∃(vs:List Value) (os:List (List (List Value))) (ag aA:List Value) (bx:List BSt) (ow:List Own) (ak:Hp) (be:Nat->Nat) (oe:Nat->Value) (H:Hp),
  vs.length=(D++ac).length/\os.length=ab.length/\vs=ag++aA/\ag.length=A.vars.length/\(∀ W,r06 A.boxes aA st.bx W=W bx)/\(∀ W,s06 A.owns os st.ow W=W ow) /\
   atI A aO μ m vs os ak/\Sim P h0 w0 be oe H (z ag bx ow) ak a w
 have aP:=e0p f
 have a1:∀ m a w,Inv m a w->Y.wp P (Exit.then (λa w=>∃ T,Inv T a w/\T<m) (d0i P h0 w0 Q)) a w:=by
  rintro m a w ⟨vs,os,ag,aA,bx,ow,ak,be,oe,H,ae,ap,rfl,bo,bg,bi,Z,aZ⟩
  have S:=M0o (bf _ ae os ap) Z
  rw[←bo,X09,bg,bi]at S
  refine Code.wp_mono (λe ai aB R=>?_) (C _ _ _ _ _ _ _ _ aZ S)
  cases e with
  |normal =>
   obtain⟨e,l,aQ,bB,aN,I,s2⟩:=R
   dsimp only at I
   obtain⟨e,l,I,s2⟩:=b0a _ s2 I
   unfold N0o at I
   split at I
   ·rename_i a2 bh
    obtain⟨bd,bl,bk,s⟩:=I
    have J:=Nat.eq_of_beq_eq_true a2
    have B:=h08 0 _ _ bl
    have af:=i08 0 _ _ bk
    simp only[Nat.zero_add]at B af
    unfold f0l at s
    obtain⟨ad,aH,s,bs⟩:=a0c e _ s
    have a6:∀(is:List Nat) {K:List Value->Prop},l0e is e K->(∀ i∈is,i∈A.boxes)->(∀ i∈is,(nth st.bx i).isSome=true) ->
      ∀ i∈is,∃ cs ty cs',nth st.bx i=some (.live cs ty)/\nth e.bx i=some (.live cs' ty)/\ShC e cs cs':=by
     intro is K _ bI aq i d
     cases hb:nth st.bx i with
     |none=>have:=aq i d;rw[hb]at this;cases this
     |some b =>
      grind
    have aq:∀ i∈A.boxes,(nth st.bx i).isSome=true:=by
     have aj:∀(is:List Nat) (vs:List Value) (bx:List BSt),(r06 is vs bx λ_=>True)->∀ i∈is,(nth bx i).isSome=true:=by
      intro is
      induction is with
      |nil=>intro vs bx _ i d;cases d
      |cons j r C =>
       intro vs bx u i d
       simp only[r06]at u
       split at u
       ·rename_i cs ty J
        rcases List.mem_cons.1 d with rfl|d
        ·rw[J];rfl
        ·have a4:∀(cs:List S5) (vs:List Value) (K:List S5->List Value->Prop),l04 cs vs K->∃ a b,K a b:=by
          intro cs
          induction cs with
          |nil=>intro vs K h;exact⟨_,_,h⟩
          |cons c r C =>
           intro vs K h
           cases c with
           |val v =>
            cases vs with
            |nil=>exact h.elim
            |cons bJ vs=>obtain⟨a,b,h⟩:=C _ _ h;exact⟨_,_,h⟩
           |own i k=>obtain⟨a,b,h⟩:=C _ _ h;exact⟨_,_,h⟩
         obtain⟨a,b,u⟩:=a4 _ _ _ u
         have:=C _ _ u i d
         rw[D7 _ _ _ (Z01 J)]at this
         grind
       ·exact u.elim
     exact aj A.boxes ac st.bx (by rw[aE];trivial)
    have bj:∀ i∈A.owns,(nth st.ow i).isSome=true:=by
     have aj:∀(is:List Nat) (vs:List (List (List Value))) (ow:List Own),(s06 is vs ow λ_=>True)->∀ i∈is,(nth ow i).isSome=true:=by
      intro is
      induction is with
      |nil=>intro vs bx _ i d;cases d
      |cons j r C =>
       intro vs ow u i d
       cases vs with
       |nil=>exact u.elim
       |cons x vs =>
        simp only[s06]at u
        split at u
        ·rename_i J
         rcases List.mem_cons.1 d with rfl|d
         ·rw[J];rfl
         ·have:=C _ _ u i d
          rw[D7 _ _ _ (Z01 J)]at this
          grind
        ·exact u.elim
     exact aj A.owns ab st.ow (by rw[aF];trivial)
    obtain⟨aM,s,N,aL,bE,bF,bG,bH⟩:=C0m e A.boxes st.bx (a6 _ s (λ_ h=>h) aq) s
    have ba:∀ i∈A.owns,∃ f F sz by_ nn ah U L xs,nth st.ow i=some ⟨f,.live F sz by_ nn ah⟩/\nth e.ow i=some ⟨U,.live F sz by_ L xs⟩/\(nn=true->L=true):=λi d=>by
     cases hb:nth st.ow i with
     |none=>have:=bj i d;rw[hb]at this;cases this
     |some b =>
      rcases af i b hb with⟨_,f,F,sz,by_,nn,ah,U,L,xs,rfl,l,al,_⟩|⟨q,_⟩
      ·exact⟨f,F,sz,by_,nn,ah,U,L,xs,rfl,l,al⟩
      ·exact absurd d q
    obtain⟨bC,bu,s,M,aJ,bv,bz,bA⟩:=D0m e A.owns st.ow ba s
    split at s
    rotate_left
    ·exact s.elim
    rename_i bb
    rw[←aH,X09,aL,aJ]at s
    obtain⟨aa,aX,an⟩:=t0q s
    have ar:∀ i,stamp (z ad N M) i=stamp st i:=λi=>by
     have:=bA i
     unfold stamp
     simp only[z]
     cases q:nth M i<;>cases l:nth st.ow i<;>rw[q,l]at this<;>simp at this<;>simp[this]
    refine⟨aa,⟨ad++aM,bC,ad,aM,N,M,l,aQ,bB,aN,?_,?_,rfl,aH,aL,aJ,aX,?_⟩,an⟩
    ·rw[←ae];exact F0m _ _ bb
    ·rw[bu]
     have:ab.length=A.owns.length:=bc
     rw[this]
    ·refine d0p (A:=A) s2 J ?_ ?_ ?_ ?_
     ·intro i b d
      by_cases y:i∈A.boxes
      ·obtain⟨aR,ty,cs',aw,ax,ay⟩:=bG i y
       have:nth N i=some b:=d
       rw[aw]at this
       cases this
       exact .inl ⟨aR,ty,cs',rfl,ax,ay⟩
      ·have:nth N i=some b:=d
       rw[bF i y]at this
       rcases B i b this with⟨q,_⟩|⟨_,l,al⟩
       ·exact absurd q y
       ·exact .inr ⟨l,al⟩
     ·intro i o d
      by_cases y:i∈A.owns
      ·obtain⟨aK,F,sz,by_,nn,U,L,xs,aw,ax,ay⟩:=bz i y
       have:nth M i=some o:=d
       rw[aw]at this
       cases this
       exact .inl ⟨⟨aK,F,sz,by_,nn,U,L,xs,rfl,ax,ay⟩,y⟩
      ·have:nth M i=some o:=d
       rw[bv i y]at this
       rcases af i o this with⟨q,_⟩|⟨_,l⟩
       ·exact absurd q y
       ·exact .inr ⟨l,y⟩
     ·intro i cs ty d
      have:=bH _ aP i cs ty d
      have a5:(λj k=>∃ f,stamp (z ad N M) j=some f/\k<=f)=(λj k=>∃ f,stamp st j=some f/\k<=f):=by
       funext j k;rw[ar]
      rw[a5]
      exact this
     ·refine T0r (A:=A) (ds:=O) (st:=st) (av1:=λt=>bs (E++V) t) s2 rfl bE ar ?_ aT aC aD bD (G0e E bh) (a0a _ bd)
      intro i k d am
      show stamp e i=stamp (z ad N M) i
      rw[ar i]
      cases hb:nth st.ow i with
      |none=>unfold stamp at am;rw[hb]at am;cases am
      |some b =>
       rcases af i b hb with⟨q,aK,F,sz,by_,nn,ah,U,L,xs,rfl,l,_,aV⟩|⟨_,l⟩
       ·have:=aV (d.resolve_left (λh=>h q))
        simp[stamp,hb,l,this]
       ·unfold stamp
        rw[hb,l]
   ·exact I.elim
  |exit i=>exact R
  |ret=>exact R
  |_=>exact R
 have a0:Sim P h0 w0 be oe H (z D st.bx st.ow) h a w:=by
  refine f.refr (fr:=K0b A.vars D (E++V)) λt=>?_
  have aU:=f.fr t
  have G:=f.rdA aU
  rcases br (E++V) t with⟨q,bp⟩|⟨v,q,l⟩
  ·rw[q]
   rcases F0e E V t with⟨av,az,aa⟩|⟨az,aa⟩
   ·rw[aa]
    rcases aC _ az with rfl|⟨i,k,rfl,_,S⟩|⟨i,o,rfl,_,S⟩
    ·trivial
    ·rw[S]at G;exact G
    ·rw[S]at G;exact G
   ·rw[aa]
    have bn:t ∉ O:=λz=>by
     obtain⟨av,y⟩:=aD t z bp
     exact az av y
    rcases s1 t bn with h|⟨h,_⟩
    ·rw[h];trivial
    ·rw[h];exact G
  ·rw[q]
   rw[l]at G
   exact G
 obtain⟨bt,Z⟩:=L0o (μ:=μ) Z
 have aW:Inv bt a w:=⟨D++ac,ab,D,ac,st.bx,st.ow,h,be,oe,H,rfl,rfl,rfl,bq,aE,aF,Z,a0⟩
 classical
 let X:Act->World->Nat:=λa w=>if B:∃ m,Inv m a w then Classical.choose (A0j _ B)else 0
 refine wp_loop (λa w=>∃ m,Inv m a w) X ⟨_,aW⟩ λa w B=>?_
 have aY:X a w=Classical.choose (A0j _ B):=by simp only[X,dif_pos B]
 refine Code.wp_mono (λe ai aB aG=>?_) (a1 _ a w (Classical.choose_spec (A0j _ B)).1)
 cases e with
 |normal =>
  obtain⟨T,ao,an⟩:=aG
  refine⟨⟨T,ao⟩,?_⟩
  have au:∃ m,Inv m ai aB:=⟨T,ao⟩
  have:X ai aB=Classical.choose (A0j _ au):=by simp only[X,dif_pos au]
  rw[aY,this]
  exact Nat.lt_of_le_of_lt ((Classical.choose_spec (A0j _ au)).2 T ao) an
 |_=>exact aG
end
end Go.H
namespace Go.H
set_option linter.unusedVariables false
set_option linter.unusedSimpArgs false
section
variable {P:Program} {h0:Hp} {w0:World} {be:Nat->Nat} {oe:Nat->Value} {H:Hp} {st:St} {h:Hp} {a:Act} {w:World}
theorem f0p(c:Code):∀(Q:Ex->St->Hp->Prop) (st:St) (h:Hp) (a:Act) (w:World) (be:Nat->Nat) (oe:Nat->Value) (H:Hp),Sim P h0 w0 be oe H st h a w->ev P c Q st h->c.wp P (d0i P h0 w0 Q) a w:=by
 induction c with
 |skip=>exact λQ st h a w be oe H f j=>wp_skip ⟨st,h,be,oe,H,j,f⟩
 |region id ops d=>grind[e0i]
 |seq x y o p =>
  intro Q st h a w be oe H f j
  refine wp_seq (Code.wp_mono (λe a w l=>?_) (o _ _ _ _ _ _ _ _ f j))
  cases e with
  |normal=>obtain⟨st,h,be,oe,H,k,f⟩:=l;exact p _ _ _ _ _ _ _ _ f k
  |exit i=>exact l
  |ret=>exact l
  |_=>exact l
 |cond c x y o p =>
  intro Q st h a w be oe H f j
  simp only[ev]at j
  split at j
  ·rename_i b m
   have g:=f.rdO c
   rw[m]at g
   exact wp_cond_split g (λe=>o _ _ _ _ _ _ _ _ f (j.1 e)) (λe=>p _ _ _ _ _ _ _ _ f (j.2 e))
  ·exact j.elim
 |block id c n =>
  intro Q st h a w be oe H f j
  refine wp_block (Code.wp_mono (λe a w l=>?_) (n _ _ _ _ _ _ _ _ f j))
  cases e with
  |normal=>exact l
  |exit i =>
   obtain⟨st,h,be,oe,H,k,f⟩:=l
   simp only[Exit.inBlock]
   dsimp only at k
   cases m:Nat.beq i id with
   |true =>
    rw[m]at k
    rw[if_pos (Nat.eq_of_beq_eq_true m)]
    exact⟨st,h,be,oe,H,k,f⟩
   |false =>
    rw[m]at k
    rw[if_neg (Nat.ne_of_beq_eq_false m)]
    exact⟨st,h,be,oe,H,k,f⟩
  |ret=>exact l
  |_=>exact l
 |loop c n=>exact λQ st h a w be oe H f j=>n0l n f j
 |exit i=>exact λQ st h a w be oe H f j=>wp_exit ⟨st,h,be,oe,H,j,f⟩
 |ret=>exact λQ st h a w be oe H f j=>wp_ret ⟨st,h,be,oe,H,j,f⟩
 |_=>exact λQ st h a w be oe H f j=>j.elim
def E0q(tmps:Array Value):ResultVar->Sem Value
 | .tmp t=>pure (tmps.getD t undef)
 | .cell a t=>do loadVar t (←asAddr (tmps.getD a undef))
theorem c0a:∀(l:List ResultVar) (st:St) (h:Hp) {K:List Value->St->Hp->Prop},Sim P h0 w0 be oe H st h a w->i0l P l st h K ->
  ∃ vs st' q,K vs st' q/\Sim P h0 w0 be oe H st' q a w/\(l.mapM (E0q a.tmps)).run P w = .ok vs w
 | [],st,h,K,c,d=>⟨[],st,h,d,c,rfl⟩
 | .tmp t::r,st,h,K,c,d=>by
  obtain⟨n,f,m,s1,_⟩:=s03 c (c.rdA (c.fr t)) d
  obtain⟨vs,y,s,p,s2,u⟩:=c0a r n f s1 m
  grind[Sem.run_bind,E0q,Sem.run_pure,Result.andThen_ok]
 | .cell t ty::r,st,h,K,c,d=>by
  simp only[i0l]at d
  split at d
  ·rename_i i off u
   split at d
   ·rename_i cs J D
    have g:=c.rdA (c.fr t)
    rw[u]at g
    obtain⟨f,vs,s,A⟩:=c.box i cs J D
    obtain⟨av,v,F,G,I⟩:=R.load_row (H:=H) (b:=be i) (o:=0) (be:=be) d s (λj v B=>by simp[Hp.cell,A,B])
    obtain⟨n,f,m,s1,_⟩:=s03 c G F
    obtain⟨L,y,z,p,s2,E⟩:=c0a r n f s1 m
    refine⟨_,y,z,p,s2,?_⟩
    have C:(loadVar ty ⟨be i,off,none⟩).run P w = .ok v w:=by
     obtain⟨x,k,e⟩:=R.wpR_sound _ _ w c.mv.vis (I (λx _=>x=v) rfl)
     rw[Nat.zero_add]at k
     rw[k,e]
    have k:a.tmps.getD t undef=ptr (be i) off:=g.2
    simp only[List.mapM_cons,Sem.run_bind,E0q,k,ptr,asAddr,Sem.run_pure,Result.andThen_ok,C,E]
   ·exact d.elim
  ·exact d.elim
theorem J0g:∀(args:List Value) (i a:Nat),Z2 (B0a i args) a = .dead∨Z2 (B0a i args) a = .val (if i<=a then args.getD (a-i) undef else undef)
 | [],i,a => .inl rfl
 |v::r,i,a=>by
  simp only[B0a]
  rw[Z3]
  by_cases e:i=a
  ·subst e;right;simp
  ·rw[if_neg e]
   rcases J0g r (i+1) a with b|b
   all_goals grind
theorem T2.less{h a H:Hp}{w e:World}(m:T2 h w H e)(d:∀ b o,a b=some o->H b=some o):T2 h w a e:=by
 refine⟨m.os,m.tape,m.output,m.size,m.keep,λb o c=>m.vis b o (d b o c),λb c=>?_,m.fz,m.dn⟩
 cases hc:a b with
 |none=>exact absurd hc c
 |some o=>exact m.fresh b (by rw[d b o hc];simp)
theorem o0l{f:FuncId}{fn:Func}{args:List Value}{o:Value->Hp->Prop}(hf:P.funcs[f]?=some fn)(m:M0r P fn args h o):Tr P f args.toArray h o:=by
 refine⟨λw C=>?_⟩
 unfold M0r at m
 split at m
 ·rename_i c z
  split at m
  ·rename_i s
   have s:=Nat.le_of_ble_eq_true s
   have D:Sim P h w (λ_=>0) (λ_=>undef) h ⟨fn.ntmps,B0a 0 args,[],[]⟩ h { tmps:=args.toArray++Array.replicate (fn.ntmps-args.toArray.size) undef,defers:=[] } w:=by
    refine⟨T2.refl C,λ_ _ h=>h,(λi cs ty d=>nomatch d),(λi b d=>nomatch d),(λi a e sz by_ nn xs d=>nomatch d),(λi a v d=>nomatch d),(λi j cs ty cs' L d=>nomatch d),
     (λi j a e sz by_ nn xs I F K E G M g d=>nomatch d),(λi cs ty j a e sz by_ nn xs d=>nomatch d),rfl,by simp;omega,λa=>?_⟩
    rcases J0g args 0 a with k|k
    ·grind[I2,Z2,B0a]
    show I2 _ _ _ (Z2 (B0a 0 args) a) _
    rw[k]
    simp only[Nat.zero_le,if_true,Nat.sub_zero]
    show _=_
    simp only[Array.getD_eq_getD_getElem?]
    grind
   refine calls_of_wp hf z (Code.wp_mono (λe n q p=>?_) (f0p c _ _ _ _ _ _ _ _ D m))
   have fin:∀ {st k be oe H},i0l P fn.results.toList st k (λvs _ h=>o (d0j vs) h)->Sim P h w be oe H st k n q->n.defers = []/\∃ v,(results fn n.tmps).run P q = .ok v q/\∃ t k,Ending.returned v = .returned t/\o t k/\T2 h w k q:=by
    intro st k be oe H l a
    obtain⟨vs,J,y,u,s2,A⟩:=c0a _ _ _ a l
    refine⟨a.dfr,d0j vs,?_,d0j vs,y,rfl,u,s2.mv.less s2.sub⟩
    have B:results fn n.tmps=(fn.results.mapM (E0q n.tmps) >>= λvs=>pure (if h:vs.size=1 then vs[0]else .tuple vs)):=by
     unfold results
     congr 1
    rw[B,Array.mapM_eq_mapM_toList]
    simp only[Sem.run_bind,Sem.run_map,A,Result.andThen_ok,Sem.run_pure]
    cases vs with
    |nil=>rfl
    |cons x r=>cases r<;>rfl
   cases e with
   |normal=>obtain⟨st,k,be,oe,H,l,a⟩:=p;exact fin l a
   |ret=>obtain⟨st,k,be,oe,H,l,a⟩:=p;exact fin l a
   |exit i=>obtain⟨st,k,be,oe,H,l,a⟩:=p;exact l.elim
   |_=>exact p.elim
  ·exact m.elim
 ·exact m.elim
end
end Go.H
namespace Go.H
open Go.RowKit Go.ChangeShapes Go.WideShapes Go.ChangeAt
set_option linter.unusedVariables false
theorem Tr.val{P:Program}{f:FuncId}{args:Array Value}{h:Hp}{x:Value}{a:Value->Hp->Prop}(t:Tr P f args h λv d=>v=x/\d=h)(e:a x h):Tr P f args h a :=
 t.mono λ_ _ ⟨b,c⟩=>by rw[b,c];exact e
theorem Tr.calls{P:Program}{f:FuncId}{args:Array Value}{c:World}{x:Value}(t:Tr P f args (λb=>c.heap[b]?) λv g=>v=x/\∀ b o,c.heap[b]?=some o->g b=some o):
  Calls P f args c λe d=>e = .returned x/\Below c.heap.size c d/\∀ a:Addr,a.block<c.heap.size->d.frozen? a=c.frozen? a:=by
 refine(t.run c (λb o h=>h)).mono ?_
 rintro e d ⟨v,g,rfl,⟨rfl,i⟩,m⟩
 refine⟨rfl,⟨m.os,m.tape,m.output,m.size,λk j=>?_⟩,m.fz⟩
 have:c.heap[k]?=some c.heap[k]:=by simp[j]
 rw[this]
 exact m.vis _ _ (i k _ this)
theorem w64{x:Int}(a : -9223372036854775808<=x)(b:x<=9223372036854775807):IntKind.i64.wrap x=x:=by
 simp[IntKind.wrap,IntKind.signed,IntKind.bits]
 omega
theorem g0p{n:Nat}(h:n<=maxLen):n<=9223372036854775807:=by
 grind[maxLen]
def I0(x:Int):Prop := -9223372036854775808<=x/\x<=9223372036854775807
theorem U0r{x:Int}(h:(Lit.int .i64 x).wf=true):I0 x:=by
 simpa [Lit.wf,IntKind.min,IntKind.max,IntKind.signed,IntKind.bits,I0] using h
section
variable {H:Type} {enc:TypeId×Value->H} {P:Program}
theorem F09(i:laidOutB P=true){c f:World}(g:Below c.heap.size c f){m:Nat->Bool}:∀ {e:List TypeId} {vs:List Value} {ds:List (DataW H)} {b:List MemPlace},
  (∀ t∈e,P.readableRec t=true/\t<P.types.size)->DataW.TrodAll enc P c 0 (λ_=>true) true e vs ds b->(∀ p∈b,p.block<c.heap.size)->(∀ p∈b,m p.block=true) ->
  DataW.TrodAll enc P f 0 m true e vs ds b
 | [],vs,ds,b,_,h,_,_=>by
  obtain⟨rfl,rfl,rfl⟩:=trodAll_nil h
  exact rfl
 |t::e,vs,ds,b,l,h,j,k=>by
  obtain⟨v,z,d,y,p,q,rfl,rfl,rfl,n,o⟩:=trodAll_cons h
  obtain⟨u,w⟩:=l t mS
  refine⟨p,q,WideElems.Trod_stays i u w n (λx a=>g.same (j x (List.mem_append_left _ a))) (λx a=>k x (List.mem_append_left _ a)),?_,rfl⟩
  exact F09 i g (λt s=>l t (mC _ s)) o (λx a=>j x (List.mem_append_right _ a)) (λx a=>k x (List.mem_append_right _ a))
theorem t0d{f:Func}{h:ChangeSpec}{n fresh y x:Bool}{i d:World}{args:Array Value}{v:Value}{ds k:List (DataW H)}{e pa pv:List MemPlace}
  (l:DataW.Whole enc P f.params.toList h.vars n i args.toList ds k e)
  (u:∀(b:Nat) (g:Nat->Bool) (z:Bool),DataW.TrodAll enc P d b g z f.resultTypes.toList (v.resultList f.resultTypes.size) (h.fn H (ds++k)).results [])
  (o:∀ g:Nat->Bool,(∀ p∈e,g p.block=true)->DataW.TrodAll enc P d 0 g true f.params.toList args.toList (h.fn H (ds++k)).args pa)
  (w:∀ g:Nat->Bool,(∀ p∈e,g p.block=true)->DataW.TrodVars enc P d g h.vars (h.fn H (ds++k)).vars pv)
  (q:e=pa++pv) (B:i.keptBut d (·∈e)) (A:∀ a:Addr,a.block<i.heap.size->d.frozen? a=i.frozen? a)
  (C:∀(j:Nat) (t:TypeId) (r:Value),f.resultTypes[j]?=some t->(v.resultList f.resultTypes.size)[j]?=some r->Value.okWide P d .any 0 t r) :
  h.post enc P f n fresh y x i args v d:=by
 have m:=λp c=>l.lt (p:=p) c
 refine⟨ds,k,e,[],pa,pv,l,u _ _ _,o _ (λp c=>by simpa using m p c),w _ (λp c=>by simpa using m p c),World.keptBut_mono (λp c=>⟨c,.inr (by rwa [q,List.mem_append]at c)⟩) B,λ_=>?_⟩
 obtain⟨_,_,_,_,_,D,E⟩:=l
 have s:([]++pa)++pv=e:=by simp[q]
 refine⟨C,_,_,([]++pa)++pv,⟨[]++pa,pv,trodAll_append (o _ (λ_ _=>rfl)) (u _ _ _),w _ (λ_ _=>rfl),rfl,?_,?_⟩,λp c _=>by rwa [s]at c⟩
 ·intro b off c
  rw[s]at c
  rw[A _ (m _ c)]
  exact D b off c
 grind
theorem h0p{f:Func}{c:ChangeSpec}{g fresh w o:Bool}{b d:World}{args:Array Value}{ds h:List (DataW H)}{s:List MemPlace}{n:TypeId}
  (C:laidOutB P=true) (E:∀ t∈f.params.toList,P.readableRec t=true/\t<P.types.size) (m:c.vars = []) (j:c.fn H (ds++h) = { results:=[.lit (.bool true)],args:=ds })
  (k:f.resultTypes = #[n]) (l:P.underlying n=some .bool) (e:DataW.Whole enc P f.params.toList c.vars g b args.toList ds h s)
  (u:Below b.heap.size b d) (x:∀ a:Addr,a.block<b.heap.size->d.frozen? a=b.frozen? a):c.post enc P f g fresh w o b args (.bool true) d:=by
 have D:=λp y=>e.lt (p:=p) y
 have v:=e
 obtain⟨p,q,B,i,rfl,_,_⟩:=e
 rw[m]at i
 obtain⟨rfl,rfl⟩:=trodVars_none i
 refine t0d (pa:=p) (pv:=[]) v (λ_ _ _=>?_) (λA z=>?_) (λA z=>?_) rfl (u.frame _) x (ok_one k rfl (okWide_bool_mk l _))
 ·rw[j,k]
  exact trodAll_mk1 (shut_bool l _)
 ·grind[F09,List.mem_append_left]
 ·rw[j,m]
  exact rfl
end
end Go.H
