/- The library of the walks, part HD: plain laws over the model. -/
import Derived.Test.YtkjhghloldgioaaGreatHC
import Derived.ProofKit
namespace Go.H
set_option linter.unusedVariables false
set_option linter.unusedSimpArgs false
theorem J7{i:Nat}{o:Oper}(h:i8 i o=true):∃ e∈o.after,Region.binds .any e=true/\e.on=i:=by
 unfold i8 at h
 rw[List.any_eq_true]at h
 simp_all
theorem E07{o:Oper}{t:Nat}:∀ {l:List Oper} {i:Nat},Z01 o t l i=true->∀ k x,l[k]?=some x->x.dst=some t->i8 (i+k) o=true
 | [],i,h,k,x,a,b=>by simp at a
 |y::r,i,h,0,x,a,b=>by
  simp_all[Z01,Nat.beq_refl,Bool.and_eq_true]
 |y::r,i,h,k+1,x,a,b=>by
  simp only[List.getElem?_cons_succ]at a
  have c:Z01 o t r (i+1)=true:=by
   simp only[Z01]at h
   grind
  have:=E07 c k x a b
  rwa [show i+1+k=i+(k+1) from by omega]at this
theorem R02{o:Oper}{ops:List Oper}:∀ {l:List Operand},T09 o ops l=true->∀ t,Operand.tmp t∈l->Z01 o t ops 0=true
 | [],h,t,a=>by cases a
 | .tmp u::r,h,t,a=>by
  simp only[T09,Bool.and_eq_true]at h
  rcases List.mem_cons.1 a with e|a
  ·cases e;exact h.1
  ·exact R02 h.2 t a
 | .const v::r,h,t,a=>by
  rcases List.mem_cons.1 a with e|a
  ·cases e
  ·exact R02 (l:=r) h t a
 | .global v::r,h,t,a=>by
  rcases List.mem_cons.1 a with e|a
  ·cases e
  ·exact R02 (l:=r) h t a
 | .func v::r,h,t,a=>by
  rcases List.mem_cons.1 a with e|a
  ·cases e
  ·exact R02 (l:=r) h t a
theorem x06{ops:List Oper}:∀ {l:List Oper},k0m ops l=true->∀ o∈l,∀ t,Operand.tmp t∈o.op.operands->∀ k x,ops[k]?=some x->x.dst=some t->∃ e∈o.after,Region.binds .any e=true/\e.on=k
 | [],h,o,a=>by cases a
 |y::r,h,o,a=>by
  simp only[k0m,Bool.and_eq_true]at h
  rcases List.mem_cons.1 a with rfl|a
  ·intro t d k x c b
   have:=E07 (R02 h.1 t (by simpa using d)) k x c b
   simp_all[Nat.zero_add,J7]
  ·exact x06 h.2 o a
theorem x05{d:Nat}:∀ {l:List Oper},s07 d l=true->∀ o∈l,o.dst≠some d
 | [],h,o,a=>by cases a
 |y::r,h,o,a=>by
  simp only[s07]at h
  split at h
  ·rename_i c b
   simp only[Bool.and_eq_true,Bool.not_eq_true']at h
   rcases List.mem_cons.1 a with rfl|a
   ·grind[Nat.ne_of_beq_eq_false]
   ·exact x05 h.2 o a
  ·rename_i b
   rcases List.mem_cons.1 a with rfl|a
   ·grind
   ·exact x05 h o a
theorem G04{n:Nat}:∀ {l:List Oper},P0i n l=true->(∀ o∈l,∀ d,o.dst=some d->d<n) /\
  ∀(i j:Nat) (a b:Oper) (d:Nat),l[i]?=some a->l[j]?=some b->a.dst=some d->b.dst=some d->i=j
 | [],h=>⟨by simp,λi j a b d f=>by simp at f⟩
 |y::r,h=>by
  simp only[P0i]at h
  split at h
  ·rename_i d p
   simp only[Bool.and_eq_true]at h
   obtain⟨⟨v,k⟩,m⟩:=h
   obtain⟨g,s⟩:=G04 m
   have x:=x05 k
   refine⟨λo c e q=>?_,λi j a b e f w t u=>?_⟩
   ·rcases List.mem_cons.1 c with rfl|c
    ·simp_all
    ·exact g o c e q
   grind
  ·rename_i p
   obtain⟨g,s⟩:=G04 h
   grind
theorem o03:∀ {l:List Oper} {j:Nat},s0c l j=true->∀ k o,l[k]?=some o->∀ e∈o.after,Region.binds .any e=true->e.on<j+k
 | [],j,h,k,o,a=>by simp at a
 |y::r,j,h,k,o,a=>by
  simp only[s0c,Bool.and_eq_true,List.all_eq_true]at h
  cases k with
  |zero =>
   simp at a
   subst a
   intro e b c
   have:=h.1 e (by simpa using b)
   simp_all
  |succ k =>
   simp at a
   intro e b c
   have:=o03 h.2 k o a e b c
   omega
def A4:List Oper->List (Nat×AV)->List (Nat×AV)
 | [],fr=>fr
 |o::r,fr=>match o.dst with
  |some d=>(d,.dead)::A4 r fr
  |none=>A4 r fr
theorem e01{t:Nat}:∀ {l:List Oper} {fr:List (Nat×AV)},(∀ o∈l,o.dst≠some t)->D3 (A4 l fr) t=D3 fr t
 | [],fr,h=>rfl
 |o::r,fr,h=>by
  have c:=e01 (fr:=fr) λb a=>h b (mC _ a)
  simp only[A4]
  split
  all_goals simp_all[i4,if_neg,List.mem_cons_self]
theorem b02{t:Nat}:∀ {l:List Oper} {fr:List (Nat×AV)} {o:Oper},o∈l->o.dst=some t->D3 (A4 l fr) t = .dead
 | [],fr,o,h,_=>by cases h
 |y::r,fr,o,h,a=>by
  simp only[A4]
  split
  ·rename_i d b
   rw[i4]
   split
   ·rfl
   ·rename_i c
    rcases List.mem_cons.1 h with rfl|h
    ·grind
    ·exact b02 h a
  ·rename_i b
   rcases List.mem_cons.1 h with rfl|h
   ·rw[a]at b;cases b
   ·exact b02 h a
theorem I00(d:Nat)(f:W5)(r:List (Nat×W5))(s:Nat):P3 ((d,f)::r) s=if d=s then some f else P3 r s:=by
 simp only[P3]
 cases h:Nat.beq d s with
 |true=>rw[if_pos (Nat.eq_of_beq_eq_true h)]
 |false=>rw[if_neg (Nat.ne_of_beq_eq_false h)]
section
variable {P:Program} {h0:Hp} {w0:World} {be:Nat->Nat} {oe:Nat->Value} {H:Hp} {h:Hp} {a:Act} {w:World}
theorem Sim.refr{st:St}(s:Sim P h0 w0 be oe H st h a w){fr:List (Nat×AV)}(hf:∀ t,I2 st be oe (D3 fr t) (a.tmps.getD t undef)):Sim P h0 w0 be oe H { st with fr:=fr } h a w:=by
 have b:Q6 st be oe { st with fr:=fr } be oe:=⟨Nat.le_refl _,λ_ _=>rfl,λi s h=>⟨s,h,Nat.le_refl _,λ_=>rfl⟩⟩
 refine⟨s.mv,s.sub,λi cs ty f=>?_,s.pub,s.own,s.frz,s.bb,s.oo,s.bo,s.dfr,s.siz,λt=>(hf t).grow b⟩
 obtain⟨c,vs,d,e⟩:=s.box i cs ty f
 exact⟨c,vs,d.grow b,e⟩
def y05(st:St)(be:Nat->Nat)(oe:Nat->Value)(h:Hp):W5->Value->Prop
 | .pu av,v=>I2 st be oe av v
 | .ef F,v=>F v h
theorem x02{L:List (Nat×W5)}{st:St}{h:Hp}{val:Nat->Value}{K:List (Nat×AV)->Prop}:∀ {l:List Operand} {acc:List (Nat×AV)},
  (∀ t,I2 st be oe (D3 acc t) (val t))->(∀ t,Operand.tmp t∈l->(∀ f,P3 L t=some f->y05 st be oe h f (val t))/\(P3 L t=none->I2 st be oe (D3 st.fr t) (val t))) ->
  t0d L st h l acc K->∃ fr,K fr/\∀ t,I2 st be oe (D3 fr t) (val t)
 | [],acc,c,b,a=>⟨acc,a,c⟩
 | .tmp t::r,acc,c,b,a=>by
  have i:∀ u,Operand.tmp u∈r->_:=λu d=>b u (mC _ d)
  have j:=b t mS
  have put:∀ av,I2 st be oe av (val t)->∀ u,I2 st be oe (D3 ((t,av)::acc) u) (val u):=λav g u=>by
   grind[i4]
  simp only[t0d]at a
  split at a
  ·rename_i av e
   exact x02 (put av (j.1 _ e)) i a
  ·rename_i F e
   exact x02 (put (.val (val t)) rfl) i (a _ (j.1 _ e))
  ·rename_i e
   exact x02 (put _ (j.2 e)) i a
 | .const v::r,acc,c,b,a=>x02 (l:=r) c (λu d=>b u (mC _ d)) a
 | .global v::r,acc,c,b,a=>x02 (l:=r) c (λu d=>b u (mC _ d)) a
 | .func v::r,acc,c,b,a=>x02 (l:=r) c (λu d=>b u (mC _ d)) a
def c0u(P:Program)(st:St)(h:Hp)(L:List (Nat×W5))(o:Oper):Prop :=
 o.guard=none/\∃ f,(∀ d,o.dst=some d->P3 L d=some f)/\match f with
  | .pu av=>j0l P L o st=some av
  | .ef F=>(∀ v b c,Sub b c->F v b->F v c)/\∀ a,Sub h a->t0d L st a o.op.operands.toList [] λfr=>c8 P o { st with fr:=fr } a (M0t { st with fr:=fr } a F)
theorem t0b:∀ {L:List (Nat×W5)} {t:Nat} {f:W5},P3 L t=some f->(t,f)∈L
 | [],t,f,h=>by cases h
 |(d,a)::r,t,f,h=>by
  rw[I00]at h
  split at h
  ·grind
  ·exact mC _ (t0b h)
theorem L0r{st:St}{L:List (Nat×W5)}{o:Oper}{av:AV}{val:Nat->Value}(a:j0l P L o st=some av)
  (l:∀ t,Operand.tmp t∈o.op.operands->(∀ f,P3 L t=some f->y05 st be oe h f (val t))/\(P3 L t=none->I2 st be oe (D3 st.fr t) (val t))) :
  ∃ fr,(∀ t,I2 st be oe (D3 fr t) (val t))/\c8 P o { st with fr:=fr } h λi st' j=>i=av/\st' = { st with fr:=fr }/\j=h:=by
 have one:∀ x:Operand,(∀ t,x = .tmp t->Operand.tmp t∈o.op.operands)->rdS L st x ≠ .dead->∃ fr,(∀ t,I2 st be oe (D3 fr t) (val t))/\rdO { st with fr:=fr } x=rdS L st x:=by
  intro x b c
  cases x with
  |tmp t =>
   obtain⟨k,m⟩:=l t (b t rfl)
   have mk:∀ A,I2 st be oe A (val t)->∀ u,I2 st be oe (D3 [(t,A)] u) (val u):=λA g u=>by
    rw[i4]
    split
    ·grind
    ·trivial
   have rd:∀ A,rdO { st with fr:=[(t,A)] } (.tmp t)=rdA st A:=λA=>by
    show Go.H.rdA _ (D3 [(t,A)] t)=_
    rw[i4,if_pos rfl]
    obtain⟨n,fr,bx,ow⟩:=st
    cases A<;>rfl
   cases hL:P3 L t with
   |none=>grind[rdS]
   |some f =>
    cases f with
    |pu A=>exact⟨_,mk _ (k _ hL),by grind[rdS]⟩
    |ef F=>grind[absurd,rdS]
  |const v=>exact⟨[],λt=>trivial,rfl⟩
  |global v=>exact⟨[],λt=>trivial,rfl⟩
  |func v=>exact⟨[],λt=>trivial,rfl⟩
 unfold j0l at a
 split at a
 ·rename_i x b
  have c:rdS L st x ≠ .dead:=λe=>by rw[e]at a;cases a
  obtain⟨fr,g,e⟩:=one x (λt d=>by grind[Op.operands]) c
  refine⟨fr,g,?_⟩
  simp only[c8,b,e]
  revert a
  cases rdS L st x<;>intro a<;>first|(cases a;done)|(cases a;simp;done)
 ·rename_i x b
  have c:rdS L st x ≠ .dead:=λe=>by rw[e]at a;cases a
  obtain⟨fr,g,e⟩:=one x (λt d=>by grind[Op.operands]) c
  refine⟨fr,g,?_⟩
  simp only[c8,b,e]
  revert a
  cases rdS L st x<;>intro a<;>first|(cases a;done)|(cases a;simp;done)
 ·rename_i t x b
  have c:rdS L st x ≠ .dead:=λe=>by rw[e]at a;cases a
  obtain⟨fr,g,e⟩:=one x (λt d=>by grind[Op.operands]) c
  refine⟨fr,g,?_⟩
  simp only[c8,b,e]
  split at a
  all_goals grind[s0d,p04,m0d,F5]
 ·cases a
def g0t(P:Program)(h0:Hp)(w0:World)(ops:Array Oper)(st:St)(h:Hp)(L:List (Nat×W5))(listed:Array Bool)(a:Act)(w:World):Prop :=
 ∃ be oe H b,Sub h b/\Sim P h0 w0 be oe H { st with fr:=A4 ops.toList st.fr } b a w /\
  ∀ j o d f,ops[j]?=some o->o.dst=some d->listed.getD j false=true->P3 L d=some f->y05 st be oe b f (a.tmps.getD d undef)
theorem I2.fr{st:St}{fr:List (Nat×AV)}{av:AV}{v:Value}(g:I2 st be oe av v):I2 { st with fr:=fr } be oe av v:=by
 obtain⟨n,a,bx,ow⟩:=st
 show I2 ⟨n,fr,bx,ow⟩ be oe av v
 exact I2.grow (st:=⟨n,a,bx,ow⟩) (st':=⟨n,fr,bx,ow⟩) (be:=be) (oe:=oe) (be':=be) (oe':=oe) (av:=av) (x:=v) ⟨Nat.le_refl _,λ_ _=>rfl,λi s h=>⟨s,h,Nat.le_refl _,λ_=>rfl⟩⟩ g
theorem H04{ops:Array Oper}{st:St}{L:List (Nat×W5)}{listed:Array Bool}{j:Nat}{o:Oper}{Q:Exit->Act->World->Prop}
  (aE:∀(i j:Nat) (c ag:Oper) (d:Nat),ops.toList[i]?=some c->ops.toList[j]?=some ag->c.dst=some d->ag.dst=some d->i=j)
  (Z:∀ o∈ops.toList,∀ d,o.dst=some d->d<st.n)
  (V:∀ t f,(t,f)∈L->∃(i:Nat) (c:Oper),ops.toList[i]?=some c/\c.dst=some t)
  (al:∀(i:Nat) (c:Oper) (d:Nat),ops.toList[i]?=some c->c.dst=some d->∃ f,P3 L d=some f)
  (aa:ops[j]?=some o) (W:∀(j:Nat) (o:Oper),ops.toList[j]?=some o->c0u P st h L o) (an:∀ t,Operand.tmp t∈o.op.operands->∀(i:Nat) (c:Oper),ops.toList[i]?=some c->c.dst=some t->listed.getD i false=true)
  (M:g0t P h0 w0 ops st h L listed a w):o.wp P a w (g0t P h0 w0 ops st h L (listed.setIfInBounds j true)) Q:=by
 obtain⟨be,oe,H,z,ae,s,T⟩:=M
 have ab:ops.toList[j]?=some o:=by simpa using aa
 have Y:o∈ops.toList:=List.mem_of_getElem? ab
 obtain⟨aG,f,hf,ac⟩:=W j o ab
 have az:∀ d F,P3 L d=some (.ef F)->∀ v l k,Sub l k->F v l->F v k:=λd F J=>by
  obtain⟨i,c,l,k⟩:=V d _ (t0b J)
  obtain⟨_,aD,ao,ay⟩:=W i c l
  rw[ao d k]at J
  cases J
  exact ay.1
 have ai:∀ t,Operand.tmp t∈o.op.operands->(∀ f,P3 L t=some f->y05 st be oe z f (a.tmps.getD t undef))/\(P3 L t=none->I2 st be oe (D3 st.fr t) (a.tmps.getD t undef)):=λt N=>by
  refine⟨λf hf=>?_,λaw=>?_⟩
  ·obtain⟨i,c,l,k⟩:=V t f (t0b hf)
   exact T i c t f (by simpa using l) k (an t N i c l k) hf
  ·have g:=s.fr t
   have ar:D3 (A4 ops.toList st.fr) t=D3 st.fr t:=e01 λaC ax E=>by
    obtain⟨i,M,e⟩:=List.getElem_of_mem ax
    obtain⟨f,hf⟩:=al i aC t (by rw[List.getElem?_eq_getElem M,e]) E
    rw[aw]at hf;cases hf
   rw[←ar]
   exact I2.fr (st := { st with fr:=A4 ops.toList st.fr }) (fr:=st.fr) g
 have fin:∀ {fr:List (Nat×AV)} {A:Act} {y:World} {p:Hp} {be':Nat->Nat} {oe':Nat->Value} {q:Hp} {v:Value},Sub z p->A=a.put o.dst v->Sim P h0 w0 be' oe' q { st with fr:=fr } p a y ->
   Q6 { st with fr:=fr } be oe { st with fr:=fr } be' oe'->y05 st be' oe' p f v->g0t P h0 w0 ops st h L (listed.setIfInBounds j true) A y:=by
  intro fr A y p be' oe' q v af D s' m O
  subst D
  have aj:Q6 { st with fr:=A4 ops.toList st.fr } be oe { st with fr:=A4 ops.toList st.fr } be' oe':=⟨m.bl,m.be,m.sm⟩
  have ak:Q6 st be oe st be' oe':=⟨m.bl,m.be,m.sm⟩
  have s1:Sim P h0 w0 be' oe' q { st with fr:=A4 ops.toList st.fr } p a y :=
   s'.refr (fr:=A4 ops.toList st.fr) λt=>I2.fr (st := { st with fr:=A4 ops.toList st.fr }) ((s.fr t).grow aj)
  have s2:Sim P h0 w0 be' oe' q { st with fr:=A4 ops.toList st.fr } p (a.put o.dst v) y:=by
   cases E:o.dst with
   |none=>exact s1
   |some d =>
    have ad:=s1.put (d:=d) (av := .dead) (v:=v) (Z o Y d E) trivial
    refine ad.refr (fr:=A4 ops.toList st.fr) λt=>?_
    have g:=ad.fr t
    grind[i4,b02]
  refine⟨be',oe',q,p,λb x am=>af b x (ae b x am),s2,λi c d g l k U G=>?_⟩
  by_cases hij:j=i
  ·subst hij
   rw[aa]at l;cases l
   rw[hf d k]at G;cases G
   have aq:d<a.tmps.size:=by rw[s.siz];exact Z o Y d k
   have:(a.put o.dst v).tmps.getD d undef=v:=by
    rw[k]
    simp[Act.put,aq]
   rw[this]
   exact O
  ·have ap:listed.getD i false=true:=by rw[getD_set_ne false hij]at U;exact U
   have au:∀ C,o.dst=some C->C≠d:=λC aF e=>by
    grind
   have:(a.put o.dst v).tmps.getD d undef=a.tmps.getD d undef:=by
    cases E:o.dst with
    |none=>rfl
    |some C=>simp[Act.put,Array.getElem?_setIfInBounds_ne (au C E)]
   rw[this]
   have ah:=T i c d g l k ap G
   cases g with
   |pu av=>exact I2.grow ak ah
   |ef F=>exact az d F G _ _ _ af ah
 cases f with
 |pu av =>
  obtain⟨fr,g,K⟩:=L0r (h:=z) ac ai
  have s':Sim P h0 w0 be oe H { st with fr:=fr } z a w:=s.refr (fr:=fr) λt=>I2.fr (g t)
  refine Oper.wp_mono (λA y R=>?_) (b00 s' K)
  obtain⟨S,st',p,v,be',oe',q,⟨rfl,rfl,rfl⟩,D,s2,I,m⟩:=R
  exact fin (λ_ _ h=>h) D s2 m (I2.fr (st := { st with fr:=fr }) (fr:=st.fr) I)
 |ef F =>
  obtain⟨fr,K,g⟩:=x02 (acc:=[]) (be:=be) (oe:=oe) (val:=λt=>a.tmps.getD t undef) (λt=>trivial) (λt N=>ai t (by simpa using N)) (ac.2 z ae)
  have s':Sim P h0 w0 be oe H { st with fr:=fr } z a w:=s.refr (fr:=fr) λt=>I2.fr (g t)
  refine Oper.wp_mono (λA y R=>?_) (b00 s' K)
  obtain⟨S,st',p,v,be',oe',q,X,D,s2,I,m⟩:=R
  cases S with
  |val u =>
   obtain⟨rfl,aA,aB⟩:=X
   have O:v=u:=I
   subst O
   exact fin aA D s2 m aB
  |_=>exact X.elim
theorem u0b{ops:Array Oper}(b:∀(k:Nat) (o:Oper),ops.toList[k]?=some o->∀ e∈o.after,Region.binds .any e=true->e.on<k){listed:Array Bool}(h:listed.size=ops.size)(g:Region.ready .any ops listed = []):
  ∀ j,j<ops.size->listed.getD j false=true:=by
 intro j
 induction j using Nat.strongRecOn with
 |_ j i =>
  intro a
  cases hl:listed.getD j false with
  |true=>rfl
  |false =>
   have f:j<listed.size:=by omega
   have:j∈Region.ready .any ops listed:=by
    refine mem_ready.2 ⟨?_,ops[j],by simp[a],λe d c=>?_⟩
    all_goals grind
   grind
theorem count_set{listed:Array Bool}{j:Nat}(a:listed.getD j true=false):(listed.setIfInBounds j true).toList.count true=listed.toList.count true+1:=by
 have b:j<listed.size:=by
  grind
 simp_all[Array.toList_setIfInBounds,List.count_set]
end
end Go.H
namespace Go.H
set_option linter.unusedVariables false
set_option linter.unusedSimpArgs false
theorem M0r{P:Program}{t:TypeId}{cs:List E5}{off:Nat}{av:AV}(h:s0d P t cs off=some av):p04 P t cs off λa=>a=av:=by
 grind[s0d,p04,m0d,F5]
section
variable {P:Program} {h0:Hp} {w0:World} {be:Nat->Nat} {oe:Nat->Value} {H:Hp} {h:Hp} {a:Act} {w:World}
theorem T05{L:List (Nat×W5)}{st stX:St}{x:Operand}
  (b:∀ t,x = .tmp t->(∀ av,P3 L t=some (.pu av)->I2 stX be oe av (a.tmps.getD t undef))/\(P3 L t=none->I2 stX be oe (D3 st.fr t) (a.tmps.getD t undef))):I2 stX be oe (w05 L st x) (a.eval x):=by
 cases x with
 |tmp t =>
  obtain⟨c,d⟩:=b t rfl
  show I2 stX be oe (w05 L st (.tmp t)) (a.tmps.getD t undef)
  simp only[w05]
  split
  ·grind
  ·trivial
  grind
 |const v=>exact rfl
 |global g=>trivial
 |func f=>trivial
theorem y06{L:List (Nat×W5)}{st stX:St}:∀(l:List Operand) {vs:List (Nat×Value)},(∀ t,Operand.tmp t∈l->I2 stX be oe (w05 L st (.tmp t)) (a.tmps.getD t undef))->t0c L st l=some vs ->
  (∀ p∈vs,p.2=a.eval (.tmp p.1))/\(∀ x∈l,(∃ t v,x = .tmp t/\(t,v)∈vs)∨(∀ m,rho m x=a.eval x))
 | [],vs,G,h=>by cases h;simp
 | .tmp t::r,vs,G,h=>by
  simp only[t0c]at h
  split at h
  ·rename_i v k
   split at h
   ·rename_i n j
    cases h
    obtain⟨c,e⟩:=y06 r (λu d=>G u (mC _ d)) j
    have g:=G t mS
    rw[k]at g
    have g:a.tmps.getD t undef=v:=g
    refine⟨λp i=>?_,λx b=>?_⟩
    ·rcases List.mem_cons.1 i with rfl|i
     ·exact g.symm
     ·exact c p i
    grind
   ·cases h
  ·cases h
 | .global _::r,vs,G,h=>by cases h
 | .const v::r,vs,G,h=>by
  obtain⟨c,e⟩:=y06 r (vs:=vs) (λu d=>G u (mC _ d)) h
  exact⟨c,λx b=>by
   rcases List.mem_cons.1 b with rfl|b
   ·exact .inr λ_=>rfl
   ·exact e x b⟩
 | .func f::r,vs,G,h=>by
  obtain⟨c,e⟩:=y06 r (vs:=vs) (λu d=>G u (mC _ d)) h
  exact⟨c,λx b=>by
   rcases List.mem_cons.1 b with rfl|b
   ·exact .inr λ_=>rfl
   ·exact e x b⟩
theorem h0j{L:List (Nat×W5)}{st stX:St}{o:Oper}{av:AV}(b:k0l P L o st=some av)
  (j:∀ t,Operand.tmp t∈o.op.operands->(∀ av,P3 L t=some (.pu av)->I2 stX be oe av (a.tmps.getD t undef))/\(P3 L t=none->I2 stX be oe (D3 st.fr t) (a.tmps.getD t undef))) :
  ∃ v,(execOp a.eval o).run P w = .ok (.value v) w/\I2 stX be oe av v:=by
 unfold k0l at b
 split at b
 ·rename_i vs f g
  obtain⟨d,e⟩:=y06 (a:=a) (stX:=stX) (be:=be) (oe:=oe) _ (λt h=>T05 (x := .tmp t) λu i=>by grind) g
  split at b
  ·cases b
  ·split at b
   ·rename_i v c
    cases b
    rw[b0a,j08 f d e]at c
    exact⟨v,r0m _ c w,rfl⟩
   ·cases b
 ·cases b
theorem j05{L b:List (Nat×W5)}{st:St}:∀ {l:List Operand},(∀ t,Operand.tmp t∈l->P3 L t=P3 b t)->t0c L st l=t0c b st l
 | [],h=>rfl
 | .tmp t::r,h=>by simp only[t0c,w05,h t mS,j05 λu a=>h u (mC _ a)]
 | .global _::r,h=>rfl
 | .const _::r,h=>j05 (l:=r) λu a=>h u (mC _ a)
 | .func _::r,h=>j05 (l:=r) λu a=>h u (mC _ a)
theorem K0d{L:List (Nat×W5)}{st:St}{o:Oper}{t:TypeId}{x:Operand}{i off:Nat}(b:o.op = .load t x)(a:w05 L st x = .box i off):∀ {l:List Oper},o∈l->i∈H9 L st l
 | [],h=>nomatch h
 |y::r,h=>by
  rcases List.mem_cons.1 h with rfl|h
  ·grind[H9,List.mem_cons_self]
  ·have:=K0d b a h
   grind[H9,mC]
theorem m0g{bx a:List BSt}{i:Nat}:∀ {l:List Nat},L08 bx l=L08 a l->i∈l->nth bx i=nth a i
 | [],_,h=>nomatch h
 |y::r,e,h=>by
  simp only[L08,List.cons.injEq]at e
  rcases List.mem_cons.1 h with rfl|h
  ·exact e.1
  ·exact m0g e.2 h
theorem X0n{L:List (Nat×W5)}{st stX:St}{o:Oper}{av:AV}(s:Sim P h0 w0 be oe H stX h a w)(F:∀ t x i off,o.op = .load t x->w05 L st x = .box i off->nth stX.bx i=nth st.bx i)(c:K08 P L o st=some av)
  (f:∀ t,Operand.tmp t∈o.op.operands->(∀ av,P3 L t=some (.pu av)->I2 stX be oe av (a.tmps.getD t undef))/\(P3 L t=none->I2 stX be oe (D3 st.fr t) (a.tmps.getD t undef))) :
  ∃ v,(execOp a.eval o).run P w = .ok (.value v) w/\I2 stX be oe av v:=by
 unfold K08 at c
 split at c
 ·rename_i x d
  split at c
  ·cases c
   simp_all[T05,Op.operands,execOp]
  ·cases c
 ·rename_i x d
  split at c
  ·cases c
   simp_all[T05,Op.operands,execOp]
  ·cases c
 ·rename_i t x d
  have g:=T05 (L:=L) (st:=st) (stX:=stX) (be:=be) (oe:=oe) (a:=a) (x:=x) λt e=>f t (by rw[d];simp[Op.operands,e])
  split at c
  ·rename_i i off l
   rw[l]at g
   split at c
   ·rename_i cs ty G
    split at c
    ·rename_i C q
     split at c
     ·cases c
      obtain⟨E,vs,n,p⟩:=s.box i cs ty (by grind)
      obtain⟨D,v,y,z,A⟩:=R.load_row (H:=H) (b:=be i) (o:=0) (be:=be) (M0r q) n (λj v u=>by simp[Hp.cell,p,u])
      subst y
      exact⟨v,R.run_of (R.exec_load d g.2 (by simpa using A)) w (o0p s),z⟩
     ·cases c
    ·cases c
   ·cases c
  ·cases c
 ·rename_i t x k d
  have g:=T05 (L:=L) (st:=st) (stX:=stX) (be:=be) (oe:=oe) (a:=a) (x:=x) λt e=>f t (by rw[d];simp[Op.operands,e])
  split at c
  ·rename_i i off m l e
   rw[l]at g
   cases c
   exact⟨ptr (be i) (off+m),R.run_of (R.exec_fieldAddr d e g.2) w (o0p s),g.1,rfl⟩
  ·cases c
 ·split at c
  ·exact h0j c f
  ·cases c
 ·split at c
  ·split at c
   ·exact h0j c f
   ·cases c
  ·cases c
 ·cases c
theorem K01{L:List (Nat×W5)}{st stX:St}{val:Nat->Value}{K:List (Nat×AV)->Prop}:∀ {l:List Operand} {acc:List (Nat×AV)},
  (∀ t,I2 stX be oe (D3 acc t) (val t))->(∀ t,Operand.tmp t∈l->(∀ av,P3 L t=some (.pu av)->I2 stX be oe av (val t))/\(P3 L t=none->I2 stX be oe (D3 st.fr t) (val t))) ->
  Q03 L st.fr l acc K->∃ fr,K fr/\∀ t,I2 stX be oe (D3 fr t) (val t)
 | [],acc,c,b,a=>⟨acc,a,c⟩
 | .tmp t::r,acc,c,b,a=>by
  have f:∀ u,Operand.tmp u∈r->_:=λu d=>b u (mC _ d)
  have h:=b t mS
  have put:∀ av,I2 stX be oe av (val t)->∀ u,I2 stX be oe (D3 ((t,av)::acc) u) (val u):=λav g u=>by
   grind[i4]
  simp only[Q03]at a
  split at a
  ·rename_i av e
   exact K01 (put av (h.1 _ e)) f a
  ·rename_i F e
   exact K01 (put .dead trivial) f a
  ·rename_i e
   exact K01 (put _ (h.2 e)) f a
 | .const v::r,acc,c,b,a=>K01 (l:=r) c (λu d=>b u (mC _ d)) a
 | .global v::r,acc,c,b,a=>K01 (l:=r) c (λu d=>b u (mC _ d)) a
 | .func v::r,acc,c,b,a=>K01 (l:=r) c (λu d=>b u (mC _ d)) a
theorem v0b:∀(L:List (Nat×W5)) (fr:List (Nat×AV)) (t:Nat),D3 (Q0i L fr) t=match P3 L t with
  |some (.pu av)=>av
  |some (.ef _) => .dead
  |none=>D3 fr t
 | [],fr,t=>rfl
 |(d,.pu av)::r,fr,t=>by
  simp only[Q0i]
  rw[i4,I00]
  split
  ·rfl
  ·exact v0b r fr t
 |(d,.ef F)::r,fr,t=>by
  simp only[Q0i]
  rw[i4,I00]
  split
  ·rfl
  ·exact v0b r fr t
theorem i0j{L a:List (Nat×W5)}{o:Oper}{st:St}(h:∀ t,Operand.tmp t∈o.op.operands->P3 L t=P3 a t):K08 P L o st=K08 P a o st:=by
 have d:∀ x:Operand,(∀ t,x = .tmp t->Operand.tmp t∈o.op.operands)->w05 L st x=w05 a st x:=λx c=>by
  cases x with
  |tmp t=>grind[w05]
  |_=>rfl
 have e:k0l P L o st=k0l P a o st:=by
  unfold k0l
  rw[j05 (l:=o.op.operands.toList) λt b=>h t (by simpa using b)]
 unfold K08
 split
 ·rename_i x c;rw[d x λt b=>by grind[Op.operands]]
 ·rename_i x c;rw[d x λt b=>by grind[Op.operands]]
 ·rename_i t x c;rw[d x λt b=>by grind[Op.operands]]
 all_goals grind[Op.operands,List.mem_cons_self,Call.operands]
theorem L01{L c:List (Nat×W5)}{f:List (Nat×AV)}{K:List (Nat×AV)->Prop}:∀ {l:List Operand} {acc:List (Nat×AV)},(∀ t,Operand.tmp t∈l->P3 L t=P3 c t)->Q03 L f l acc K->Q03 c f l acc K
 | [],acc,a,h=>h
 | .tmp t::r,acc,a,h=>by
  have e:=a t mS
  have d:∀ u,Operand.tmp u∈r->P3 L u=P3 c u:=λu b=>a u (mC _ b)
  simp only[Q03]at h ⊢
  rw[←e]
  split at h
  ·exact L01 d h
  ·exact L01 d h
  ·exact L01 d h
 | .const _::r,acc,a,h=>L01 (l:=r) (λu b=>a u (mC _ b)) h
 | .func _::r,acc,a,h=>L01 (l:=r) (λu b=>a u (mC _ b)) h
 | .global _::r,acc,a,h=>L01 (l:=r) (λu b=>a u (mC _ b)) h
structure k05 (P:Program) (st:St) (h:Hp) (ops:List Oper) (k:Nat) (L:List (Nat×W5)) (X E:List (Nat×Oper)):Prop where
 key:∀ t f,P3 L t=some f->∃(i:Nat) (oi:Oper),i<k/\ops[i]?=some oi/\oi.dst=some t
 cov:∀(i:Nat) (oi:Oper) (d:Nat),i<k->ops[i]?=some oi->oi.dst=some d->∃ f,P3 L d=some f
 each:∀(j:Nat) (o:Oper),j<k->ops[j]?=some o->o.guard=none/\((j,o)∈E∨((∀ p∈E,p.1≠j)/\∃ av,(K08 P L o st=some av∨((j,o)∈X/\R0i P st h L o av))/\∀ d,o.dst=some d->P3 L d=some (.pu av)))
 eff:∀ p∈E,p.1<k/\ops[p.1]?=some p.2/\∀ d,p.2.dst=some d->∃ F,P3 L d=some (.ef F)
 nd:(E.map λp=>p.1).Nodup
 xx:∀ p∈X,p.1<k/\ops[p.1]?=some p.2
theorem k05.add{st:St}{h:Hp}{ops:List Oper}{k:Nat}{L:List (Nat×W5)}{X w E A:List (Nat×Oper)}{o:Oper}{f:W5}
  (Z:∀(i j:Nat) (m b:Oper) (d:Nat),ops[i]?=some m->ops[j]?=some b->m.dst=some d->b.dst=some d->i=j)
  (aa:∀(j:Nat) (o:Oper) (t i:Nat) (m:Oper),ops[j]?=some o->Operand.tmp t∈o.op.operands->ops[i]?=some m->m.dst=some t->i<j)
  (s:k05 P st h ops k L X E) (M:ops[k]?=some o) (C:o.guard=none) (Q:w=X∨w=X ++ [(k,o)])
  (J:(A=E/\∃ av,f = .pu av/\(K08 P L o st=some av∨((k,o)∈w/\R0i P st h L o av)))∨(A=E ++ [(k,o)]/\∃ F,f = .ef F)):k05 P st h ops (k+1) (o06 o.dst f L) w A:=by
 have no:∀ d,o.dst=some d->P3 L d=none:=λd c=>by
  cases h:P3 L d with
  |none=>rfl
  |some g =>
   obtain⟨i,m,u,q,I⟩:=s.key d g h
   grind
 have up:∀ t g,P3 L t=some g->P3 (o06 o.dst f L) t=some g:=λt g l=>by
  cases c:o.dst with
  |none=>exact l
  |some d =>
   show P3 ((d,f)::L) t=some g
   grind[I00]
 have W:∀ d,o.dst=some d->P3 (o06 o.dst f L) d=some f:=λd c=>by
  rw[c];show P3 ((d,f)::L) d=some f;rw[I00,if_pos rfl]
 have dn:∀ t g,P3 (o06 o.dst f L) t=some g->P3 L t=some g∨(o.dst=some t/\g=f):=λt g l=>by
  cases c:o.dst with
  |none=>rw[c]at l;exact .inl l
  |some d =>
   rw[c]at l
   change P3 ((d,f)::L) t=some g at l
   grind[I00]
 have Y:∀(j:Nat) (b:Oper),j<=k->ops[j]?=some b->K08 P L b st=K08 P (o06 o.dst f L) b st:=λj b K v=>i0j λt l=>by
  cases c:o.dst with
  |none=>rfl
  |some d =>
   show P3 L t=P3 ((d,f)::L) t
   rw[I00]
   grind
 have H:∀(j:Nat) (b:Oper) (av:AV),j<=k->ops[j]?=some b->R0i P st h L b av->R0i P st h (o06 o.dst f L) b av:=λj b av K v D=>by
  obtain⟨n,fr,bx,ow⟩:=st
  intro N R
  refine L01 (λt l=>?_) (D N R)
  cases c:o.dst with
  |none=>rfl
  |some d =>
   show P3 L t=P3 ((d,f)::L) t
   rw[I00]
   split
   all_goals grind
 have T:∀ p,p∈X->p∈w:=λp a=>by
  grind
 refine⟨λt g l=>?_,λi m d ab u q=>?_,λj b K v=>?_,λp a=>?_,?_,λp a=>?_⟩
 rotate_left 5
 ·rcases Q with rfl|rfl
  ·obtain⟨u,q⟩:=s.xx p a
   grind
  ·rcases List.mem_append.1 a with a|a
   ·obtain⟨u,q⟩:=s.xx p a
    grind
   grind
 rotate_left 4
 ·rcases J with⟨rfl,_⟩|⟨rfl,_⟩
  ·exact s.nd
  ·rw[List.map_append,List.nodup_append]
   refine⟨s.nd,by simp,λx D y S e=>?_⟩
   obtain⟨p,a,rfl⟩:=List.mem_map.1 D
   have:=(s.eff p a).1
   simp at S
   omega
 ·rcases dn t g l with h|⟨h,_⟩
  ·obtain⟨i,m,u,q⟩:=s.key t g h
   exact⟨i,m,by omega,q⟩
  grind
 ·rcases Nat.lt_or_ge i k with h|h
  ·obtain⟨g,C⟩:=s.cov i m d h u q
   exact⟨g,up d g C⟩
  grind
 ·rcases Nat.lt_or_ge j k with h|h
  ·obtain⟨U,G⟩:=s.each j b h v
   refine⟨U,?_⟩
   rcases G with G|⟨G,av,z,V⟩
   ·grind
   ·right
    refine⟨λp a=>?_,av,z.imp (λz=>by grind) (λz=>⟨T _ z.1,H j b av (by omega) v z.2⟩),λd c=>up d _ (V d c)⟩
    grind
  ·have:j=k:=by omega
   subst this
   rw[M]at v;cases v
   refine⟨C,?_⟩
   rcases J with⟨rfl,av,rfl,a⟩|⟨rfl,F,rfl⟩
   ·right
    exact⟨λp a=>by have:=(s.eff p a).1;omega,av,a.imp (λa=>by grind) (λa=>⟨a.1,H _ o av (Nat.le_refl _) M a.2⟩),W⟩
   grind
 ·have ac:p∈E->p.1<k+1/\ops[p.1]?=some p.2/\∀ d,p.2.dst=some d->∃ F,P3 (o06 o.dst f L) d=some (.ef F):=λa=>by
   obtain⟨u,q,I⟩:=s.eff p a
   exact⟨by omega,q,λd c=>by obtain⟨F,O⟩:=I d c;exact⟨F,up d _ O⟩⟩
  grind
theorem l05{ops:List Oper}{st:St}{h:Hp}{K:List (Nat×W5)->List (Nat×Oper)->List (Nat×Oper)->Prop}
  (c:∀(i j:Nat) (b z:Oper) (d:Nat),ops[i]?=some b->ops[j]?=some z->b.dst=some d->z.dst=some d->i=j)
  (e:∀(j:Nat) (o:Oper) (t i:Nat) (b:Oper),ops[j]?=some o->Operand.tmp t∈o.op.operands->ops[i]?=some b->b.dst=some t->i<j) :
  ∀(l:List Oper) (k:Nat) (L:List (Nat×W5)) (X E:List (Nat×Oper)),(∀ j,l[j]?=ops[k+j]?)->k05 P st h ops k L X E->m03 P st h l k L X E K->∃ w x v,K w x v/\k05 P st h ops ops.length w x v
 | [],k,L,X,E,g,s,a=>by
  refine⟨L,X,E,a,?_⟩
  have H:ops.length<=k:=by
   have:=g 0
   simpa using this
  have lt:∀(i:Nat) (b:Oper),ops[i]?=some b->i<ops.length:=λi b h=>(List.getElem?_eq_some_iff.1 h).1
  exact⟨λt f h=>by obtain⟨i,b,_,y,A⟩:=s.key t f h;grind,λi b d F=>s.cov i b d (by omega),λj o G=>s.each j o (by omega),
   λp u=>by obtain⟨_,y,A⟩:=s.eff p u;grind,s.nd,λp u=>by obtain⟨_,y⟩:=s.xx p u;grind⟩
 |o::l,k,L,X,E,g,s,a=>by
  have q:ops[k]?=some o:=by simpa using (g 0).symm
  have n:∀ j,l[j]?=ops[k+1+j]?:=λj=>by have:=g (j+1);grind
  simp only[m03]at a
  split at a
  ·exact a.elim
  ·rename_i m
   split at a
   ·rename_i av C
    rw[C02]at a
    exact l05 c e l (k+1) _ _ _ n (s.add c e q m (.inl rfl) (.inl ⟨rfl,av,rfl,.inl C⟩)) a
   ·rcases a with⟨av,D,a⟩|a
    ·rw[C02]at a
     exact l05 c e l (k+1) _ _ _ n (s.add c e q m (.inr rfl) (.inl ⟨rfl,av,rfl,.inr ⟨by simp,D⟩⟩)) a
    ·exact l05 c e l (k+1) _ _ _ n (s.add c e q m (.inl rfl) (.inr ⟨rfl,_,rfl⟩)) a
theorem L0d:∀(r:List (Nat×Oper)) (q:Nat×Oper),u04 r=true->q∈r.tail->∃ p∈r,i8 p.1 q.2=true
 | [],q,_,h=>by cases h
 | [x],q,_,h=>by cases h
 |(i,o)::(j,b)::r,q,a,h=>by
  simp only[u04,Bool.and_eq_true]at a
  rcases List.mem_cons.1 h with rfl|h
  ·simp_all
  ·obtain⟨p,d,c⟩:=L0d ((j,b)::r) q a.2 h
   grind
theorem S02:∀(d r:List (Nat×Oper)),u04 (d++r)=true->u04 r=true
 | [],r,h=>h
 | [x],[],h=>rfl
 | [(i,o)],(j,a)::r,h=>by simp_all[List.singleton_append,u04,Bool.and_eq_true]
 |(i,o)::(j,a)::d,r,h=>by
  simp only[List.cons_append,u04,Bool.and_eq_true]at h
  exact S02 ((j,a)::d) r h.2
theorem z05{i:Nat}{o:Oper}:∀ {N:Nat},v04 N i o=true->∀ k,k<N->k≠i->∃ e∈o.after,Region.binds .any e=true/\e.on=k
 |0,_,k,a,_=>by omega
 |N+1,h,k,a,b=>by
  simp only[v04,Bool.and_eq_true,Bool.or_eq_true]at h
  by_cases e:k=N
  ·grind[absurd,Nat.eq_of_beq_eq_true,J7]
  ·exact z05 h.2 k (by omega) b
def t0l(P:Program)(h0:Hp)(w0:World)(ops:Array Oper)(n:Nat)(fr:List (Nat×AV))(f:List BSt)(g:List Own)(i:Hp)(c:Nat)(F:List (Nat×Oper))(b:List (Nat×W5))(EV:List (Nat×Oper)->List (Nat×Oper)->List (Nat×W5)->St->Hp->Prop)(listed:Array Bool)(a:Act)(w:World):Prop :=
 ∃(dn r:List (Nat×Oper)) (L:List (Nat×W5)) (bx:List BSt) (ow:List Own) (h:Hp) (be:Nat->Nat) (oe:Nat->Value) (H:Hp),F=dn++r/\(dn.length<=c->ow=g/\Sub i h/\(bx=f∨∀ k,k<ops.size->listed.getD k false=true))/\(∀(j:Nat) (o:Oper),ops[j]?=some o->listed.getD j false=true->∀ e∈o.after,Region.binds .any e=true->listed.getD e.on false=true)/\(∀ p∈r,listed.getD p.1 true=false)/\(∀ p∈dn,listed.getD p.1 false=true) /\
  (L08 bx (H9 b ⟨n,fr,f,g⟩ ops.toList)=L08 f (H9 b ⟨n,fr,f,g⟩ ops.toList)∨∀ k,k<ops.size->listed.getD k false=true)/\Sim P h0 w0 be oe H ⟨n,A4 ops.toList fr,bx,ow⟩ h a w/\EV dn r L ⟨n,fr,bx,ow⟩ h /\
  (∀ t,(P3 b t=none->P3 L t=none)/\∀ av,P3 b t=some (.pu av)->P3 L t=some (.pu av)) /\
  ∀(j:Nat) (o:Oper) (d:Nat),ops[j]?=some o->o.dst=some d->listed.getD j false=true->∃ av,P3 L d=some (.pu av)/\I2 ⟨n,fr,bx,ow⟩ be oe av (a.tmps.getD d undef)
abbrev Y0n(P:Program)(h0:Hp)(w0:World)(ops:Array Oper)(n:Nat)(fr:List (Nat×AV))(d:List BSt)(e:List Own)(f:Hp)(c:Nat)(E:List (Nat×Oper))(b:List (Nat×W5))(K:St->Hp->Prop)(listed:Array Bool)(a:Act)(w:World):Prop :=
 t0l P h0 w0 ops n fr d e f c E b (λdn r L st h=>evC (H9 b ⟨n,fr,d,e⟩ ops.toList) ops.size P (c-dn.length) r L st h K) listed a w
theorem h0t{ops:Array Oper}{Q:Exit->Act->World->Prop}{Inv:Array Bool->Act->World->Prop}(i:∀(k:Nat) (o:Oper),ops.toList[k]?=some o->∀ e∈o.after,Region.binds .any e=true->e.on<k)
  (n:∀ listed a w j o,listed.size=ops.size->listed.getD j true=false->ops[j]?=some o->(∀ e∈o.after,Region.binds .any e=true->listed.getD e.on false=true)->Inv listed a w->o.guard=none/\o.wp P a w (Inv (listed.setIfInBounds j true)) Q)
  (g:∀ listed a w,(∀ j,j<ops.size->listed.getD j false=true)->Inv listed a w->Q .normal a w) :
  ∀(fuel:Nat) (listed:Array Bool) (a:Act) (w:World),listed.size=ops.size->listed.toList.count true+fuel=ops.size->Inv listed a w->wpAny P .any ops Q fuel listed a w
 |0,listed,a,w,f,t,d=>by
  have s:∀ j,j<ops.size->listed.getD j false=true:=λj l=>by
   have c:∀ b∈listed.toList,true=b:=List.count_eq_length.1 (by grind)
   have x:j<listed.size:=by omega
   have:=c listed[j] (by simp)
   simp[x,←this]
  refine⟨?_,g listed a w s d⟩
  cases m:Region.ready .any ops listed with
  |nil=>rfl
  |cons j r =>
   grind[Region.ready,List.mem_cons_self,mem_ready,Array.getElem?_eq_some_iff]
 |fuel+1,listed,a,w,f,t,d=>by
  refine⟨λm=>g listed a w (u0b i f m) d,λj l=>?_⟩
  obtain⟨c,o,h,q⟩:=mem_ready.1 l
  unfold wpOp
  simp only[h]
  obtain⟨u,z⟩:=n listed a w j o f c h q d
  have y:Region.wanted o (yielded ops a.tmps)=true:=by unfold Region.wanted;rw[u]
  rw[if_pos y]
  exact .inl (Oper.wp_mono (λp A v=>h0t i n g fuel _ p A (by simpa using f) (by rw[count_set c];omega) v) z)
theorem i0a{ops:Array Oper}{listed:Array Bool}{X:List (Nat×Oper)}
  (f:∀(k:Nat) (o:Oper),ops[k]?=some o->listed.getD k false=true->∀ e∈o.after,Region.binds .any e=true->listed.getD e.on false=true)
  (p:∀ y∈X,ops[y.1]?=some y.2):∀(n i a:Nat) (q:Oper),ops[a]?=some q->listed.getD a false=true->A0h X n i q=true->listed.getD i false=true
 |0,i,a,q,h,g,j=>by
  obtain⟨e,b,c,d⟩:=J7 j
  have:=f a q h g e b c
  rwa [d]at this
 |n+1,i,a,q,h,g,j=>by
  simp only[A0h,Bool.or_eq_true,List.any_eq_true,Bool.and_eq_true]at j
  rcases j with l|⟨y,t,l,s⟩
  ·obtain⟨e,b,c,d⟩:=J7 l
   have:=f a q h g e b c
   rwa [d]at this
  ·obtain⟨e,b,c,d⟩:=J7 l
   have m:=f a q h g e b c
   rw[d]at m
   exact i0a f p n i y.1 y.2 (p y t) m s
theorem w0b{E:List (Nat×Oper)}{listed:Array Bool}{j:Nat}{o:Oper}(h:∀ e∈o.after,Region.binds .any e=true->listed.getD e.on false=true)
  (d:∀ dn r,E=dn++r->u04 r=true) {dn r:List (Nat×Oper)} (c:E=dn++r) (k:∀ p∈r,listed.getD p.1 true=false) (b:(j,o)∈r):∃ a,r=(j,o)::a:=by
 obtain⟨q,a,rfl⟩:∃ q a,r=q::a:=by
  cases r with
  |nil=>cases b
  |cons q a=>exact⟨q,a,rfl⟩
 rcases List.mem_cons.1 b with e|f
 ·grind
 ·exfalso
  obtain⟨p,i,g⟩:=L0d (q::a) (j,o) (d dn _ c) f
  grind[J7,Nat.lt_or_ge,Array.getElem?_eq_none]
theorem n0g{ops:Array Oper}{n:Nat}{fr:List (Nat×AV)}{aa:List BSt}{ak:List Own}{aY:Hp}{c:Nat}{X E F:List (Nat×Oper)}{ae:List (Nat×W5)}{EV:List (Nat×Oper)->List (Nat×Oper)->List (Nat×W5)->St->Hp->Prop}{Q:Exit->Act->World->Prop}{listed:Array Bool}{j:Nat}{o:Oper}
  (bb:∀(i j:Nat) (l br:Oper) (d:Nat),ops.toList[i]?=some l->ops.toList[j]?=some br->l.dst=some d->br.dst=some d->i=j)
  (bi:∀ o∈ops.toList,∀ d,o.dst=some d->d<n) (an:k05 P ⟨n,fr,aa,ak⟩ aY ops.toList ops.toList.length ae X E) (aR:∀ x∈F,x∈E) (bz:(j,o)∈E->(j,o)∈F) (bA:(F.map λp=>p.1).Nodup)
  (bT:∀ dn r,F=dn++r->(∀ p∈dn,listed.getD p.1 false=true)->(∀ p∈r,listed.getD p.1 true=false)->(j,o)∈r->∃ N,r=(j,o)::N)
  (aW:∀ dn N L bx ow h,F=dn++(j,o)::N->(∀ p∈dn,listed.getD p.1 false=true)->EV dn ((j,o)::N) L ⟨n,fr,bx,ow⟩ h->Q03 L fr o.op.operands.toList [] λW=>c8 P o ⟨n,W,bx,ow⟩ h λav st' ab=>match st' with
   |⟨_,_,D,I⟩=>j0b (c-dn.length) ow I h ab/\d0g (c-dn.length) (U09 ops.size j o N) (H9 ae ⟨n,fr,aa,ak⟩ ops.toList) bx D/\d01 av λav=>d8 D λD=>d8 I λI=>EV (dn ++ [(j,o)]) N (o06 o.dst (.pu av) L) ⟨n,fr,D,I⟩ ab)
  (aV:u0d X (X++E) (F.drop c)=true)
  (aw:listed.getD j true=false) (ay:ops[j]?=some o) (bZ:listed.size=ops.size)
  (bg:∀ t,Operand.tmp t∈o.op.operands->∀(i:Nat) (l:Oper),ops.toList[i]?=some l->l.dst=some t->listed.getD i false=true)
  (bh:∀ e∈o.after,Region.binds .any e=true->listed.getD e.on false=true)
  (aX:t0l P h0 w0 ops n fr aa ak aY c F ae EV listed a w):o.guard=none/\o.wp P a w (t0l P h0 w0 ops n fr aa ak aY c F ae EV (listed.setIfInBounds j true)) Q:=by
 obtain⟨dn,r,L,bx,ow,ab,be,oe,H,R,ar,bf,aK,af,b2,s,ag,S,ao⟩:=aX
 have az:ops.toList[j]?=some o:=by simpa using ay
 have aJ:o∈ops.toList:=List.mem_of_getElem? az
 have aH:j<ops.toList.length:=(List.getElem?_eq_some_iff.1 az).1
 have aG:j<listed.size:=by simpa [bZ] using aH
 have a0 : ¬ ∀ k,k<ops.size->listed.getD k false=true:=λe=>by
  grind
 have aS:L08 bx (H9 ae ⟨n,fr,aa,ak⟩ ops.toList)=L08 aa (H9 ae ⟨n,fr,aa,ak⟩ ops.toList):=by
  grind
 obtain⟨bI,bN⟩:=an.each j o aH az
 refine⟨bI,?_⟩
 have bt:∀ t,P3 L t≠none->∃(i:Nat) (l:Oper),ops.toList[i]?=some l/\l.dst=some t:=λt A=>by
  cases h0':P3 ae t with
  |none=>exact absurd ((S t).1 h0') A
  |some f=>obtain⟨i,l,_,u,T⟩:=an.key t f h0';exact⟨i,l,u,T⟩
 have frame:∀ t,(∀ aB∈ops.toList,aB.dst≠some t)->I2 ⟨n,fr,bx,ow⟩ be oe (D3 fr t) (a.tmps.getD t undef):=λt A=>by
  have g:=s.fr t
  change I2 _ be oe (D3 (A4 ops.toList fr) t) _ at g
  rw[e01 A]at g
  exact I2.fr (st:=⟨n,A4 ops.toList fr,bx,ow⟩) (fr:=fr) g
 have aC:∀ t,Operand.tmp t∈o.op.operands->(∀ av,P3 L t=some (.pu av)->I2 ⟨n,fr,bx,ow⟩ be oe av (a.tmps.getD t undef))/\(P3 L t=none->I2 ⟨n,fr,bx,ow⟩ be oe (D3 fr t) (a.tmps.getD t undef)):=λt A=>by
  refine⟨λav bd=>?_,λbS=>frame t λaB bU K=>?_⟩
  ·obtain⟨i,l,m,u⟩:=bt t (by rw[bd];simp)
   obtain⟨O,G,J⟩:=ao i l t (by simpa using m) u (bg t A i l m u)
   rw[bd]at G;cases G
   exact J
  ·obtain⟨i,aX,e⟩:=List.getElem_of_mem bU
   have m:ops.toList[i]?=some aB:=by rw[List.getElem?_eq_getElem aX,e]
   obtain⟨O,G,_⟩:=ao i aB t (by simpa using m) K (bg t A i aB m K)
   rw[bS]at G;cases G
 have ad:∀ i,i≠j->∀ d,(listed.setIfInBounds j true).getD i d=listed.getD i d:=λi C d=>getD_set_ne d (Ne.symm C)
 have a1:∀ {D:List BSt} {I:List Own} {Y:Hp} {be':Nat->Nat} {oe':Nat->Value} {V:Hp} {v:Value} {al:World},Sim P h0 w0 be' oe' V ⟨n,A4 ops.toList fr,D,I⟩ Y a al->Sim P h0 w0 be' oe' V ⟨n,A4 ops.toList fr,D,I⟩ Y (a.put o.dst v) al:=by
  intro D I Y be' oe' V v al s1
  cases K:o.dst with
  |none=>exact s1
  |some d =>
   have z:=s1.put (d:=d) (av := .dead) (v:=v) (bi o aJ d K) trivial
   refine z.refr (fr:=A4 ops.toList fr) λt=>?_
   have g:=z.fr t
   change I2 _ _ _ (D3 ((d,.dead)::A4 ops.toList fr) t) _ at g
   rw[i4]at g
   split at g
   ·rename_i e
    subst e
    rw[b02 aJ K]
    trivial
   ·exact g
 have a2:∀(v:Value) (i:Nat) (l:Oper) (d:Nat),ops[i]?=some l->l.dst=some d->i≠j->(a.put o.dst v).tmps.getD d undef=a.tmps.getD d undef:=λv i l d m u C=>by
  cases K:o.dst with
  |none=>rfl
  |some a4 =>
   have ah:a4≠d:=λe=>by subst e;exact C (bb i j l o a4 (by simpa using m) az u K)
   simp[Act.put,Array.getElem?_setIfInBounds_ne ah]
 have a3:∀(v:Value) (d:Nat),o.dst=some d->(a.put o.dst v).tmps.getD d undef=v:=λv d K=>by
  have aH:d<a.tmps.size:=by rw[s.siz];exact bi o aJ d K
  rw[K]
  simp[Act.put,aH]
 have aT:∀(i:Nat) (l:Oper),ops[i]?=some l->(listed.setIfInBounds j true).getD i false=true->∀ e∈l.after,Region.binds .any e=true->(listed.setIfInBounds j true).getD e.on false=true:=λi l m u e aE aF=>by
  by_cases C:i=j
  ·subst C
   rw[ay]at m;cases m
   exact getD_set_true (bh e aE aF)
  ·rw[ad i C]at u
   exact getD_set_true (bf i l m u e aE aF)
 rcases bN with au|⟨bk,av,bV|⟨bK,bO⟩,bc⟩
 ·
  have bM:(j,o)∈r:=by
   have au:=bz au
   rw[R]at au
   rcases List.mem_append.1 au with ai|ai
   ·have m:=af _ ai
    simp[aG]at m aw
    rw[m]at aw;cases aw
   ·exact ai
  obtain⟨N,rfl⟩:=bT dn r R af aK bM
  have ag:=aW dn N L bx ow ab R af ag
  obtain⟨W,ag,aM⟩:=K01 (acc:=[]) (st:=⟨n,fr,bx,ow⟩) (stX:=⟨n,fr,bx,ow⟩) (be:=be) (oe:=oe) (val:=λt=>a.tmps.getD t undef) (λt=>trivial) (λt A=>aC t (by simpa using A)) ag
  have s':Sim P h0 w0 be oe H ⟨n,W,bx,ow⟩ ab a w:=s.refr (fr:=W) λt=>I2.fr (st:=⟨n,fr,bx,ow⟩) (fr:=A4 ops.toList fr) (aM t)
  refine Oper.wp_mono (λbu al ai=>?_) (b00 s' ag)
  obtain⟨O,⟨Z,ba,D,I⟩,Y,v,be',oe',V,am,rfl,s2,aN,M⟩:=ai
  obtain⟨aU,U,am⟩:=am
  rw[C02,Y01,Y01]at am
  have bR:Z=n:=by
   have G:a.tmps.size=Z:=s2.siz
   have J:a.tmps.size=n:=s.siz
   omega
  subst bR
  have aO:Q6 ⟨Z,fr,bx,ow⟩ be oe ⟨Z,fr,D,I⟩ be' oe':=⟨M.bl,M.be,M.sm⟩
  have aP:Q6 ⟨Z,A4 ops.toList fr,bx,ow⟩ be oe ⟨Z,A4 ops.toList fr,D,I⟩ be' oe':=⟨M.bl,M.be,M.sm⟩
  have aZ:Sim P h0 w0 be' oe' V ⟨Z,A4 ops.toList fr,D,I⟩ Y a al :=
   s2.refr (fr:=A4 ops.toList fr) λt=>I2.fr (st:=⟨Z,A4 ops.toList fr,D,I⟩) (fr:=ba) ((s.fr t).grow aP)
  have b0:∀ d,o.dst=some d->P3 (o06 o.dst (.pu O) L) d=some (.pu O):=λd K=>by
   rw[K];show P3 ((d,.pu O)::L) d=_;rw[I00,if_pos rfl]
  have bm:∀ t,o.dst≠some t->P3 (o06 o.dst (.pu O) L) t=P3 L t:=λt A=>by
   cases K:o.dst with
   |none=>rfl
   |some d =>
    show P3 ((d,.pu O)::L) t=_
    rw[I00,if_neg λe=>A (by rw[K,e])]
  have bq:U09 ops.size j o N=true->∀ k,k<ops.size->(listed.setIfInBounds j true).getD k false=true:=λac k am=>by
   have bB:v04 ops.size j o=true:=by
    cases N with
    |nil=>exact ac
    |cons q b4=>cases ac
   by_cases hkj:k=j
   ·subst hkj;simp[aG]
   ·rw[ad k hkj]
    obtain⟨e,aE,aF,rfl⟩:=z05 bB k am hkj
    exact bh e aE aF
  refine⟨dn ++ [(j,o)],N,o06 o.dst (.pu O) L,D,I,Y,be',oe',V,by rw[R];simp,λax=>(by
   have b3:dn.length<c:=by simp only[List.length_append,List.length_singleton]at ax;omega
   obtain⟨G,J,aq⟩:=ar (by omega)
   obtain⟨aL,bE⟩:∃ aL,c-dn.length=aL+1:=⟨c-dn.length-1,by omega⟩
   rw[bE]at aU U
   refine⟨aU.1.trans G,λb o bC=>aU.2 b o (J b o bC),?_⟩
   cases ac:U09 ops.size j o N with
   |true=>exact .inr (bq ac)
   |false =>
    rw[ac]at U
    rcases aq with aq|aq
    ·exact .inl (U.trans aq)
    ·exact absurd aq a0),aT,λp z=>?_,λp z=>?_,?_,a1 aZ,am,λt=>?_,λi l d m u T=>?_⟩
  ·have ah:p.1≠j:=λe=>by
    have bj:=bA
    rw[R,List.map_append,List.nodup_append]at bj
    have u:=bj.2.1
    rw[List.map_cons,List.nodup_cons]at u
    exact u.1 (List.mem_map.2 ⟨p,z,e⟩)
   rw[ad _ ah]
   exact aK p (mC _ z)
  ·rcases List.mem_append.1 z with z|z
   ·exact getD_set_true (af p z)
   ·simp at z
    subst z
    simp[aG]
  ·cases ac:U09 ops.size j o N with
   |false =>
    rw[ac]at U
    left
    rw[←aS]
    cases hc:c-dn.length with
    |zero=>rw[hc]at U;exact U
    |succ aL =>
     rw[hc]at U
     have U:D=bx:=U
     rw[U]
   |true=>exact .inr (bq ac)
  ·by_cases A:o.dst=some t
   ·obtain⟨_,_,aD⟩:=an.eff (j,o) au
    obtain⟨F,aD⟩:=aD t A
    exact⟨λe=>(by rw[aD]at e;cases e),λav e=>(by rw[aD]at e;cases e)⟩
   ·rw[bm t A]
    exact S t
  ·by_cases C:i=j
   ·subst C
    rw[ay]at m;cases m
    exact⟨O,b0 d u,by rw[a3 v d u];exact I2.fr (st:=⟨Z,ba,D,I⟩) (fr:=fr) aN⟩
   ·rw[ad _ C]at T
    obtain⟨ap,G,J⟩:=ao i l d m u T
    have bF:o.dst≠some d:=λe=>C (bb i j l o d (by simpa using m) az u e)
    exact⟨ap,by rw[bm d bF];exact G,by rw[a2 v i l d m u C];exact J.grow aO⟩
 ·
  have bs:∀ {av:AV} {x:Value},I2 ⟨n,fr,bx,ow⟩ be oe av x->I2 ⟨n,A4 ops.toList fr,bx,ow⟩ be oe av x:=λg=>I2.fr (st:=⟨n,fr,bx,ow⟩) (fr:=A4 ops.toList fr) g
  obtain⟨v,bY,bv⟩:=X0n (st:=⟨n,fr,aa,ak⟩) (stX:=⟨n,A4 ops.toList fr,bx,ow⟩) s (λb5 x i off G J=>m0g aS (K0d G J aJ)) bV (λt A=>⟨λav e=>bs ((aC t A).1 av ((S t).2 av e)),λe=>bs ((aC t A).2 ((S t).1 e))⟩)
  refine H7 bY ?_
  refine⟨dn,r,L,bx,ow,ab,be,oe,H,R,(λax=>⟨(ar ax).1,(ar ax).2.1,.inl ((ar ax).2.2.resolve_right a0)⟩),aT,λp z=>?_,λp z=>getD_set_true (af p z),.inl aS,a1 s,ag,S,λi l d m u T=>?_⟩
  ·have ah:p.1≠j:=bk p (aR _ (by rw[R];exact List.mem_append_right _ z))
   rw[ad _ ah]
   exact aK p z
  ·by_cases C:i=j
   ·subst C
    rw[ay]at m;cases m
    exact⟨av,(S d).2 av (bc d u),by rw[a3 v d u];exact I2.fr (st:=⟨n,A4 ops.toList fr,bx,ow⟩) (fr:=fr) bv⟩
   ·rw[ad _ C]at T
    obtain⟨ap,G,J⟩:=ao i l d m u T
    exact⟨ap,G,by rw[a2 v i l d m u C];exact J⟩
 ·
  have bG:dn.length<=c:=by
   rcases Nat.lt_or_ge c dn.length with bP|bJ
   ·exfalso
    obtain⟨⟨aj,q⟩,bn⟩:∃ b1,dn[c]?=some b1:=⟨_,List.getElem?_eq_getElem bP⟩
    have bo:(aj,q)∈dn:=List.mem_of_getElem? bn
    have bH:∃ t,F.drop c=(aj,q)::t:=by
     obtain⟨bQ,J⟩:=List.getElem?_eq_some_iff.1 bn
     refine⟨(dn++r).drop (c+1),?_⟩
     rw[R,List.drop_eq_getElem_cons (by simp;omega),List.getElem_append_left bQ,J]
    have bL:listed.getD j false=false:=by simp[aG]at aw ⊢;exact aw
    have bW:listed.getD aj false=true:=af (aj,q) bo
    have bX:ops[aj]?=some q:=by
     have:=(an.eff (aj,q) (aR _ (by rw[R];exact List.mem_append_left _ bo))).2.1
     simpa using this
    obtain⟨t,A⟩:=bH
    rw[A]at aV
    simp only[u0d,List.all_eq_true]at aV
    have:=i0a (X:=X++E) bf (λy aA=>by
     rcases List.mem_append.1 aA with aA|aA
     ·have aQ:=(an.xx y aA).2;simpa using aQ
     ·have aQ:=(an.eff y aA).2.1;simpa using aQ) 8 j aj q bX bW (aV (j,o) bK)
    rw[bL]at this;cases this
   ·exact bJ
  obtain⟨rfl,bp,bD⟩:=ar bG
  obtain rfl:=bD.resolve_right a0
  obtain⟨W,aW,aM⟩:=K01 (acc:=[]) (st:=⟨n,fr,bx,ow⟩) (stX:=⟨n,fr,bx,ow⟩) (be:=be) (oe:=oe) (val:=λt=>a.tmps.getD t undef) (λt=>trivial)
   (λt A=>⟨λav e=>(aC t (by simpa using A)).1 av ((S t).2 av e),λe=>(aC t (by simpa using A)).2 ((S t).1 e)⟩) (bO ab bp)
  have s':Sim P h0 w0 be oe H ⟨n,W,bx,ow⟩ ab a w:=s.refr (fr:=W) λt=>I2.fr (st:=⟨n,fr,bx,ow⟩) (fr:=A4 ops.toList fr) (aM t)
  refine Oper.wp_mono (λbu al ai=>?_) (b00 s' aW)
  obtain⟨O,st',Y,v,be',oe',V,⟨rfl,rfl,rfl⟩,rfl,s2,aN,M⟩:=ai
  have aO:Q6 ⟨n,fr,bx,ow⟩ be oe ⟨n,fr,bx,ow⟩ be' oe':=⟨M.bl,M.be,M.sm⟩
  have aP:Q6 ⟨n,A4 ops.toList fr,bx,ow⟩ be oe ⟨n,A4 ops.toList fr,bx,ow⟩ be' oe':=⟨M.bl,M.be,M.sm⟩
  have aZ:Sim P h0 w0 be' oe' V ⟨n,A4 ops.toList fr,bx,ow⟩ Y a al :=
   s2.refr (fr:=A4 ops.toList fr) λt=>I2.fr (st:=⟨n,A4 ops.toList fr,bx,ow⟩) (fr:=W) ((s.fr t).grow aP)
  refine⟨dn,r,L,bx,ow,Y,be',oe',V,R,λ_=>⟨rfl,bp,.inl rfl⟩,aT,λp z=>?_,λp z=>getD_set_true (af p z),.inl rfl,a1 aZ,ag,S,λi l d m u T=>?_⟩
  ·have ah:p.1≠j:=bk p (aR _ (by rw[R];exact List.mem_append_right _ z))
   rw[ad _ ah]
   exact aK p z
  ·by_cases C:i=j
   ·subst C
    rw[ay]at m;cases m
    exact⟨O,(S d).2 O (bc d u),by rw[a3 v d u];exact I2.fr (st:=⟨n,W,bx,ow⟩) (fr:=fr) aN⟩
   ·rw[ad _ C]at T
    obtain⟨ap,G,J⟩:=ao i l d m u T
    exact⟨ap,G,by rw[a2 v i l d m u C];exact J.grow aO⟩
theorem Q0t{ops:Array Oper}{n:Nat}{fr:List (Nat×AV)}{k:List BSt}{m:List Own}{l:Hp}{c:Nat}{X E:List (Nat×Oper)}{g:List (Nat×W5)}{K:St->Hp->Prop}{Q:Exit->Act->World->Prop}{listed:Array Bool}{j:Nat}{o:Oper}
  (v:∀(i j:Nat) (b s:Oper) (d:Nat),ops.toList[i]?=some b->ops.toList[j]?=some s->b.dst=some d->s.dst=some d->i=j)
  (H:∀ o∈ops.toList,∀ d,o.dst=some d->d<n) (u:k05 P ⟨n,fr,k,m⟩ l ops.toList ops.toList.length g X E) (y:u04 E=true) (C:u0d X (X++E) (E.drop c)=true)
  (F:listed.getD j true=false) (I:ops[j]?=some o) (M:listed.size=ops.size)
  (z:∀ t,Operand.tmp t∈o.op.operands->∀(i:Nat) (b:Oper),ops.toList[i]?=some b->b.dst=some t->listed.getD i false=true)
  (q:∀ e∈o.after,Region.binds .any e=true->listed.getD e.on false=true)
  (D:Y0n P h0 w0 ops n fr k m l c E g K listed a w):o.guard=none/\o.wp P a w (Y0n P h0 w0 ops n fr k m l c E g K (listed.setIfInBounds j true)) Q:=by
 refine n0g v H u (λx N=>N) id u.nd (λdn r f A J G=>?_) (λdn O L bx ow h f A p=>?_) C F I M z q D
 ·exact w0b q (λdn r f=>S02 dn r (by rw[←f];exact y)) f J G
 ·simp only[evC]at p
  have e:c-(dn ++ [(j,o)]).length=c-dn.length-1:=by simp;omega
  simp only[e]
  exact p
theorem M0d:∀ {k:Nat} {E:List (Nat×Oper)} {f:Nat×Oper} {a:List (Nat×Oper)},e0g k E=some (f,a)->∃ A B,E=A++f::B/\a=A++B
 |_,[],f,a,h=>by simp[e0g]at h
 |0,x::r,f,a,h=>by
  simp only[e0g,Option.some.injEq,Prod.mk.injEq]at h
  obtain⟨rfl,rfl⟩:=h
  exact⟨[],r,rfl,rfl⟩
 |k+1,x::r,f,a,h=>by
  simp only[e0g]at h
  split at h
  ·rename_i c d b
   simp only[Option.some.injEq,Prod.mk.injEq]at h
   obtain⟨rfl,rfl⟩:=h
   obtain⟨A,B,rfl,rfl⟩:=M0d b
   grind
  ·cases h
theorem o0g{f:Nat×Oper}:∀ {p:Nat} {E:List (Nat×Oper)},O0n f p E=true->∃ q,E[p]?=some q/\i8 f.1 q.2=true
 |_,[],h=>by simp[O0n]at h
 |0,(i,q)::r,h=>⟨(i,q),rfl,by simpa [O0n] using h⟩
 |p+1,x::r,h=>by
  obtain⟨q,a,b⟩:=o0g (E:=r) (p:=p) (by simpa [O0n] using h)
  grind
theorem j0j:∀ {X:List (Nat×Oper)},noX X=true->X = []
 | [],_=>rfl
 |_::_,h=>by simp[noX]at h
theorem U05{Y:List (Nat×Oper)}:∀(E:List (Nat×Oper)),u0d [] Y E=true
 | []=>rfl
 |_::_=>rfl
theorem b04{l:Array Bool}{j:Nat}(h:l.getD j true=false):l.getD j false=false:=by
 grind
theorem V05{listed:Array Bool}:∀ {A B dn r:List (Nat×Oper)},A++B=dn++r->(∀ p∈A,listed.getD p.1 false=true)->(∀ p∈r,listed.getD p.1 true=false)->∃ C,dn=A++C/\B=C++r
 | [],B,dn,r,h,_,_=>⟨dn,rfl,by simpa using h⟩
 |x::A,B,[],r,h,a,b=>by
  grind
 |x::A,B,y::dn,r,h,a,b=>by
  simp only[List.cons_append,List.cons.injEq]at h
  obtain⟨rfl,h⟩:=h
  obtain⟨C,d,e⟩:=V05 h (λp c=>a p (mC _ c)) b
  grind
theorem k0j{rd:List Nat}{N c:Nat}{L:List (Nat×W5)}{K:St->Hp->Prop}{dn d:List (Nat×Oper)}{j:Nat}{o:Oper}{n:Nat}{fr:List (Nat×AV)}{bx:List BSt}{ow:List Own}{h:Hp}
  (i:evC rd N P (c-dn.length) ((j,o)::d) L ⟨n,fr,bx,ow⟩ h K):Q03 L fr o.op.operands.toList [] λg=>c8 P o ⟨n,g,bx,ow⟩ h λav st' f=>match st' with
   |⟨_,_,a,b⟩=>j0b (c-dn.length) ow b h f/\d0g (c-dn.length) (U09 N j o d) rd bx a/\d01 av λav=>d8 a λa=>d8 b λb=>evC rd N P (c-(dn ++ [(j,o)]).length) d (o06 o.dst (.pu av) L) ⟨n,fr,a,b⟩ f K:=by
 simp only[evC]at i
 have e:c-(dn ++ [(j,o)]).length=c-dn.length-1:=by simp;omega
 simp_all
def u0p(rd:List Nat)(N:Nat)(P:Program)(m:Nat)(x:Nat×Oper)(r:List (Nat×Oper))(L:List (Nat×W5))(st:St)(h:Hp)(K:St->Hp->Prop):Prop:=match st with
 |⟨n,fr,bx,ow⟩=>Q03 L fr x.2.op.operands.toList [] λd=>c8 P x.2 ⟨n,d,bx,ow⟩ h λav st' c=>match st' with
  |⟨_,_,a,b⟩=>j0b 0 ow b h c/\d0g 0 (U09 N x.1 x.2 r) rd bx a/\d01 av λav=>d8 a λa=>d8 b λb=>S0i rd N P m r (o06 x.2.dst (.pu av) L) ⟨n,fr,a,b⟩ c K
theorem z0c{x:Nat×Oper}:∀ {r:List (Nat×Oper)},(∀ y∈r,i8 y.1 x.2=false)->B0h x r=true
 | [],_=>rfl
 |y::r,h=>by
  simp only[B0h,Bool.and_eq_true]
  exact⟨by rw[h y mS];rfl,z0c λz a=>h z (mC _ a)⟩
theorem v0m{f:(Nat×Oper)->List (Nat×Oper)->Prop}{x:Nat×Oper}:∀ {B C A:List (Nat×Oper)},(∀ y∈C++A++B,i8 y.1 x.2=false)->J05 f (k0b C (A++x::B))->f x (C++A++B)
 |B,C,[],a,h=>by
  simp only[List.nil_append,k0b,J05]at h
  rw[z0c (by simpa using a)]at h
  simpa using h.1
 |B,C,y::A,a,h=>by
  simp only[List.cons_append,k0b,J05]at h
  have b:J05 f (k0b (C ++ [y]) (A++x::B)):=by
   split at h
   ·exact h.2
   ·exact h
  have:=v0m (A:=A) (C:=C ++ [y]) (by simpa using a) b
  simpa using this
theorem N0r{rd:List Nat}{N m:Nat}{L:List (Nat×W5)}{st:St}{h:Hp}{K:St->Hp->Prop}{j:Nat}{o:Oper}{A B:List (Nat×Oper)}(b:∀ y∈A++B,i8 y.1 o=false)
  (a:S0i rd N P (m+1) (A++(j,o)::B) L st h K):u0p rd N P m (j,o) (A++B) L st h K:=by
 obtain⟨n,fr,bx,ow⟩:=st
 simp only[S0i]at a
 have:=v0m (C:=[]) (x:=(j,o)) (by simpa using b) a
 exact this
theorem v0p{a b:Nat}(h:a≠b):Nat.beq a b=false:=by
 cases e:Nat.beq a b
 ·rfl
 ·exact absurd (Nat.eq_of_beq_eq_true e) h
theorem P0h:∀(l:List (Nat×Oper)),Q0f l=l.length
 | []=>rfl
 |_::r=>by rw[Q0f,P0h r];rfl
theorem w0p{f:Nat×Oper}{rd:List Nat}{N:Nat}{K:St->Hp->Prop}{h:Hp}{st:St}{L:List (Nat×W5)}:∀ {p:Nat} {E:List (Nat×Oper)},D0r f rd N P p E L st h K->evC rd N P 0 (f::E) L st h K
 |0,_,h=>h
 |_+1,_,h=>h.1
theorem i0t{ops:Array Oper}{n:Nat}{fr:List (Nat×AV)}{bx:List BSt}{ow:List Own}{q:Hp}{c:Nat}{X E F:List (Nat×Oper)}{d:List (Nat×W5)}{K:St->Hp->Prop}{R:Act->World->Prop}{listed:Array Bool}
  (v:k05 P ⟨n,fr,bx,ow⟩ q ops.toList ops.toList.length d X E) (D:∀ x∈F,x∈E)
  (G:∀ a w st h be oe H,K st h->Sim P h0 w0 be oe H st h a w->R a w) (J:∀ j,j<ops.size->listed.getD j false=true)
  (I:Y0n P h0 w0 ops n fr bx ow q c F d K listed a w):R a w:=by
  obtain⟨dn,r,L,bx,O,A,be,oe,H,C,_,_,M,U,_,s,o,Q,y⟩:=I
  have N:r = []:=by
   cases r with
   |nil=>rfl
   |cons p Z =>
    have e:=M p mS
    have k:=(v.eff p (D _ (by rw[C];simp))).1
    grind
  subst N
  simp only[evC,Y01]at o
  refine G a w _ A be oe H o (s.refr (fr:=Q0i L fr) λt=>?_)
  rw[v0b]
  have key:∀ t,P3 L t≠none->∃(i:Nat) (b:Oper),ops[i]?=some b/\b.dst=some t/\i<ops.size:=λt Y=>by
   cases h0':P3 d t with
   |none=>grind
   |some f =>
    obtain⟨i,b,e,k,m⟩:=v.key t f h0'
    grind
  cases hL:P3 L t with
  |none =>
   have V:∀ u∈ops.toList,u.dst≠some t:=λu W T=>by
    grind[List.getElem_of_mem]
   have g:=s.fr t
   grind[I2,D3,A4,e01]
  |some f =>
   cases f with
   |ef F=>trivial
   |pu av =>
    obtain⟨i,b,e,k,m⟩:=key t (by rw[hL];simp)
    obtain⟨S,l,z⟩:=y i b t e k (J i m)
    rw[hL]at l;cases l
    exact I2.fr (st:=⟨n,fr,bx,O⟩) (fr:=A4 ops.toList fr) z
theorem l0j{ops:Array Oper}{st:St}{K:St->Hp->Prop}{Q:Exit->Act->World->Prop}{R:Act->World->Prop}(s:Sim P h0 w0 be oe H st h a w)(ar:r02 st.n ops.toList=true)
  (U:m03 P st h ops.toList 0 [] [] [] λL X E=>evD (H9 L st ops.toList) ops.size P X E L st h K)
  (a1:∀ a w st h be oe H,K st h->Sim P h0 w0 be oe H st h a w->R a w) :
  ∃ Inv:Array Bool->Act->World->Prop,(∀(k:Nat) (o:Oper),ops.toList[k]?=some o->∀ e∈o.after,Region.binds .any e=true->e.on<k) /\
   (∀ listed a w j o,listed.size=ops.size->listed.getD j true=false->ops[j]?=some o->(∀ e∈o.after,Region.binds .any e=true->listed.getD e.on false=true)->Inv listed a w->o.guard=none/\o.wp P a w (Inv (listed.setIfInBounds j true)) Q) /\
   (∀ listed a w,(∀ j,j<ops.size->listed.getD j false=true)->Inv listed a w->R a w)/\Inv (Array.replicate ops.size false) a w:=by
 simp only[r02,Bool.and_eq_true]at ar
 obtain⟨⟨bC,bD⟩,bE⟩:=ar
 obtain⟨ay,ai⟩:=G04 bC
 have aP:∀(k:Nat) (o:Oper),ops.toList[k]?=some o->∀ e∈o.after,Region.binds .any e=true->e.on<k:=λk o bc e a4 ar=>by
  have:=o03 bD k o bc e a4 ar
  omega
 have bl:=x06 bE
 obtain⟨V,X,E,aj,O⟩:=l05 (ops:=ops.toList) ai (λj o t i an v D G bH=>by
  obtain⟨e,a4,ar,rfl⟩:=bl o (List.mem_of_getElem? v) t D i an G bH
  exact aP j o v e a4 ar) ops.toList 0 [] [] [] (λj=>by simp) ⟨λt f h=>(by cases h),λi an d I=>by omega,λj o ca=>by omega,λp m=>(by cases m),by simp,λp m=>(by cases m)⟩ U
 obtain⟨n,fr,bx,ow⟩:=st
 have aq:∀(listed:Array Bool) (j:Nat) (o:Oper),ops[j]?=some o->(∀ e∈o.after,Region.binds .any e=true->listed.getD e.on false=true)->∀ t,Operand.tmp t∈o.op.operands->∀(i:Nat) (an:Oper),ops.toList[i]?=some an->an.dst=some t->listed.getD i false=true:=λlisted j o D G t bV i an bP aD=>by
  obtain⟨e,aw,ax,rfl⟩:=bl o (List.mem_of_getElem? (i:=j) (by simpa using D)) t bV i an bP aD
  exact G e aw ax
 have init:∀(c:Nat) (F:List (Nat×Oper)) (EV:List (Nat×Oper)->List (Nat×Oper)->List (Nat×W5)->St->Hp->Prop),(∀ x∈F,x∈E)->EV [] F V ⟨n,fr,bx,ow⟩ h->t0l P h0 w0 ops n fr bx ow h c F V EV (Array.replicate ops.size false) a w:=λc F EV bK ak=>by
  refine⟨[],F,V,bx,ow,h,be,oe,H,rfl,λ_=>⟨rfl,λ_ _ h=>h,.inl rfl⟩,λj o v D=>by(simp[Array.getElem?_replicate]at D;split at D<;>cases D),λp m=>?_,λp m=>(by cases m),.inl rfl,s.refr (fr:=A4 ops.toList fr) λt=>?_,ak,λt=>⟨id,λav=>id⟩,λj o d v D G=>?_⟩
  ·have:=(O.eff p (bK p m)).1
   have D:p.1<ops.size:=by simpa using this
   simp[D]
  ·by_cases b:∃ o∈ops.toList,o.dst=some t
   ·obtain⟨o,v,D⟩:=b
    rw[b02 v D]
    trivial
   ·rw[e01 λo bR aj=>b ⟨o,bR,aj⟩]
    exact s.fr t
  ·simp[Array.getElem?_replicate]at G
   split at G<;>cases G
 rcases aj with⟨c,⟨aR,bM⟩,ak⟩|⟨k,p,aj⟩
 ·refine⟨Y0n P h0 w0 ops n fr bx ow h c E V K,aP,(λlisted a w j o ab v D G I=>Q0t ai ay O aR bM v D ab (aq listed j o D G) G I),(λlisted a w al I=>i0t O (λx b=>b) a1 al I),init c E _ (λx b=>b) ak⟩
 ·split at aj
  ·rename_i f b8 bc
   obtain⟨⟨a2,aR,bO⟩,ak⟩:=aj
   obtain rfl:=j0j a2
   obtain⟨A,B,rfl,rfl⟩:=M0d bc
   obtain⟨q,az,bS⟩:=o0g bO
   have bN:f∈A++f::B:=by simp
   have bm:=O.eff f bN
   have ba:ops[f.1]?=some f.2:=by simpa using bm.2.1
   have bp:f.1<ops.size:=by simpa using bm.1
   have bg:∀ x∈A++B,x∈A++f::B:=λx b=>by
    rcases List.mem_append.1 b with b|b
    ·exact List.mem_append_left _ b
    ·exact List.mem_append_right _ (mC _ b)
   have bW:((A++B).map λp=>p.1).Nodup:=by
    have:=O.nd
    rw[List.map_append,List.nodup_append]at this ⊢
    obtain⟨bv,bh,bi⟩:=this
    rw[List.map_cons,List.nodup_cons]at bh
    exact⟨bv,bh.2,λx b y am=>bi x b y (by rw[List.map_cons];exact mC _ am)⟩
   have perm:∀ J M,A++B=J++M->((J++f::M).map λp=>p.1).Nodup:=λJ M e=>by
    have v:(A++f::B).Perm (J++f::M):=List.perm_middle.trans ((List.Perm.cons f (by rw[e])).trans List.perm_middle.symm)
    exact(v.map _).nodup O.nd
   have aG:∀ J M,A++B=J++M->∀ x,x∈J++f::M↔x∈A++f::B:=λJ M e x=>by
    have v:x∈A++B↔x∈J++M:=by rw[e]
    simp only[List.mem_append,List.mem_cons]at v ⊢
    constructor
    ·rintro(h|h|h)
     ·rcases v.2 (.inl h)with h|h
      ·exact .inl h
      ·exact .inr (.inr h)
     ·exact .inr (.inl h)
     ·rcases v.2 (.inr h)with h|h
      ·exact .inl h
      ·exact .inr (.inr h)
    ·rintro(h|h|h)
     ·rcases v.1 (.inl h)with h|h
      ·exact .inl h
      ·exact .inr (.inr h)
     ·exact .inr (.inl h)
     ·rcases v.1 (.inr h)with h|h
      ·exact .inl h
      ·exact .inr (.inr h)
   let rd:=H9 V ⟨n,fr,bx,ow⟩ ops.toList
   let ac:List (Nat×Oper)->List (Nat×Oper)->List (Nat×W5)->St->Hp->Prop:=λdn r L st h=>D0r f rd ops.size P (p-dn.length) r L st h K
   refine⟨λlisted a w=>(listed.getD f.1 true=false/\t0l P h0 w0 ops n fr bx ow h 0 (A++B) V ac listed a w) ∨
    (listed.getD f.1 false=true/\∃ J M,A++B=J++M/\(∀ p∈J,listed.getD p.1 false=true)/\Y0n P h0 w0 ops n fr bx ow h 0 (J++f::M) V K listed a w),aP,(λlisted a w j o ab v D G I=>?_),(λlisted a w al I=>?_),.inl ⟨by simp[bp],init 0 (A++B) ac bg ak⟩⟩
   ·have bb:j<listed.size:=by rw[ab];exact(Array.getElem?_eq_some_iff.1 D).1
    have bf:∀ {x:Nat},listed.getD x false=true->(listed.setIfInBounds j true).getD x false=true:=λh=>getD_set_true h
    rcases I with⟨hf,I⟩|⟨hf,J,M,u,a3,I⟩
    ·have bn:=b04 hf
     by_cases aT:j=f.1
     ·
      subst aT
      rw[ba]at D;cases D
      obtain⟨dn,r,L,ap,aA,aC,be',oe',aB,u,aH,ao,ag,aa,aJ,aK,ah,aL,aM⟩:=I
      have aD:Y0n P h0 w0 ops n fr bx ow h 0 (dn++f::r) V K listed a w :=
       ⟨dn,f::r,L,ap,aA,aC,be',oe',aB,rfl,aH,ao,λp m=>by
        rcases List.mem_cons.1 m with rfl|m
        ·exact hf
        ·exact ag p m,aa,aJ,aK,by show evC _ _ _ (0-dn.length) _ _ _ _ _;rw[Nat.zero_sub];exact w0p ah,aL,aM⟩
      have:=n0g (F:=dn++f::r) (j:=f.1) (o:=f.2) (Q:=Q) ai ay O (λx b=>(aG dn r u x).1 b) (λb=>(aG dn r u _).2 b) (perm dn r u) (λN Z e T S ad=>by
       obtain⟨C,Y,W⟩:=V05 (listed:=listed) e aa S
       cases C with
       |nil=>exact⟨r,by simpa using W.symm⟩
       |cons z C =>
        exfalso
        simp only[List.cons_append,List.cons.injEq]at W
        have:=T f (by rw[Y,W.1];simp)
        rw[bn]at this;cases this) (λdn Z L bx ow h u au U=>k0j U) (U05 _) v ba ab (aq listed f.1 f.2 ba G) G aD
      exact⟨this.1,Oper.wp_mono (λaN aV b => .inr ⟨by simp[bb],dn,r,u,λp m=>bf (aa p m),b⟩) this.2⟩
     ·have bQ:(j,o)≠f:=λe=>aT (by rw[←e])
      have bL:∀(j:Nat) (o:Oper),ops[j]?=some o->listed.getD j false=true->∀ e∈o.after,Region.binds .any e=true->listed.getD e.on false=true:=by
       obtain⟨_,_,_,_,_,_,_,_,_,_,_,ao,_⟩:=I
       exact ao
      have:=n0g (F:=A++B) (Q:=Q) (EV:=ac) ai ay O bg (λb=>by
       rcases List.mem_append.1 b with b|b
       ·exact List.mem_append_left _ b
       ·rcases List.mem_cons.1 b with b|b
        ·exact absurd b bQ
        ·exact List.mem_append_right _ b) bW (λdn r u au bu aE=>w0b G (λdn r u=>S02 dn r (by rw[←u];exact aR)) u bu aE) (λdn Z L aO aU h u au U=>by
       have cb:dn.length<p:=by
        rcases Nat.lt_or_ge dn.length p with g|g
        ·exact g
        ·exfalso
         have bo:listed.getD f.1 false=true:=by
          rw[u]at az
          obtain⟨e,aw,ax,aS⟩:=J7 bS
          rcases Nat.lt_or_ge p dn.length with S|S
          ·rw[List.getElem?_append_left S]at az
           have bt:q∈dn:=List.mem_of_getElem? az
           have:=(O.eff q (bg q (by rw[u];exact List.mem_append_left _ bt))).2.1
           have:=bL q.1 q.2 (by simpa using this) (au q bt) e aw ax
           rwa [aS]at this
          ·have Y:p=dn.length:=by omega
           rw[Y,List.getElem?_append_right (Nat.le_refl _)]at az
           simp at az
           subst az
           have:=G e aw ax
           rwa [aS]at this
         rw[bn]at bo;cases bo
       obtain⟨bj,br⟩:∃ bj,p-dn.length=bj+1:=⟨p-dn.length-1,by omega⟩
       have Y:p-(dn ++ [(j,o)]).length=bj:=by simp;omega
       simp only[ac,br,Y,Nat.zero_sub]at U ⊢
       exact U.2) (U05 _) v D ab (aq listed j o D G) G I
      exact⟨this.1,Oper.wp_mono (λaN aV b => .inl ⟨by rw[getD_set_ne true aT];exact hf,b⟩) this.2⟩
    ·have aT:j≠f.1:=λe=>by
      subst e
      have:=b04 v
      rw[hf]at this;cases this
     have:=n0g (F:=J++f::M) (Q:=Q) ai ay O (λx b=>(aG J M u x).1 b) (λb=>(aG J M u _).2 b) (perm J M u) (λN Z e T S ad=>by
      obtain⟨C,Y,W⟩:=V05 (listed:=listed) (A:=J ++ [f]) (B:=M) (by simpa using e) (λp m=>by
       rcases List.mem_append.1 m with m|m
       ·exact a3 p m
       ·simp at m;rw[m];exact hf) S
      exact w0b (E:=Z) (dn:=[]) G (λdn bZ af=>S02 dn bZ (by rw[←af];exact S02 (J++C) Z (by rw[List.append_assoc,←W,←u];exact aR))) rfl S ad) (λdn Z L bx ow h u au U=>k0j U) (U05 _) v D ab (aq listed j o D G) G I
     exact⟨this.1,Oper.wp_mono (λaN aV b => .inr ⟨bf hf,J,M,u,λp m=>bf (a3 p m),b⟩) this.2⟩
   ·rcases I with⟨hf,I⟩|⟨hf,J,M,u,a3,I⟩
    ·have:=al f.1 bp
     rw[b04 hf]at this;cases this
    ·exact i0t O (λx b=>(aG J M u x).1 b) a1 al I
  ·obtain⟨a2,ak⟩:=aj
   obtain rfl:=j0j a2
   let ac:List (Nat×Oper)->List (Nat×Oper)->List (Nat×W5)->St->Hp->Prop:=λ_ r L st h=>S0i (H9 V ⟨n,fr,bx,ow⟩ ops.toList) ops.size P (Q0f r) r L st h K
   refine⟨λlisted a w=>∃ F,(∀ x,x∈F↔x∈E)/\(F.map λp=>p.1).Nodup/\t0l P h0 w0 ops n fr bx ow h 0 F V ac listed a w,aP,(λlisted a w j o ab v D G I=>?_),(λlisted a w al I=>?_),E,λx=>Iff.rfl,O.nd,init 0 E ac (λx b=>b) ak⟩
   ·obtain⟨F,ae,aQ,I⟩:=I
    by_cases hjE:(j,o)∈E
    ·obtain⟨dn,r,L,ap,aA,aC,be',oe',aB,u,aH,ao,ag,aa,aJ,aK,ah,aL,aM⟩:=I
     have bb:j<listed.size:=by rw[ab];exact(Array.getElem?_eq_some_iff.1 D).1
     have aE:(j,o)∈r:=by
      have:=(ae (j,o)).2 hjE
      rw[u]at this
      rcases List.mem_append.1 this with b|b
      ·have T:=aa _ b
       have S:=b04 v
       rw[S]at T;cases T
      ·exact b
     obtain⟨A,B,rfl⟩:=List.append_of_mem aE
     have bs:(dn++(j,o)::(A++B)).Perm F:=by
      rw[u]
      exact List.Perm.append_left dn List.perm_middle.symm
     have aZ:∀ x,x∈dn++(j,o)::(A++B)↔x∈E:=λx=>(bs.mem_iff).trans (ae x)
     have a0:((dn++(j,o)::(A++B)).map λp=>p.1).Nodup:=(bs.map _).nodup_iff.2 aQ
     have bT:∀ y∈A++B,i8 y.1 o=false:=λy am=>by
      cases hc:i8 y.1 o with
      |false=>rfl
      |true =>
       obtain⟨e,aw,ax,aS⟩:=J7 hc
       have T:=G e aw ax
       have S:=b04 (ag y (by
        rcases List.mem_append.1 am with am|am
        ·exact List.mem_append_left _ am
        ·exact List.mem_append_right _ (mC _ am)))
       rw[aS,S]at T;cases T
     let aX:List (Nat×Oper)->List (Nat×Oper)->List (Nat×W5)->St->Hp->Prop:=λd r L st h=>match Nat.beq d.length dn.length with
      |true=>u0p (H9 V ⟨n,fr,bx,ow⟩ ops.toList) ops.size P (Q0f (A++B)) (j,o) (A++B) L st h K
      |false=>ac d r L st h
     have aD:t0l P h0 w0 ops n fr bx ow h 0 (dn++(j,o)::(A++B)) V aX listed a w :=
      ⟨dn,(j,o)::(A++B),L,ap,aA,aC,be',oe',aB,rfl,aH,ao,λp m=>ag p (by
       rcases List.mem_cons.1 m with rfl|m
       ·simp
       ·rcases List.mem_append.1 m with m|m
        ·exact List.mem_append_left _ m
        ·exact List.mem_append_right _ (mC _ m)),aa,aJ,aK,by
       show(match Nat.beq dn.length dn.length with|true=>_|false=>_:Prop)
       rw[Nat.beq_refl]
       refine N0r (st:=⟨n,fr,ap,aA⟩) bT ?_
       have e:Q0f (A++(j,o)::B)=Q0f (A++B)+1:=by rw[P0h,P0h];simp;omega
       have ah:S0i _ _ _ (Q0f (A++(j,o)::B)) _ _ _ _ _:=ah
       rw[e]at ah
       exact ah,aL,aM⟩
     have:=n0g (F:=dn++(j,o)::(A++B)) (EV:=aX) (Q:=Q) ai ay O (λx b=>(aZ x).1 b) (λb=>(aZ _).2 b) a0 (λN Z e T S ad=>by
      obtain⟨C,Y,W⟩:=V05 (listed:=listed) e aa S
      cases C with
      |nil=>exact⟨A++B,by simpa using W.symm⟩
      |cons z C =>
       exfalso
       simp only[List.cons_append,List.cons.injEq]at W
       have:=T (j,o) (by rw[Y,W.1];simp)
       rw[b04 v]at this;cases this) (λN Z L aO aU h e T U=>by
      obtain⟨C,Y,W⟩:=V05 (listed:=listed) (A:=dn) (B:=(j,o)::(A++B)) e aa (λp m=>by
       have b:p∈dn++(j,o)::(A++B):=by rw[e];exact List.mem_append_right _ m
       rcases List.mem_cons.1 m with rfl|br
       ·exact v
       ·rcases List.mem_append.1 b with b|b
        ·exfalso
         have bq:=a0
         rw[e,List.map_append,List.nodup_append]at bq
         obtain⟨bv,bh,bi⟩:=bq
         have aF:dn.length<=N.length∨N.length<dn.length:=Nat.lt_or_ge N.length dn.length |>.symm
         rcases aF with aF|aF
         ·have:p∈N:=by
           have af:dn=N.take dn.length:=by
            have:=congrArg (List.take dn.length) e
            rw[List.take_append_of_le_length (Nat.le_refl _),List.take_length,List.take_append_of_le_length aF]at this
            exact this
           rw[af]at b;exact List.mem_of_mem_take b
          exact bi p.1 (List.mem_map.2 ⟨p,this,rfl⟩) p.1 (List.mem_map.2 ⟨p,m,rfl⟩) rfl
         ·have:(j,o)∈dn:=by
           have af:=congrArg (λl=>l[N.length]?) e
           simp only[List.getElem?_append_left aF,List.getElem?_append_right (Nat.le_refl _),Nat.sub_self,List.getElem?_cons_zero]at af
           exact List.mem_of_getElem? af
          have ad:=aa _ this
          rw[b04 v]at ad;cases ad
        ·exact ag p (by
          rcases List.mem_cons.1 b with rfl|b
          ·simp
          ·rcases List.mem_append.1 b with b|b
           ·exact List.mem_append_left _ b
           ·exact List.mem_append_right _ (mC _ b)))
      have bI:C = []:=by
       cases C with
       |nil=>rfl
       |cons z C =>
        exfalso
        simp only[List.cons_append,List.cons.injEq]at W
        have:=T (j,o) (by rw[Y,W.1];simp)
        rw[b04 v]at this;cases this
      subst bI
      simp only[List.append_nil]at Y
      subst Y
      have af:Z=A++B:=by simpa using W.symm
      subst af
      have U:(match Nat.beq N.length N.length with|true=>_|false=>_:Prop):=U
      rw[Nat.beq_refl]at U
      have bd:Nat.beq (N ++ [(j,o)]).length N.length=false:=by
       rw[List.length_append,List.length_singleton]
       exact v0p (by omega)
      have bJ:aX (N ++ [(j,o)]) (A++B)=λL st h=>S0i (H9 V ⟨n,fr,bx,ow⟩ ops.toList) ops.size P (Q0f (A++B)) (A++B) L st h K:=by
       funext L st h
       show(match Nat.beq (N ++ [(j,o)]).length N.length with|true=>_|false=>_:Prop)=_
       rw[bd]
      rw[bJ]
      simp only[Nat.zero_sub]
      exact U) (U05 _) v D ab (aq listed j o D G) G aD
     refine⟨this.1,Oper.wp_mono (λaN aV b=>?_) this.2⟩
     obtain⟨aY,b0,bB,aO,aU,bG,bF,bX,bA,bk,b1,b2,bz,b3,b4,b5,aW,b6,b7⟩:=b
     refine⟨dn++(j,o)::(A++B),aZ,a0,aY,b0,bB,aO,aU,bG,bF,bX,bA,bk,b1,b2,bz,b3,b4,b5,?_,b6,b7⟩
     have bd:Nat.beq aY.length dn.length=false:=by
      refine v0p λe=>?_
      obtain⟨cc,bY⟩:=List.append_inj bk e.symm
      have:=bz (j,o) (by rw[←bY];simp)
      simp[bb]at this
     have aW:(match Nat.beq aY.length dn.length with|true=>_|false=>_:Prop):=aW
     rw[bd]at aW
     exact aW
    ·have:=n0g (F:=F) (EV:=ac) (Q:=Q) ai ay O (λx b=>(ae x).1 b) (λb=>absurd b hjE) aQ (λdn r u au bu aE=>absurd ((ae _).1 (by rw[u];exact List.mem_append_right _ aE)) hjE)
      (λdn Z L aO aU h u au U=>absurd ((ae (j,o)).1 (by rw[u];simp)) hjE) (U05 _) v D ab (aq listed j o D G) G I
     exact⟨this.1,Oper.wp_mono (λaN aV b=>⟨F,ae,aQ,b⟩) this.2⟩
   ·obtain⟨F,ae,aQ,dn,r,L,ap,aA,aC,be',oe',aB,u,aH,ao,ag,aa,aJ,aK,ah,aL,aM⟩:=I
    have bU:r = []:=by
     cases r with
     |nil=>rfl
     |cons p Z =>
      have T:=ag p mS
      have S:=(O.eff p ((ae _).1 (by rw[u];simp))).1
      have ad:=al p.1 (by simpa using S)
      rw[b04 T]at ad;cases ad
    subst bU
    exact i0t (c:=0) (F:=F) O (λx b=>(ae x).1 b) a1 al ⟨dn,[],L,ap,aA,aC,be',oe',aB,u,aH,ao,ag,aa,aJ,aK,ah,aL,aM⟩
theorem Z0n{ops:Array Oper}{st:St}{K:St->Hp->Prop}{Q:Exit->Act->World->Prop}(s:Sim P h0 w0 be oe H st h a w)(g:r02 st.n ops.toList=true)
  (i:m03 P st h ops.toList 0 [] [] [] λL X E=>evD (H9 L st ops.toList) ops.size P X E L st h K)
  (f:∀ a w st h be oe H,K st h->Sim P h0 w0 be oe H st h a w->Q .normal a w):wpAny P .any ops Q ops.size (Array.replicate ops.size false) a w:=by
 obtain⟨Inv,b,c,d,e⟩:=l0j (Q:=Q) (R:=λa w=>Q .normal a w) s g i f
 exact h0t (Inv:=Inv) b c d ops.size _ a w (by simp) (by simp[List.count_replicate]) e
theorem j0a{L l:Array Bool}{x:Bool}(h:L.toList=l.toList ++ [x]){j:Nat}(a:j<l.size)(b:Bool):L.getD j b=l.getD j b:=by
 rw[Array.getD_eq_getD_getElem?,Array.getD_eq_getD_getElem?,←Array.getElem?_toList,←Array.getElem?_toList,h,List.getElem?_append_left (by simpa using a)]
theorem a0o{L l:Array Bool}{x:Bool}(h:L.toList=l.toList ++ [x])(b:Bool):L.getD l.size b=x:=by
 rw[Array.getD_eq_getD_getElem?,←Array.getElem?_toList,h,List.getElem?_append_right (by simp)];simp
theorem R0t{ops ops0:Array Oper}{o:Oper}{Q:Exit->Act->World->Prop}{Inv:Array Bool->Act->World->Prop}{a:Act}{w:World}(t:ops.toList=ops0.toList ++ [o])
  (q:∀(k:Nat) (o:Oper),ops.toList[k]?=some o->∀ e∈o.after,Region.binds .any e=true->e.on<k)
  (C:o.guard=none) (H:∀ k,k<ops0.size->∃ e∈o.after,Region.binds .any e=true/\e.on=k)
  (J:∀ listed a w j o,listed.size=ops0.size->listed.getD j true=false->ops0[j]?=some o->(∀ e∈o.after,Region.binds .any e=true->listed.getD e.on false=true)->Inv listed a w->o.guard=none/\o.wp P a w (Inv (listed.setIfInBounds j true)) Q)
  (A:∀ listed a w,(∀ j,j<ops0.size->listed.getD j false=true)->Inv listed a w->o.wp P a w (λa w=>Q .normal a w) Q)
  (h0:Inv (Array.replicate ops0.size false) a w):wpAny P .any ops Q ops.size (Array.replicate ops.size false) a w:=by
 have N:ops.size=ops0.size+1:=by
  have:=congrArg List.length t
  simpa using this
 refine h0t (Inv:=λL a w=>(∃ l:Array Bool,l.size=ops0.size/\L.toList=l.toList ++ [false]/\Inv l a w)∨((∀ j,j<ops.size->L.getD j false=true)/\Q .normal a w)) q (λL a w j m K y b p d=>?_) (λL a w f d=>?_) ops.size _ a w (by simp) (by simp[List.count_replicate]) (.inl ⟨_,by simp,by grind,h0⟩)
 ·rcases d with⟨l,g,c,d⟩|⟨f,_⟩
  ·have F:j<ops.size:=(Array.getElem?_eq_some_iff.1 b).1
   by_cases hj:j<ops0.size
   ·have z:ops0[j]?=some m:=by
     rw[←Array.getElem?_toList]at b ⊢
     grind
    obtain⟨v,x⟩:=J l a w j m g (by rw[←j0a c (by omega)];exact y) z (λe i h=>by
     have:=q j m (by rw[Array.getElem?_toList];exact b) e i h
     rw[←j0a c (by omega)];exact p e i h) d
    refine⟨v,Oper.wp_mono (λu M D => .inl ⟨_,by simpa using g,?_,D⟩) x⟩
    rw[Array.toList_setIfInBounds,c,List.set_append_left _ _ (by simpa [g] using hj),Array.toList_setIfInBounds]
   ·have E:j=ops0.size:=by omega
    have I:m=o:=by
     rw[←Array.getElem?_toList,t,List.getElem?_append_right (by simp;omega)]at b
     rw[E]at b;simp at b;exact b.symm
    subst I
    have f:∀ k,k<ops0.size->l.getD k false=true:=λk s=>by
     obtain⟨e,i,h,rfl⟩:=H k s
     rw[←j0a c (by omega)];exact p e i h
    refine⟨C,Oper.wp_mono (λu M n => .inr ⟨λk s=>?_,n⟩) (A l a w f d)⟩
    by_cases hkj:k=j
    ·rw[hkj];simp[Array.getD_eq_getD_getElem?,K,F]
    ·have G:k<ops0.size:=by omega
     have:=f k G
     rw[←j0a c (by omega)]at this
     rw[Array.getD_eq_getD_getElem?,Array.getElem?_setIfInBounds_ne (by omega),←Array.getD_eq_getD_getElem?];exact this
  grind
 ·rcases d with⟨l,g,c,d⟩|⟨_,n⟩
  ·have:=f ops0.size (by omega)
   rw[←g,a0o c]at this;cases this
  ·exact n
theorem A0c{o:Oper}:∀(ops:List Oper),w0d ops=some o->ops=c01 ops ++ [o]
 | [],h=>by simp[w0d]at h
 | [x],h=>by grind[w0d,Option.some.injEq,c01]
 |x::y::r,h=>by
  simp only[w0d]at h
  have:=A0c (y::r) (by simp only[w0d];exact h)
  rw[show c01 (x::y::r)=x::c01 (y::r) by simp only[c01],List.cons_append,←this]
theorem b0o{ops:List Oper}{o:Oper}(h:f0p ops=some o):ops=c01 ops ++ [o]/\o.guard=none/\v04 (c01 ops).length (c01 ops).length o=true:=by
 unfold f0p at h
 split at h
 ·rename_i f e
  split at h
  ·rename_i d c b
   split at h
   ·rename_i a
    cases h
    simp only[Bool.and_eq_true]at a
    grind[A0c]
   ·cases h
  ·cases h
 ·cases h
end
end Go.H
namespace Go.H
set_option linter.unusedVariables false
set_option linter.unusedSimpArgs false
theorem g04:∀ {L:FL} {t:Nat} {x:List (Nat×Bool)×W5},f03 L t=some x->(t,x)∈L
 | [],t,x,h=>by cases h
 |(d,y)::r,t,x,h=>by
  simp only[f03]at h
  split at h
  ·simp_all
  ·exact mC _ (g04 h)
theorem m09:∀ {L:FL} {t:Nat} {x:List (Nat×Bool)×W5},(t,x)∈L->∃ y,f03 L t=some y
 |(d,y)::r,t,x,h=>by
  simp only[f03]
  split
  ·exact⟨_,rfl⟩
  ·rename_i a
   rcases List.mem_cons.1 h with e|h
   ·simp_all
   ·exact m09 h
theorem c0o{bs:List BE}{x:BE}(e:∀ y∈bs,y.j≠x.j){j:Nat}{b:BE}(h:B02 bs j=some b):B02 (x::bs) j=some b:=by
 simp only[B02]
 split
 ·rename_i d
  obtain⟨a,c⟩:=n03 h
  simp_all
 ·exact h
abbrev Asg:=Nat->List (Nat×Bool)×Bool×W5
structure U0f (ops:List Oper) (A:Asg) (L:FL) (bs:List BE) (k:Nat):Prop where
 p1:∀ t x,(t,x)∈L->∃ i oi,i<k/\ops[i]?=some oi/\oi.dst=some t/\(A i).1=x.1/\(A i).2.2=x.2
 p2:∀ i oi d,i<k->ops[i]?=some oi->oi.dst=some d->∃ x,f03 L d=some x
 p3:∀ i,i<k->i<ops.length->cB bs (A i).1=some (A i).2.1
 p4:∀ x∈bs,x.j<k/\(∃ o,ops[x.j]?=some o/\o.dst=some x.d)/\(A x.j).1=x.ch/\(A x.j).2.2 = .pu (.val (.bool x.e))
structure G08 (bs bs':List BE):Prop where
 c:∀ ch c,cB bs ch=some c->cB bs' ch=some c
 e:∀ j b,B02 bs j=some b->B02 bs' j=some b
theorem G08.refl(bs:List BE):G08 bs bs:=⟨λ_ _ h=>h,λ_ _ h=>h⟩
theorem G08.trans{a b c:List BE}(d:G08 a b)(f:G08 b c):G08 a c:=⟨λch x h=>f.c ch x (d.c ch x h),λj b h=>f.e j b (d.e j b h)⟩
def OpU(P:Program)(st:St)(h:Hp)(L:FL)(bs:List BE)(o:Oper)(ch:List (Nat×Bool))(c:Bool):W5->Prop
 | .pu av=>M08 P L bs ch o st=some av∨∀ a,Sub h a->imp ch c (V06 L st a ch o.op.operands.toList [] λfr=>c8 P o { st with fr:=fr } a (m0m av { st with fr:=fr } a))
 | .ef F=>(∀ v b d,Sub b d->F v b->F v d)/\∀ a,Sub h a->imp ch c (V06 L st a ch o.op.operands.toList [] λfr=>T0i P o { st with fr:=fr } a (g0p { st with fr:=fr } a F))
theorem x0p{d:Option Tmp}{ch:List (Nat×Bool)}{f:W5}{L:FL}{p:Nat×List (Nat×Bool)×W5}(h:p∈x0d d ch f L):(∃ s,d=some s/\p=(s,ch,f))∨p∈L:=by
 cases d with
 |none=>exact .inr h
 |some s =>
  rcases List.mem_cons.1 h with h|h
  all_goals grind
theorem y0p{i:Nat}{d:Option Tmp}{ch:List (Nat×Bool)}{av:AV}{bs:List BE}{x:BE}(h:x∈C0h i d ch av bs):(∃ s e,d=some s/\av = .val (.bool e)/\x=⟨i,s,e,ch⟩)∨x∈bs:=by
 unfold C0h at h
 grind
theorem z0p{i:Nat}{d:Option Tmp}{ch:List (Nat×Bool)}{av:AV}{bs:List BE}(f:∀ y∈bs,y.j<i):G08 bs (C0h i d ch av bs):=by
 unfold C0h
 split
 ·split
  ·refine⟨λe c h=>s0l (λy a=>?_) h,λj b h=>c0o (λy a=>?_) h⟩<;>(grind)
  ·exact G08.refl _
 ·exact G08.refl _
theorem O0r(P:Program)(i:Nat)(L:FL)(bs:List BE)(st:St)(h:Hp)(K:St->Hp->Prop):evU P [] i L bs st h K=∀ a,Sub h a->M0c a L st.fr λfr=>K { st with fr:=fr } a:=by
 obtain⟨n,fr,bx,ow⟩:=st;rfl
theorem A0p(P:Program)(o:Oper)(l:List Oper)(i:Nat)(L:FL)(bs:List BE)(st:St)(h:Hp)(K:St->Hp->Prop)(b:evU P (o::l) i L bs st h K):
    ∃ ch c f,p00 bs o.guard=some ch/\cB bs ch=some c/\(OpU P st h L bs o ch c f/\∀ av,M08 P L bs ch o st=some av->f = .pu av)/\∃ k,k=(match f with
      | .pu av=>C0h i o.dst ch av bs
      | .ef _=>bs)/\evU P l (i+1) (x0d o.dst ch f L) k st h K:=by
  obtain⟨n,fr,bx,ow⟩:=st
  change (match p00 bs o.guard with
        |some ch=>match cB bs ch with
          |some c=>match M08 P L bs ch o ⟨n,fr,bx,ow⟩with
            |some av=>d01 av λav=>evU P l (i+1) (x0d o.dst ch (.pu av) L) (C0h i o.dst ch av bs) ⟨n,fr,bx,ow⟩ h K
            |none=>(∃ av,(∀ a,Sub h a->imp ch c (V06 L ⟨n,fr,bx,ow⟩ a ch o.op.operands.toList [] λfr=>c8 P o ⟨n,fr,bx,ow⟩ a (m0m av ⟨n,fr,bx,ow⟩ a))) /\
                  d01 av λav=>evU P l (i+1) (x0d o.dst ch (.pu av) L) (C0h i o.dst ch av bs) ⟨n,fr,bx,ow⟩ h K) ∨
                (∃ F:Value->Hp->Prop,(∀ v e d,Sub e d->F v e->F v d) /\
                  (∀ a,Sub h a->imp ch c (V06 L ⟨n,fr,bx,ow⟩ a ch o.op.operands.toList [] λfr=>T0i P o ⟨n,fr,bx,ow⟩ a (g0p ⟨n,fr,bx,ow⟩ a F))) /\
                  evU P l (i+1) (x0d o.dst ch (.ef F) L) bs ⟨n,fr,bx,ow⟩ h K)
          |none=>False
        |none=>False)at b
  split at b
  · rename_i ch j
    split at b
    · rename_i c g
      split at b
      · rename_i av q
        rw[C02]at b
        exact⟨ch,c,.pu av,j,g,⟨.inl q,λs a=>by grind⟩,_,rfl,b⟩
      · rename_i t
        have m:∀(f:W5) av,M08 P L bs ch o ⟨n,fr,bx,ow⟩=some av->f = .pu av:=λf av a=>by grind
        rcases b with⟨av,e,d⟩|⟨F,e,d,p⟩
        · rw[C02]at d
          exact⟨ch,c,.pu av,j,g,⟨.inr e,m _⟩,_,rfl,d⟩
        · exact⟨ch,c,.ef F,j,g,⟨⟨e,d⟩,m _⟩,_,rfl,p⟩
    · exact b.elim
  · exact b.elim
theorem N0d{P:Program}{ops:List Oper}{st:St}{h:Hp}{K:St->Hp->Prop}(ao:∀(i j:Nat) (n S:Oper) (d:Nat),ops[i]?=some n->ops[j]?=some S->n.dst=some d->S.dst=some d->i=j):
  ∀(l:List Oper) (k:Nat) (L:FL) (bs:List BE) (q:Asg),(∀ j,l[j]?=ops[k+j]?)->k+l.length=ops.length->U0f ops q L bs k->evU P l k L bs st h K ->
   ∃(A:Asg) (N:FL) (z:List BE),(∀ i,i<k->A i=q i)/\G08 bs z/\U0f ops A N z ops.length /\
    (∀ j o,k<=j->ops[j]?=some o->∃ T E,p00 z o.guard=some (A j).1/\U0f ops A T E j/\G08 E z/\cB E (A j).1=some (A j).2.1/\(OpU P st h T E o (A j).1 (A j).2.1 (A j).2.2/\∀ av,M08 P T E (A j).1 o st=some av->(A j).2.2 = .pu av)) /\
    (∀ X,Sub h X->M0c X N st.fr λfr=>K { st with fr:=fr } X)
 | [],k,L,bs,q,Y,ag,g,af=>by
  have ah:k=ops.length:=by simpa using ag
  grind[G08.refl,O0r,List.getElem?_eq_some_iff]
 |o::l,k,L,bs,q,Y,ag,g,af=>by
  have aa:ops[k]?=some o:=by simpa using (Y 0).symm
  have aw:∀ j,l[j]?=ops[k+1+j]?:=λj=>by have:=Y (j+1);grind
  have ah:k+1+l.length=ops.length:=by grind
  obtain⟨ch,c,f,v,ae,ax,W,ar,au⟩:=A0p P o l k L bs st h K af
  let D:Asg:=λi=>if i=k then(ch,c,f)else q i
  have O:D k=(ch,c,f):=by simp[D]
  have ac:∀ i,i<k->D i=q i:=λi m=>by grind
  have aA:∀ y∈bs,y.j<k:=λy az=>(g.p4 y az).1
  have M:G08 bs W:=by
   grind[z0p,G08.refl]
  have ay:U0f ops D (x0d o.dst ch f L) W (k+1):=by
   refine⟨λt x a=>?_,λi n d m J R=>?_,λi m Z=>?_,λx a=>?_⟩
   ·rcases x0p a with⟨s,aj,e⟩|a
    ·grind
    ·obtain⟨i,n,u,G,H,I,an⟩:=g.p1 t x a
     grind
   ·rcases Nat.lt_or_ge i k with C|C
    ·obtain⟨x,a⟩:=g.p2 i n d C J R
     cases hd:o.dst with
     |none=>exact⟨x,a⟩
     |some s=>exact m09 (x:=x) (mC _ (g04 a))
    ·have:i=k:=by omega
     subst this
     rw[aa]at J;cases J
     rw[R]
     exact m09 mS
   ·rcases Nat.lt_or_ge i k with C|C
    ·rw[ac i C];exact M.c _ _ (g.p3 i C Z)
    ·have:i=k:=by omega
     subst this
     rw[O];exact M.c _ _ ae
   ·subst ar
    cases f with
    |ef F =>
     obtain⟨u,G,H,I⟩:=g.p4 x a
     grind
    |pu av =>
     rcases y0p a with⟨s,e,aj,ap,rfl⟩|a
     ·refine⟨nS _,⟨o,aa,aj⟩,by rw[O],?_⟩
      rw[O,ap]
     ·obtain⟨u,G,H,I⟩:=g.p4 x a
      grind
  obtain⟨A,N,z,ad,U,ak,al,am⟩:=N0d ao l (k+1) _ W D aw ah ay au
  have V:A k=(ch,c,f):=by rw[ad k (nS _),O]
  have Q:∀ i,i<k->A i=q i:=λi m=>by rw[ad i (Nat.lt_succ_of_lt m),ac i m]
  refine⟨A,N,z,Q,M.trans U,ak,λj S aB ab=>?_,am⟩
  rcases Nat.lt_or_ge k j with ai|ai
  ·exact al j S ai ab
  ·have:j=k:=by omega
   subst this
   rw[aa]at ab;cases ab
   refine⟨L,bs,?_,⟨λt x a=>?_,λi n d m J R=>g.p2 i n d m J R,λi m Z=>?_,λx a=>?_⟩,M.trans U,by rw[V];exact ae,by rw[V];exact ax⟩
   ·rw[V]
    cases hg:o.guard with
    |none=>rw[hg]at v;exact v
    |some p =>
     obtain⟨aC,w⟩:=p
     rw[hg]at v
     simp only[p00]at v ⊢
     split at v
     ·rename_i b aq
      rw[(M.trans U).e _ _ aq]
      exact v
     ·cases v
   ·obtain⟨i,n,u,G,H,I,an⟩:=g.p1 t x a
    grind
   ·rw[Q i m];exact g.p3 i m Z
   ·obtain⟨u,G,H,I⟩:=g.p4 x a
    exact⟨u,G,by rw[Q _ u];exact H,by rw[Q _ u];exact I⟩
section
variable {P:Program} {h0:Hp} {w0:World} {be:Nat->Nat} {oe:Nat->Value} {H:Hp} {st:St} {h:Hp} {a:Act} {w:World} {o:Oper} {K:AV->St->Hp->Prop} {Q:Exit->Act->World->Prop}
theorem m0j(s:Sim P h0 w0 be oe H st h a w){t n:Nat}{ps:Array (Nat×Operand)}(l:o.op = .buildSlice t n ps)(y:ps.toList = [])(c:h0p P t n st h K):o.wp P a w (Nx P h0 w0 st be oe K a o.dst) Q:=by
 unfold h0p at c
 split at c
 rotate_left
 ·exact c.elim
 rename_i e u
 split at c
 rotate_left
 ·exact c.elim
 rename_i sz q j
 have k:=Nat.eq_of_beq_eq_true j
 subst k
 have m:ps = #[]:=by grind
 subst m
 have v:wpS P (execOp a.eval o) h (λg f=>∃ b,h b=none/\g = .value (.slice (some ⟨b,0,none⟩) 0 0)/\f=h.set b (.cells #[] e (0,0))):=by
  unfold execOp;rw[l]
  refine E7 _ _ _ ?_
  simp only[Instr.buildSlice,O1,Y2 (y9 u),a00 q,Nat.zero_mul,U1]
  rw[if_neg (by omega)]
  simp only[U1,if_true,Instr.fill,Array.map_empty,O1,newRow,newObj,wpS]
  exact λb d=>⟨b,d,rfl,by rw[show Array.range 0 = #[] from rfl,Array.map_empty]⟩
 obtain⟨g,f,z,p,⟨b,d,rfl,rfl⟩,i⟩:=R9 _ _ _ (v07 s) v
 obtain⟨x,s'⟩:=s.moved i
 exact H7 p ⟨_,_,_,_,_,_,_,c b d,rfl,s',rfl,Q6.refl _ _ _⟩
theorem n0j(s:Sim P h0 w0 be oe H st h a w){t:TypeId}{p q:Operand}{as:Array Operand}{S:Array TypeId}(M:o.op = .call { callee := .builtin .append,args:=as,argTypes:=S })
  (G:as = #[p,q]) (O:S = #[t,t]) (d:i0p P t p q st h K):o.wp P a w (Nx P h0 w0 st be oe K a o.dst) Q:=by
 unfold i0p at d
 split at d
 rotate_left
 ·exact d.elim
 rename_i e ab
 split at d
 rotate_left
 ·exact d.elim
 rename_i sz by_ z aa T ad
 split at d
 rotate_left
 ·exact d.elim
 rename_i ae
 obtain⟨i,y,D,ah,aj⟩:=k09 aa T ad
 have A:=y9 ab
 have af:z.cells.size=i.size:=by rw[D];simpa using s02 _ _ ae
 have g:=s.rdO p
 split at d
 rotate_left
 ·exact d.elim
 rename_i m n Z
 rw[Z]at g
 have v:a.eval p = .slice (some ⟨m,n,none⟩) 0 0:=g
 obtain⟨b,⟨N,X,L⟩,l⟩:=B04 s (Nat.succ_pos sz) d
 have ag:i.size=sz+1:=D
 have ai:i.bytes=by_+1:=ah
 rw[←D]at l
 rw[←ag]at L
 rw[←ai]at N
 have U:0<i.bytes:=by grind
 have am:b.length<=140737488355328:=Nat.le_trans (Nat.le_mul_of_pos_right _ U) N
 have Y:((0+b.length:Nat):Int)<=9223372036854775807:=by omega
 have J:=P02 b (λx C=>(l.1 x C).1)
 have R:=v07 s
 by_cases hn:b = []
 ·have k:(Builtin.append_ #[t,t] o.type #[.slice (some ⟨m,n,none⟩) 0 0,a.eval q]).run P w = .ok (.slice (some ⟨m,n,none⟩) 0 0) w:=by
   subst hn
   rcases l.2 with⟨E,c,f,I⟩|⟨c,f,_⟩
   ·rw[f]
    simp[Builtin.append_,run_underlying A,sizeOf,typeInfo,y,Builtin.lenOf,Builtin.firstCells,loadCells,loadCellsFrom,storeCells]
   ·rw[f]
    simp[Builtin.append_,run_underlying A,sizeOf,typeInfo,y,Builtin.lenOf,Builtin.firstCells,storeCells]
  rw[←v]at k
  exact H7 (E02 M G O k) ⟨_,_,h,_,_,_,_,X hn,rfl,s,v,Q6.refl _ _ _⟩
 ·rcases l.2 with⟨E,F,f,I⟩|⟨F,f,ac⟩
  rotate_left
  ·exact absurd ac hn
  have an:0<b.length:=by
   grind
  have k:=run_append_grow (P:=P) w t o.type e i z A y aj ⟨m,n,none⟩ 0 0 [] (by simp) (λj u W=>by simp at W) E b.length F b.flatten J I (by omega) Y (growslice_fits (by omega) (by grind[p07]))
  have al:=grownCap_ge w (0+b.length) 0 e
  have V:grownCap w (0+b.length) 0 e<=maxLen:=grownCap_le_maxLen w _ 0 e (by unfold maxLen;omega)
  rw[←f,←v]at k
  obtain⟨ak,s'⟩:=s.moved (V2.newD R (.cells ([].toArray++b.flatten.toArray++Builtin.zeroCells z.cells (grownCap w (0+b.length) 0 e-(0+b.length))) e (0,0)) rfl)
  refine H7 (E02 M G O k) ⟨_,_,_,_,_,_,_,L _ _ ⟨λx C=>l.1 x C,.inr ⟨w.heap.size,grownCap w (0+b.length) 0 e,_,?_,m02 R,rfl,by omega,V,?_,?_⟩⟩,rfl,s',rfl,Q6.refl _ _ _⟩
  ·rw[Nat.zero_add]
  ·simp only[Array.size_append,List.size_toArray,J,size_zeroCells,af,List.length_nil,←Nat.add_mul,Nat.zero_add]
   grind
  grind
theorem o0j(s:Sim P h0 w0 be oe H st h a w)(b:T0i P o st h K):o.wp P a w (Nx P h0 w0 st be oe K a o.dst) Q:=by
 unfold T0i at b
 split at b
 ·grind[m0j,b00]
 ·rename_i as i d
  split at b
  ·rename_i x y t g e f
   split at b
   ·rename_i c
    have:=Nat.eq_of_beq_eq_true c
    subst this
    exact n0j s d (by grind) (by grind) b
   ·exact b.elim
  ·exact b.elim
 grind[b00]
end
section
variable {P:Program} {h0:Hp} {w0:World} {be:Nat->Nat} {oe:Nat->Value} {H:Hp} {h:Hp} {a:Act} {w:World}
def Q0h(st:St)(be:Nat->Nat)(oe:Nat->Value)(h:Hp)(bs:List BE)(x:List (Nat×Bool)×W5)(v:Value):Prop:=cB bs x.1=some true->y05 st be oe h x.2 v
theorem M01{L:FL}{st:St}{h:Hp}{bs:List BE}{ch:List (Nat×Bool)}{val:Nat->Value}{K:List (Nat×AV)->Prop}(d:cB bs ch=some true):∀ {l:List Operand} {acc:List (Nat×AV)},
  (∀ t,I2 st be oe (D3 acc t) (val t))->(∀ t,Operand.tmp t∈l->(∀ x,f03 L t=some x->Q0h st be oe h bs x (val t))/\(f03 L t=none->I2 st be oe (D3 st.fr t) (val t))) ->
  V06 L st h ch l acc K->∃ fr,K fr/\∀ t,I2 st be oe (D3 fr t) (val t)
 | [],acc,c,b,a=>⟨acc,a,c⟩
 | .tmp t::r,acc,c,b,a=>by
  have j:∀ u,Operand.tmp u∈r->_:=λu i=>b u (mC _ i)
  have k:=b t mS
  have put:∀ av,I2 st be oe av (val t)->∀ u,I2 st be oe (D3 ((t,av)::acc) u) (val u):=λav g u=>by
   grind[i4]
  simp only[V06]at a
  split at a
  ·rename_i n f e
   split at a
   ·rename_i m
    have hf:=k.1 _ e (p08 m d)
    cases f with
    |pu av=>exact M01 d (put av hf) j a
    |ef F=>exact M01 d (put (.val (val t)) rfl) j (a _ hf)
   ·exact a.elim
  ·rename_i e
   exact M01 d (put _ (k.2 e)) j a
 | .const v::r,acc,c,b,a=>M01 (l:=r) d c (λu i=>b u (mC _ i)) a
 | .global v::r,acc,c,b,a=>M01 (l:=r) d c (λu i=>b u (mC _ i)) a
 | .func v::r,acc,c,b,a=>M01 (l:=r) d c (λu i=>b u (mC _ i)) a
theorem p0g{st:St}{val:Nat->Value}{K:List (Nat×AV)->Prop}:∀ {L:FL} {fr:List (Nat×AV)},(∀ p∈L,p.2.1 = []->y05 st be oe h p.2.2 (val p.1)) ->
  (∀ t,(∀ x,(t,x) ∉ L)->I2 st be oe (D3 fr t) (val t))->M0c h L fr K->∃ fr,K fr/\∀ t,I2 st be oe (D3 fr t) (val t)
 | [],fr,b,c,a=>⟨fr,a,λt=>c t (by simp)⟩
 |(d,ch,f)::r,fr,b,c,a=>by
  have step:∀ av,I2 st be oe av (val d)->M0c h r ((d,av)::fr) K->∃ fr,K fr/\∀ t,I2 st be oe (D3 fr t) (val t):=λav g a =>
   p0g (L:=r) (fr:=(d,av)::fr) (λp e=>b p (mC _ e)) (λt i=>by
    grind[i4]) a
  cases ch with
  |nil =>
   have hf:=b (d,[],f) mS rfl
   cases f with
   |pu av=>exact step av hf a
   |ef F=>exact step (.val (val d)) rfl (a _ hf)
  |cons p q =>
   refine step .dead trivial ?_
   cases f<;>exact a
theorem B0p{st:St}{L:FL}{bs:List BE}{ch:List (Nat×Bool)}{o:Oper}{av:AV}(c:M08 P L bs ch o st=some av)(C:cB bs ch=some true)
  (ao:∀ t,(∀ x,f03 L t=some x->Q0h st be oe h bs x (a.tmps.getD t undef))/\(f03 L t=none->I2 st be oe (D3 st.fr t) (a.tmps.getD t undef))∨Operand.tmp t ∉ o.op.operands)
  (aA:∀ x∈bs,∀ y,f03 L x.d=some y->y=(x.ch,.pu (.val (.bool x.e)))) (aj:∀ x∈bs,B02 bs x.j=some x) (ay:∀ x∈bs,∃ y,f03 L x.d=some y)
  (V:∀ {fr:List (Nat×AV)},(∀ t,I2 st be oe (D3 fr t) (a.tmps.getD t undef))->Sim P h0 w0 be oe H { st with fr:=fr } h a w) {Q:Exit->Act->World->Prop} :
  o.wp P a w (λG l=>∃ v be' oe' E,G=a.put o.dst v/\(∃ fr,Sim P h0 w0 be' oe' E { st with fr:=fr } h a l)/\Q6 st be oe st be' oe'/\I2 st be' oe' av v) Q:=by
 have J:Sim P h0 w0 be oe H { st with fr:=[] } h a w:=V (λt=>trivial)
 have rd:∀(x:Operand) (K:List (Nat×Bool)),cB bs K=some true->(∀ t,x = .tmp t->Operand.tmp t∈o.op.operands)->I2 st be oe (rdU L st K x) (a.eval x):=by
  intro x K ah f
  cases x with
  |tmp t =>
   have aa:=(ao t).resolve_right (λD=>D (f t rfl))
   simp only[rdU]
   split
   ·rename_i aw A e
    split
    ·rename_i T
     have:=aa.1 _ e (p08 T ah)
     have g:I2 st be oe A (a.tmps.getD t undef):=this
     have z:=J.rdA (I2.fr (st:=st) (fr:=[]) g)
     have p:rdA { st with fr:=[] } A=rdA st A:=by obtain⟨n,fr,bx,ow⟩:=st;cases A<;>rfl
     rw[p]at z
     exact I2.fr (st := { st with fr:=[] }) (fr:=st.fr) z
    ·trivial
   ·trivial
   ·rename_i e
    have g:=aa.2 e
    have z:=J.rdA (I2.fr (st:=st) (fr:=[]) g)
    have p:rdA { st with fr:=[] } (D3 st.fr t)=rdA st (D3 st.fr t):=by obtain⟨n,fr,bx,ow⟩:=st;cases D3 fr t<;>rfl
    rw[p]at z
    exact I2.fr (st := { st with fr:=[] }) (fr:=st.fr) z
  |const v=>exact rfl
  |global v=>trivial
  |func v=>exact rfl
 have done:∀ {v:Value},(∀ l,(execOp a.eval o).run P l = .ok (.value v) l ∨ ¬ Vis H l)->I2 st be oe av v->o.wp P a w (λG l=>∃ v be' oe' E,G=a.put o.dst v/\(∃ fr,Sim P h0 w0 be' oe' E { st with fr:=fr } h a l)/\Q6 st be oe st be' oe'/\I2 st be' oe' av v) Q:=λ{v} m g =>
  H7 ((m w).resolve_right λD=>D J.mv.vis) ⟨v,be,oe,H,rfl,⟨[],J⟩,Q6.refl _ _ _,g⟩
 unfold M08 at c
 split at c
 ·rename_i x f
  have g:=rd x ch C (λt e=>by rw[f];simp[Op.operands,e])
  refine done (v:=a.eval x) (λl => .inl (by unfold execOp;rw[f];rfl)) ?_
  revert c
  cases m:rdU L st ch x<;>intro c<;>first|(cases c;done)|(cases c;rw[m]at g;exact g)
 ·rename_i x f
  have g:=rd x ch C (λt e=>by rw[f];simp[Op.operands,e])
  refine done (v:=a.eval x) (λl => .inl (by unfold execOp;rw[f];rfl)) ?_
  revert c
  cases m:rdU L st ch x<;>intro c<;>first|(cases c;done)|(cases c;rw[m]at g;exact g)
 ·rename_i t x f
  have g:=rd x ch C (λt e=>by rw[f];simp[Op.operands,e])
  split at c
  ·rename_i i off m
   rw[m]at g
   split at c
   ·rename_i cs ty D
    have aq:∃ u,x = .tmp u:=by
     cases x with
     |tmp u=>exact⟨u,rfl⟩
     |const v=>simp[rdU,rdO]at m
     |global v=>simp[rdU,rdO]at m
     |func v=>simp[rdU,rdO]at m
    obtain⟨u,rfl⟩:=aq
    have ai:c8 P o { st with fr:=[(u,.box i off)] } h λU st' af=>U=av/\st' = { st with fr:=[(u,.box i off)] }/\af=h:=by
     have am:rdO { st with fr:=[(u,.box i off)] } (.tmp u) = .box i off:=by
      show rdA _ (D3 [(u,AV.box i off)] u)=_
      rw[i4,if_pos rfl]
      simp only[rdA,D]
     simp only[c8,f,am,D]
     grind[s0d,p04,m0d,F5]
    have s1:=V (fr:=[(u,.box i off)]) (λaB=>by
     rw[i4]
     split
     ·rename_i e;subst e;exact g
     ·trivial)
    refine Oper.wp_mono (λG l f=>?_) (b00 s1 ai)
    obtain⟨U,st',ax,v,be',oe',E,⟨M,p,ad⟩,ag,s2,z,I⟩:=f
    rw[p,ad]at s2
    rw[M,p]at z
    rw[p]at I
    exact⟨v,be',oe',E,ag,⟨_,s2⟩,⟨I.bl,I.be,I.sm⟩,I2.fr (st := { st with fr:=[(u,.box i off)] }) (fr:=st.fr) z⟩
   ·cases c
  ·cases c
 ·rename_i t x k f
  have g:=rd x ch C (λt e=>by rw[f];simp[Op.operands,e])
  split at c
  ·rename_i i off N m Z
   rw[m]at g
   cases c
   refine done (v:=ptr (be i) (off+N)) (λl=>?_) ⟨g.1,rfl⟩
   by_cases hvis:Vis H l
   ·exact .inl (R.run_of (R.exec_fieldAddr (H:=H) f Z g.2) l hvis)
   ·exact .inr hvis
  ·rename_i sl j sz au N m Z
   rw[m]at g
   cases c
   obtain⟨b,ab,n,ac,M,p⟩:=g
   refine done (v:=ptr b (ab+(j.toNat*sz+au)+N)) (λl=>?_) ⟨b,ab,n,ac,M,by simp[Nat.add_assoc]⟩
   grind[Vis,R.run_of,R.exec_fieldAddr]
  ·cases c
 ·rename_i s x y f
  have g:=rd (.tmp s) ch C (λt e=>by rw[f];cases e;simp[Op.operands])
  split at c
  ·rename_i e q T al
   rw[T]at g
   have ae:a.eval (.tmp s) = .bool e:=g
   split at c
   ·rename_i an
    obtain⟨ak,az⟩:=s0b al
    have X:=p08 an C
    have Y:q.e=e:=by
     grind[rdU,bool,Go.H.rdA]
    have W:=aj q ak
    split at c
    ·rename_i bx by_ ap ar
     cases c
     refine done (v := .bool (cond e bx by_)) (λl => .inl ?_) rfl
     unfold execOp;rw[f]
     simp only[ae,Sem.run_bind,asBool,Sem.run_pure,Result.andThen_ok]
     cases e with
     |true =>
      have S:cB bs ((q.j,true)::q.ch)=some true:=by
       rw[a04,W,X];simp[lit,Y]
      have F:=rd x _ S (λt e=>by rw[f];simp[Op.operands,e])
      rw[ap]at F
      have O:a.eval x = .bool bx:=F
      simp[O]
     |false =>
      have S:cB bs ((q.j,false)::q.ch)=some true:=by
       rw[a04,W,X];simp[lit,Y]
      have F:=rd y _ S (λt e=>by rw[f];simp[Op.operands,e])
      rw[ar]at F
      have O:a.eval y = .bool by_:=F
      simp[O]
    ·cases c
   ·cases c
  ·cases c
 ·cases c
theorem Sim.untail{st:St}{t:List Own}(s:Sim P h0 w0 be oe H { st with ow:=st.ow++t } h a w)(hf:∀ u,I2 st be oe (D3 st.fr u) (a.tmps.getD u undef))
  (k:∀ i cs ty,nth st.bx i=some (.live cs ty)->∃ vs,D2 st oe cs vs/\H (be i)=some (.cells vs.toArray ty (0,0))):Sim P h0 w0 be oe H st h a w:=by
 have up:∀ i o,nth st.ow i=some o->nth (st.ow++t) i=some o:=λi o b=>by
  grind[y04,List.getElem?_append_left,List.getElem?_eq_some_iff]
 refine⟨s.mv,s.sub,λi cs ty b=>⟨(s.box i cs ty b).1,k i cs ty b⟩,s.pub,λi s' e sz by_ nn xs b=>s.own i s' e sz by_ nn xs (up i _ b),λi s' v b=>s.frz i s' v (up i _ b),s.bb,
  λi j s1 e sz by_ nn xs s2 f m d l n g b c=>s.oo i j s1 e sz by_ nn xs s2 f m d l n g (up i _ b) (up j _ c),λi cs ty j s1 e sz by_ nn xs b c=>s.bo i cs ty j s1 e sz by_ nn xs b (up j _ c),s.dfr,s.siz,hf⟩
def n09(P:Program)(h0:Hp)(w0:World)(ops:Array Oper)(st:St)(h:Hp)(A:Asg)(sk:Nat->Bool)(kp:List (Nat×Value))(listed:Array Bool)(a:Act)(w:World):Prop :=
 ∃ be oe H b,Sub h b/\Sim P h0 w0 be oe H { st with fr:=A4 ops.toList st.fr } b a w/\(∀ p∈kp,a.tmps.getD p.1 undef=p.2) /\
  ∀ j o d,sk j=false->ops[j]?=some o->o.dst=some d->listed.getD j false=true->((A j).2.1=true->y05 st be oe b (A j).2.2 (a.tmps.getD d undef))/\((A j).2.1=false->a.tmps.getD d undef=undef)
theorem P0r{st st':St}(t:l0l st st'):∃ r,st' = { st with ow:=st.ow++r }:=by
 obtain⟨n,fr,bx,ow⟩:=st
 obtain⟨g,b,a,h⟩:=st'
 obtain⟨c,d,e,r,f⟩:=t
 grind
theorem Q0r{b:Type}{l r:List b}{i:Nat}(a:i<l.length):nth (l++r) i=nth l i:=by
 rw[y04,y04,List.getElem?_append_left a]
theorem q0g{st:St}{r:List Own}{i s:Nat}(a:stamp st i=some s):stamp { st with ow:=st.ow++r } i=some s:=by
 grind[stamp,nth,Q0r,J01]
theorem A0s{ops:Array Oper}{st:St}{A:Asg}{sk:Nat->Bool}{kp:List (Nat×Value)}{bi:FL}{ak:List BE}{listed:Array Bool}{j:Nat}{o:Oper}{Q:Exit->Act->World->Prop}
  (bv:∀(i j:Nat) (f a2:Oper) (d:Nat),ops.toList[i]?=some f->ops.toList[j]?=some a2->f.dst=some d->a2.dst=some d->i=j)
  (am:∀ o∈ops.toList,∀ d,o.dst=some d->d<st.n)
  (bu:∀(k:Nat) (o:Oper),ops.toList[k]?=some o->∀ e∈o.after,Region.binds .any e=true->e.on<k)
  (aR:∀ o∈ops.toList,∀ t,Operand.tmp t∈o.op.operands->∀(i:Nat) (f:Oper),ops.toList[i]?=some f->f.dst=some t->∃ e∈o.after,Region.binds .any e=true/\e.on=i)
  (bH:∀ o∈ops.toList,∀ i w,o.guard=some (i,w)->i8 i o=true)
  (au:U0f ops.toList A bi ak ops.toList.length)
  (aP:∀ j o,ops.toList[j]?=some o->∃ V G,p00 ak o.guard=some (A j).1/\U0f ops.toList A V G j/\G08 G ak/\cB G (A j).1=some (A j).2.1/\(OpU P st h V G o (A j).1 (A j).2.1 (A j).2.2/\∀ av,M08 P V G (A j).1 o st=some av->(A j).2.2 = .pu av))
  (cd:sk j=false) (cf:∀(i:Nat) (f:Oper) (d:Nat),ops.toList[i]?=some f->f.dst=some d->sk i=true->∀ E∈ops.toList,Operand.tmp d ∉ E.op.operands)
  (bR:∀ i,sk i=true->(A i).2.2 = .pu (.val undef)) (ce:∀ p∈kp,∃(i:Nat) (f:Oper),ops.toList[i]?=some f/\f.dst=some p.1/\sk i=true)
  (aT:ops[j]?=some o) (aV:∀ e∈o.after,Region.binds .any e=true->listed.getD e.on false=true) (ai:n09 P h0 w0 ops st h A sk kp listed a w) :
  (Region.wanted o (yielded ops a.tmps)=true->o.wp P a w (n09 P h0 w0 ops st h A sk kp (listed.setIfInBounds j true)) Q) /\
  (Region.wanted o (yielded ops a.tmps)=false->n09 P h0 w0 ops st h A sk kp (listed.setIfInBounds j true) (a.put o.dst undef) w):=by
 obtain⟨be,oe,H,ab,aG,s,keep,aA⟩:=ai
 have an:ops.toList[j]?=some o:=by simpa using aT
 have al:o∈ops.toList:=List.mem_of_getElem? an
 have aS:j<ops.toList.length:=(List.getElem?_eq_some_iff.1 an).1
 obtain⟨V,G,ad,Y,bV,aw,N,_⟩:=aP j o an
 have ah:cB ak (A j).1=some (A j).2.1:=au.p3 j aS aS
 have aY:Region.wanted o (yielded ops a.tmps)=(A j).2.1:=by
  unfold Region.wanted
  cases hg:o.guard with
  |none =>
   rw[hg]at ad
   cases hch':(A j).1 with
   |nil=>rw[hch']at ah;exact oJ ah
   |cons p q=>rw[hch']at ad;cases ad
  |some p =>
   obtain⟨i,aL⟩:=p
   rw[hg]at ad
   simp only[p00]at ad
   split at ad
   ·rename_i b L
    obtain⟨bL,rfl⟩:=n03 L
    obtain⟨I,⟨E,C,R⟩,ap,ag⟩:=au.p4 b bL
    have aE:listed.getD b.j false=true:=by
     obtain⟨e,T,bA,ao⟩:=J7 (bH o al b.j aL hg)
     rw[←ao];exact aV e T bA
    have bQ:sk b.j=false:=by
     cases e:sk b.j with
     |false=>rfl
     |true=>rw[bR b.j e]at ag;cases ag
    have hf:=aA b.j E b.d bQ (by simpa using C) R aE
    have aQ:=au.p3 b.j I I
    rw[ap]at aQ
    have ae:b.d<a.tmps.size:=by rw[s.siz];exact am E (List.mem_of_getElem? C) b.d R
    have aJ:a.tmps[b.d]?=some (if(A b.j).2.1=true then .bool b.e else undef):=by
     rw[Array.getElem?_eq_getElem ae]
     have bI:a.tmps.getD b.d undef=a.tmps[b.d]:=by simp[ae]
     cases M:(A b.j).2.1 with
     |true =>
      have:=hf.1 M
      rw[ag,bI]at this
      have K:a.tmps[b.d] = .bool b.e:=this
      rw[K];rfl
     |false =>
      grind
    have aK:yielded ops a.tmps b.j=if(A b.j).2.1=true then some b.e else none:=by
     unfold yielded
     have:ops[b.j]?=some E:=by simpa using C
     simp only[this,R,oB,aJ]
     cases (A b.j).2.1<;>rfl
    have bE:(A j).1=(b.j,aL)::b.ch:=by
     grind
    rw[bE,a04,L,aQ]at ah
    simp only[Option.some.injEq]at ah
    simp only[aK,←ah]
    cases (A b.j).2.1<;>cases aL<;>cases b.e<;>rfl
   ·cases ad
 have b2:∀ i f,ops.toList[i]?=some f->∀ F,(A i).2.2 = .ef F->∀ v J K,Sub J K->F v J->F v K:=λi f ax F bz=>by
  obtain⟨b3,b6,_,_,_,_,aU,_⟩:=aP i f ax
  rw[bz]at aU
  exact aU.1
 have fin:∀ {fr:List (Nat×AV)} {af:Act} {U:World} {S:Hp} {be':Nat->Nat} {oe':Nat->Value} {O:Hp} {v:Value},Sub ab S->af=a.put o.dst v->Sim P h0 w0 be' oe' O { st with fr:=fr } S a U ->
   Q6 st be oe st be' oe'->((A j).2.1=true->y05 st be' oe' S (A j).2.2 v)->((A j).2.1=false->v=undef)->n09 P h0 w0 ops st h A sk kp (listed.setIfInBounds j true) af U:=by
  intro fr af U S be' oe' O v aX ac s' aq aJ bS
  subst ac
  have br:Q6 { st with fr:=A4 ops.toList st.fr } be oe { st with fr:=A4 ops.toList st.fr } be' oe':=⟨aq.bl,aq.be,aq.sm⟩
  have s1:Sim P h0 w0 be' oe' O { st with fr:=A4 ops.toList st.fr } S a U :=
   s'.refr (fr:=A4 ops.toList st.fr) λt=>I2.fr (st := { st with fr:=A4 ops.toList st.fr }) ((s.fr t).grow br)
  have s2:Sim P h0 w0 be' oe' O { st with fr:=A4 ops.toList st.fr } S (a.put o.dst v) U:=by
   cases X:o.dst with
   |none=>exact s1
   |some d =>
    have aF:=s1.put (d:=d) (av := .dead) (v:=v) (am o al d X) trivial
    refine aF.refr (fr:=A4 ops.toList st.fr) λt=>?_
    have g:=aF.fr t
    grind[i4,b02]
  have cp:∀ d,o.dst≠some d->(a.put o.dst v).tmps.getD d undef=a.tmps.getD d undef:=λd X=>by
   cases aD:o.dst with
   |none=>rfl
   |some W=>simp[Act.put,Array.getElem?_setIfInBounds_ne (λe=>X (by rw[aD,e]):W≠d)]
  refine⟨be',oe',O,S,λb x L=>aX b x (aG b x L),s2,λp aF=>?_,λi f d aH J K aO=>?_⟩
  ·grind
  by_cases hij:j=i
  ·subst hij
   rw[aT]at J;cases J
   have ae:d<a.tmps.size:=by rw[s.siz];exact am o al d K
   have:(a.put o.dst v).tmps.getD d undef=v:=by
    rw[K]
    simp[Act.put,ae]
   rw[this]
   exact⟨aJ,bS⟩
  ·have bK:listed.getD i false=true:=by rw[getD_set_ne false hij]at aO;exact aO
   have bN:∀ W,o.dst=some W->W≠d:=λW aD e=>by
    subst e
    exact hij (bv j i o f W an (by simpa using J) aD K)
   have:(a.put o.dst v).tmps.getD d undef=a.tmps.getD d undef:=by
    cases X:o.dst with
    |none=>rfl
    |some W=>simp[Act.put,Array.getElem?_setIfInBounds_ne (bN W X)]
   rw[this]
   obtain⟨aj,bW⟩:=aA i f d aH J K bK
   refine⟨λM=>?_,bW⟩
   have aj:=aj M
   cases hA:(A i).2.2 with
   |pu av=>rw[hA]at aj;exact I2.grow aq aj
   |ef F=>rw[hA]at aj;exact b2 i f (by simpa using J) F hA _ _ _ aX aj
 refine⟨λbU=>?_,λbT=>?_⟩
 rotate_left
 ·have M:(A j).2.1=false:=by rw[←aY];exact bT
  exact fin (fr:=A4 ops.toList st.fr) (λ_ _ h=>h) rfl s (Q6.refl _ _ _) (λh=>by rw[M]at h;cases h) (λ_=>rfl)
 have M:(A j).2.1=true:=by rw[←aY];exact bU
 rw[M]at aw N
 have cc:cB ak (A j).1=some true:=by rw[ah,M]
 have b1:∀ t x,f03 V t=some x->Q0h st be oe ab G x (a.tmps.getD t undef)∨Operand.tmp t ∉ o.op.operands:=λt x m=>by
  by_cases D:Operand.tmp t∈o.op.operands
  ·refine .inl λbG=>?_
   obtain⟨i,f,I,C,R,ap,ag⟩:=Y.p1 t x (g04 m)
   obtain⟨e,T,L,ao⟩:=aR o al t D i f C R
   have aE:listed.getD i false=true:=by rw[←ao];exact aV e T L
   have bF:(A i).2.1=true:=by
    have J:=au.p3 i (List.getElem?_eq_some_iff.1 C).1 (List.getElem?_eq_some_iff.1 C).1
    rw[ap,bV.c _ _ bG]at J
    exact(oJ J).symm
   have aH:sk i=false:=by
    grind
   have:=(aA i f t aH (by simpa using C) R aE).1 bF
   rwa [ag]at this
  ·exact .inr D
 have bq:∀ t,Operand.tmp t∈o.op.operands->f03 V t=none->I2 st be oe (D3 st.fr t) (a.tmps.getD t undef):=λt D bO=>by
  have g:=s.fr t
  have bM:D3 (A4 ops.toList st.fr) t=D3 st.fr t:=e01 λE bP X=>by
   obtain⟨i,ai,e⟩:=List.getElem_of_mem bP
   have ax:ops.toList[i]?=some E:=by rw[List.getElem?_eq_getElem ai,e]
   obtain⟨bp,T,L,ao⟩:=aR o al t D i E ax X
   have ae:=bu j o an bp T L
   rw[ao]at ae
   obtain⟨x,m⟩:=Y.p2 i E t ae ax X
   rw[bO]at m;cases m
  rw[←bM]
  exact I2.fr (st := { st with fr:=A4 ops.toList st.fr }) (fr:=st.fr) g
 have a3:∀ t,Operand.tmp t∈o.op.operands->(∀ x,f03 V t=some x->Q0h st be oe ab G x (a.tmps.getD t undef))/\(f03 V t=none->I2 st be oe (D3 st.fr t) (a.tmps.getD t undef)):=λt D =>
  ⟨λx m=>(b1 t x m).resolve_right λam=>am D,bq t D⟩
 have mk:∀ {fr:List (Nat×AV)},(∀ t,I2 st be oe (D3 fr t) (a.tmps.getD t undef))->Sim P h0 w0 be oe H { st with fr:=fr } ab a w:=λ{fr} g=>s.refr (fr:=fr) λt=>I2.fr (g t)
 cases hA:(A j).2.2 with
 |pu av =>
  rw[hA]at N
  rcases N with N|N
  ·refine Oper.wp_mono (λaf U m=>?_) (B0p (be:=be) (oe:=oe) (H:=H) (h:=ab) N aw (λt=>?_) (λx m y aK=>?_) (λx m=>?_) (λx m=>?_) mk)
   ·obtain⟨v,be',oe',O,ac,⟨fr,s2⟩,aa,C⟩:=m
    exact fin (λ_ _ h=>h) ac s2 aa (λ_=>by rw[hA];exact C) (λh=>by rw[M]at h;cases h)
   ·grind
   ·obtain⟨I,⟨E,C,R⟩,ap,ag⟩:=Y.p4 x m
    obtain⟨i,f,a0,a1,cg,ci,cj⟩:=Y.p1 x.d y (g04 aK)
    grind
   ·have key:∀(l:List BE),x∈l->∃ b,B02 l x.j=some b:=by
     intro l
     induction l with
     |nil=>intro h;cases h
     |cons z l aZ =>
      intro h
      simp only[B02]
      split
      ·exact⟨_,rfl⟩
      grind[absurd,Nat.ne_of_beq_eq_false]
    obtain⟨b,L⟩:=key G m
    obtain⟨bC,bB⟩:=n03 L
    obtain⟨_,⟨ck,ay,aM⟩,aN,az⟩:=Y.p4 b bC
    obtain⟨_,⟨cl,bk,bm⟩,bn,bo⟩:=Y.p4 x m
    rw[bB]at ay aN az
    rw[bk]at ay;cases ay
    rw[bm]at aM
    rw[bo]at az
    have b8:x.d=b.d:=by simpa using aM
    have ca:x.ch=b.ch:=bn.symm.trans aN
    have cb:x.e=b.e:=by simpa using az
    rw[L]
    obtain⟨b7,b5,be',b4⟩:=b
    obtain⟨cw,cu,cv,ct⟩:=x
    grind
   ·obtain⟨I,⟨E,C,R⟩,_,_⟩:=Y.p4 x m
    exact Y.p2 x.j E x.d I C R
  ·obtain⟨fr,T,g⟩:=M01 (acc:=[]) (be:=be) (oe:=oe) (val:=λt=>a.tmps.getD t undef) aw (λt=>trivial) (λt D=>a3 t (by simpa using D)) (C07 (bs:=G) (N ab aG) rfl)
   refine Oper.wp_mono (λaf U m=>?_) (b00 (mk g) T)
   obtain⟨bj,st',S,v,be',oe',O,⟨rfl,rfl,rfl⟩,ac,s2,C,aa⟩:=m
   exact fin (λ_ _ h=>h) ac s2 ⟨aa.bl,aa.be,aa.sm⟩ (λ_=>by rw[hA];exact I2.fr (st := { st with fr:=fr }) (fr:=st.fr) C) (λh=>by rw[M]at h;cases h)
 |ef F =>
  rw[hA]at N
  obtain⟨_,N⟩:=N
  obtain⟨fr,T,g⟩:=M01 (acc:=[]) (be:=be) (oe:=oe) (val:=λt=>a.tmps.getD t undef) aw (λt=>trivial) (λt D=>a3 t (by simpa using D)) (C07 (bs:=G) (N ab aG) rfl)
  refine Oper.wp_mono (λaf U m=>?_) (o0j (mk g) T)
  obtain⟨bj,st',S,v,be',oe',O,bJ,ac,s2,C,aa⟩:=m
  obtain⟨cn,K,⟨D,a0,a1⟩,bg,bt⟩:=D02 s2 C bJ
  obtain⟨r,rfl⟩:=P0r D
  have ar:Q6 st be oe st be' oe':=by
   have aC:=aa.trans bt
   refine⟨aC.bl,aC.be,λi bf aW=>?_⟩
   obtain⟨s1,a4,cm,ba⟩:=aC.sm i bf aW
   have bb:stamp { n:=st.n,fr:=fr,bx:=st.bx,ow:=st.ow++r } i=some bf:=q0g (st := { st with fr:=fr }) aW
   grind
  have bD:∀ i cs ty,nth st.bx i=some (.live cs ty)->∃ vs,D2 { st with fr:=fr } oe' cs vs/\O (be' i)=some (.cells vs.toArray ty (0,0)):=λi cs ty ai=>by
   obtain⟨_,Z,a4,_⟩:=s.box i cs ty ai
   obtain⟨_,vs,ba,bb⟩:=bg.box i cs ty ai
   refine⟨vs,?_,bb⟩
   have key:∀(cs:List E5) (Z vs:List Value),D2 { st with fr:=A4 ops.toList st.fr } oe cs Z->D2 { n:=st.n,fr:=fr,bx:=st.bx,ow:=st.ow++r } oe' cs vs->D2 { st with fr:=fr } oe' cs vs:=by
    intro cs
    induction cs with
    |nil=>intro Z vs _ g;cases vs with
     |nil=>trivial
     |cons v vs=>exact g.elim
    |cons c cs aZ =>
     intro Z vs aB I
     cases Z with
     |nil=>exact aB.elim
     |cons cq Z =>
      cases vs with
      |nil=>exact I.elim
      |cons cr vs =>
       refine⟨?_,aZ Z vs aB.2 I.2⟩
       cases c with
       |val x=>exact I.1
       |own k s1 =>
        obtain⟨bh,bc,_,_⟩:=aB.1
        obtain⟨co,bd,bX,bY⟩:=I.1
        have bZ:stamp { n:=st.n,fr:=fr,bx:=st.bx,ow:=st.ow++r } k=some bh:=q0g (st := { st with fr:=fr }) bc
        rw[bZ]at bd
        cases bd
        exact⟨bh,bc,bX,bY⟩
   exact key cs Z vs a4 ba
  have b0:Sim P h0 w0 be' oe' O { st with fr:=fr } K a U:=Sim.untail (st := { st with fr:=fr }) (t:=r) bg (λu=>I2.grow (st := { st with fr:=fr }) (st' := { st with fr:=fr }) ⟨ar.bl,ar.be,ar.sm⟩ (I2.fr (g u))) bD
  exact fin (fr:=fr) a0 ac b0 ar (λ_=>by rw[hA];exact a1) (λh=>by rw[M]at h;cases h)
theorem n09.start{ops:Array Oper}{st:St}{A:Asg}{sk:Nat->Bool}(s:Sim P h0 w0 be oe H st h a w):n09 P h0 w0 ops st h A sk [] (Array.replicate ops.size false) a w:=by
 refine⟨be,oe,H,h,λ_ _ h=>h,s.refr (fr:=A4 ops.toList st.fr) λt=>?_,λp i=>(by cases i),λj o d _ c e b=>?_⟩
 ·by_cases hx:∃ o∈ops.toList,o.dst=some t
  ·obtain⟨o,c,e⟩:=hx
   rw[b02 c e]
   trivial
  ·rw[e01 λo g f=>hx ⟨o,g,f⟩]
   exact s.fr t
 ·simp[Array.getElem?_replicate]at b
  split at b<;>cases b
theorem w0m{ops:Array Oper}{st:St}{A:Asg}{sk:Nat->Bool}{kp:List (Nat×Value)}{u:FL}{F:List BE}{K:St->Hp->Prop}{listed:Array Bool}
  (V:∀ i,sk i=true->(A i).2.2 = .pu (.val undef)) (Z:∀(i j:Nat) (b E:Oper) (d:Nat),ops.toList[i]?=some b->ops.toList[j]?=some E->b.dst=some d->E.dst=some d->i=j)
  (f:U0f ops.toList A u F ops.toList.length) (Q:∀ c,Sub h c->M0c c u st.fr λfr=>K { st with fr:=fr } c) (ac:∀ j,j<ops.size->listed.getD j false=true)
  (l:n09 P h0 w0 ops st h A sk kp listed a w):∃ be oe H c fr,K { st with fr:=fr } c/\Sim P h0 w0 be oe H { st with fr:=A4 ops.toList st.fr } c a w/\(∀ p∈kp,a.tmps.getD p.1 undef=p.2) /\
   ∀ t,(∀(i:Nat) (b:Oper),ops.toList[i]?=some b->b.dst=some t->sk i=false)->I2 st be oe (D3 fr t) (a.tmps.getD t undef):=by
 obtain⟨be,oe,H,c,U,s,keep,Y⟩:=l
 have O:∀ t,(∃(i:Nat) (b:Oper),ops.toList[i]?=some b/\b.dst=some t/\sk i=true) ∨ ¬ ∃(i:Nat) (b:Oper),ops.toList[i]?=some b/\b.dst=some t/\sk i=true:=λt=>Classical.em _
 have m:∃ val:Nat->Value,∀ t,((∃(i:Nat) (b:Oper),ops.toList[i]?=some b/\b.dst=some t/\sk i=true)->val t=undef)/\((¬ ∃(i:Nat) (b:Oper),ops.toList[i]?=some b/\b.dst=some t/\sk i=true)->val t=a.tmps.getD t undef) :=
  Classical.axiomOfChoice (r:=λt v=>((∃(i:Nat) (b:Oper),ops.toList[i]?=some b/\b.dst=some t/\sk i=true)->v=undef)/\((¬ ∃(i:Nat) (b:Oper),ops.toList[i]?=some b/\b.dst=some t/\sk i=true)->v=a.tmps.getD t undef)) λt=>by
   rcases O t with h|h
   ·exact⟨undef,λ_=>rfl,λn=>absurd h n⟩
   grind
 obtain⟨val,m⟩:=m
 obtain⟨fr,ab,g⟩:=p0g (st:=st) (be:=be) (oe:=oe) (val:=val) (λp T M=>by
  obtain⟨t,x⟩:=p
  obtain⟨i,b,h0,G,I,J,L⟩:=f.p1 t x T
  cases hsk:sk i with
  |true =>
   have e:=(m t).1 ⟨i,b,G,I,hsk⟩
   have y:=V i hsk
   rw[L]at y
   show y05 st be oe c x.2 (val t)
   rw[y,e];exact rfl
  |false =>
  have z : ¬ ∃(i:Nat) (b:Oper),ops.toList[i]?=some b/\b.dst=some t/\sk i=true:=λ⟨k,ok,q,D,W⟩=>by
   grind
  have aa:(A i).2.1=true:=by
   have:=f.p3 i h0 h0
   rw[J,show x.1 = [] from M]at this
   exact(oJ this).symm
  grind) (λt C=>by
  have z : ¬ ∃(i:Nat) (b:Oper),ops.toList[i]?=some b/\b.dst=some t/\sk i=true:=λ⟨k,ok,q,D,W⟩=>by
   obtain⟨x,o⟩:=f.p2 k ok t (List.getElem?_eq_some_iff.1 q).1 q D
   exact C x (g04 o)
  rw[(m t).2 z]
  have R:D3 (A4 ops.toList st.fr) t=D3 st.fr t:=e01 λX S N=>by
   obtain⟨i,l,e⟩:=List.getElem_of_mem S
   obtain⟨x,o⟩:=f.p2 i X t l (by rw[List.getElem?_eq_getElem l,e]) N
   exact C x (g04 o)
  have:=s.fr t
  rw[R]at this
  exact I2.fr (st := { st with fr:=A4 ops.toList st.fr }) (fr:=st.fr) this) (Q c U)
 grind
theorem z06:∀ {l:List Oper},b0d l=true->∀ o∈l,∀ i w,o.guard=some (i,w)->i8 i o=true
 | [],h,o,a=>by cases a
 |y::r,h,o,a=>by
  simp only[b0d,Bool.and_eq_true]at h
  rcases List.mem_cons.1 a with rfl|a
  ·grind
  ·exact z06 h.2 o a
theorem S0t{ops:Array Oper}{Q:Exit->Act->World->Prop}{Inv:Array Bool->Act->World->Prop}(hB:∀(k:Nat) (o:Oper),ops.toList[k]?=some o->∀ e∈o.after,Region.binds .any e=true->e.on<k)
  (hstep:∀ listed a w j o,ops[j]?=some o->(∀ e∈o.after,Region.binds .any e=true->listed.getD e.on false=true)->Inv listed a w ->
   (Region.wanted o (yielded ops a.tmps)=true->o.wp P a w (Inv (listed.setIfInBounds j true)) Q)/\(Region.wanted o (yielded ops a.tmps)=false->Inv (listed.setIfInBounds j true) (a.put o.dst undef) w))
  (hQ:∀ listed a w,(∀ j,j<ops.size->listed.getD j false=true)->Inv listed a w->Q .normal a w) :
  ∀(fuel:Nat) (listed:Array Bool) (a:Act) (w:World),listed.size=ops.size->listed.toList.count true+fuel=ops.size->Inv listed a w->wpAny P .any ops Q fuel listed a w
 |0,listed,a,w,hsz,hc,hi=>by
  have hall':∀ j,j<ops.size->listed.getD j false=true:=λj hj=>by
   have h1:∀ b∈listed.toList,true=b:=List.count_eq_length.1 (by grind)
   have hlt:j<listed.size:=by omega
   have:=h1 listed[j] (by simp)
   simp[hlt,←this]
  refine⟨?_,hQ listed a w hall' hi⟩
  simp_all[Region.ready,List.mem_cons_self,mem_ready,Array.getElem?_eq_some_iff]
 |fuel+1,listed,a,w,hsz,hc,hi=>by
  refine⟨λhr=>hQ listed a w (u0b hB hsz hr) hi,λj hj=>?_⟩
  obtain⟨h1,o,h2,h3⟩:=mem_ready.1 hj
  unfold wpOp
  simp only[h2]
  obtain⟨ht,hf⟩:=hstep listed a w j o h2 h3 hi
  have next:∀ a' w',Inv (listed.setIfInBounds j true) a' w'->wpAny P .any ops Q fuel (listed.setIfInBounds j true) a' w':=λa' w' hi'=>S0t hB hstep hQ fuel _ a' w' (by simpa using hsz) (by rw[count_set h1];omega) hi'
  cases hw:Region.wanted o (yielded ops a.tmps)with
  |true =>
   rw[if_pos rfl]
   exact .inl (Oper.wp_mono next (ht hw))
  |false =>
   grind
theorem B0s{ops:Array Oper}{Q:Exit->Act->World->Prop}{Inv:Array Bool->Act->World->Prop}(hB:∀(k:Nat) (o:Oper),ops.toList[k]?=some o->∀ e∈o.after,Region.binds .any e=true->e.on<k)
  (hstep:∀ listed a w j o,ops[j]?=some o->(∀ e∈o.after,Region.binds .any e=true->listed.getD e.on false=true)->Inv listed a w ->
   (Region.wanted o (yielded ops a.tmps)=true->o.wp P a w (Inv (listed.setIfInBounds j true)) Q)/\(Region.wanted o (yielded ops a.tmps)=false->Inv (listed.setIfInBounds j true) (a.put o.dst undef) w))
  (hQ:∀ listed a w,(∀ j,j<ops.size->listed.getD j false=true)->Inv listed a w->Q .normal a w) :
  ∀(l:List Oper) (k:Nat) (listed:Array Bool) (a:Act) (w:World),(∀ j,l[j]?=ops.toList[k+j]?)->k+l.length=ops.size->listed.size=ops.size->(∀ j,j<k->listed.getD j false=true)->Inv listed a w->wpList P ops Q l a w
 | [],k,listed,a,w,hl,hk,hsz,hp,hi=>hQ listed a w (λj hj=>hp j (by simp at hk;omega)) hi
 |o::l,k,listed,a,w,hl,hk,hsz,hp,hi=>by
  have ho:ops.toList[k]?=some o:=by simpa using (hl 0).symm
  have hl':∀ j,l[j]?=ops.toList[k+1+j]?:=λj=>by have:=hl (j+1);grind
  obtain⟨ht,hf⟩:=hstep listed a w k o (by simpa using ho) (λe he hb=>hp _ (hB k o ho e he hb)) hi
  have next:∀ a' w',Inv (listed.setIfInBounds k true) a' w'->wpList P ops Q l a' w':=λa' w' hi' =>
   B0s hB hstep hQ l (k+1) _ a' w' hl' (by grind) (by simpa using hsz) (λj hj=>by
    by_cases e:k=j
    ·subst e
     have:k<listed.size:=by grind
     simp[this]
    ·rw[getD_set_ne false e];exact hp j (by omega)) hi'
  unfold wpList
  cases hw:Region.wanted o (yielded ops a.tmps)with
  |true =>
   rw[if_pos rfl]
   exact .inl (Oper.wp_mono next (ht hw))
  |false =>
   grind
theorem p0j{ops:Array Oper}{st:St}{K:St->Hp->Prop}{Q:Exit->Act->World->Prop}(hb:u03 st.n ops.toList=true)(he:evU P ops.toList 0 [] [] st h K)
  (hQ:∀ a w st h be oe H,K st h->Sim P h0 w0 be oe H st h a w->Q .normal a w) :
  (∀ {be:Nat->Nat} {oe:Nat->Value} {H:Hp} {a:Act} {w:World},Sim P h0 w0 be oe H st h a w->wpAny P .any ops Q ops.size (Array.replicate ops.size false) a w) /\
  (∀ {be:Nat->Nat} {oe:Nat->Value} {H:Hp} {a:Act} {w:World},Sim P h0 w0 be oe H st h a w->wpList P ops Q ops.toList a w):=by
 simp only[u03,r02,Bool.and_eq_true]at hb
 obtain⟨⟨⟨b1,b2⟩,b3⟩,b4⟩:=hb
 obtain⟨hn,hD⟩:=G04 b1
 have hB:∀(k:Nat) (o:Oper),ops.toList[k]?=some o->∀ e∈o.after,Region.binds .any e=true->e.on<k:=λk o hk e he' hb=>by
  have:=o03 b2 k o hk e he' hb
  omega
 have hdep:=x06 b3
 have hgd:=z06 b4
 obtain⟨A,Lf,Bf,_,_,hP,hall,hfin⟩:=N0d (ops:=ops.toList) hD ops.toList 0 [] [] (λ_=>([],true,.pu .dead)) (λj=>by simp) (by simp)
  ⟨λt x h=>(by cases h),λi oi d hi=>by omega,λi hi=>by omega,λx hx=>(by cases hx)⟩ he
 have step:∀ listed a w j o,ops[j]?=some o->(∀ e∈o.after,Region.binds .any e=true->listed.getD e.on false=true)->n09 P h0 w0 ops st h A (λ_=>false) [] listed a w ->
   (Region.wanted o (yielded ops a.tmps)=true->o.wp P a w (n09 P h0 w0 ops st h A (λ_=>false) [] (listed.setIfInBounds j true)) Q)/\(Region.wanted o (yielded ops a.tmps)=false->n09 P h0 w0 ops st h A (λ_=>false) [] (listed.setIfInBounds j true) (a.put o.dst undef) w) :=
  λlisted a w j o h1 h2 h3=>A0s hD hn hB hdep hgd hP (λj o ho=>hall j o (Nat.zero_le _) ho) rfl (λ_ _ _ _ _ h=>nomatch h) (λ_ h=>nomatch h) (λ_ hp=>nomatch hp) h1 h2 h3
 have done:∀ listed a w,(∀ j,j<ops.size->listed.getD j false=true)->n09 P h0 w0 ops st h A (λ_=>false) [] listed a w->Q .normal a w:=λlisted a w hl hi=>by
  obtain⟨be,oe,H,h',fr,hk,s,_,g⟩:=w0m (sk:=λ_=>false) (λ_ h=>nomatch h) hD hP hfin hl hi
  exact hQ a w _ h' be oe H hk (s.refr (fr:=fr) λt=>I2.fr (g t λ_ _ _ _=>rfl))
 refine⟨λs=>?_,λs=>?_⟩
 ·exact S0t hB step done ops.size _ _ _ (by simp) (by simp[List.count_replicate]) (n09.start s)
 ·exact B0s hB step done ops.toList 0 _ _ _ (λj=>by simp) (by simp) (by simp) (λj hj=>by omega) (n09.start s)
end
end Go.H
namespace Go.H
set_option linter.unusedVariables false
set_option linter.unusedSimpArgs false
def D03(H:Hp):List (Nat×Obj)->Hp
 | []=>H
 |p::l=>(D03 H l).set p.1 p.2
theorem p03{H:Hp}{b:Nat}:∀ {l:List (Nat×Obj)},(∀ p∈l,p.1≠b)->D03 H l b=H b
 | [],_=>rfl
 |p::l,h=>by
  rw[D03,Hp.set_other _ _ λe=>h p mS e.symm]
  exact p03 λq a=>h q (mC _ a)
theorem I04{H:Hp}:∀ {l:List (Nat×Obj)},(l.map λp=>p.1).Nodup->∀ {p:Nat×Obj},p∈l->D03 H l p.1=some p.2
 | [],_,p,h=>nomatch h
 |q::l,a,p,h=>by
  rw[List.map_cons,List.nodup_cons]at a
  rcases List.mem_cons.1 h with rfl|h
  ·exact Hp.set_same _ _ _
  ·rw[D03,Hp.set_other _ _ λe=>a.1 (List.mem_map.2 ⟨p,h,e⟩)]
   exact I04 a.2 h
theorem F07{H:Hp}{l:List (Nat×Obj)}(b:Nat):(∃ p∈l,p.1=b)∨∀ p∈l,p.1≠b:=by
 grind
theorem O0d{a H:Hp}{f w:World}{l:List (Nat×Obj)}(k:Vis (D03 a l) f)(i:∀ p∈l,a p.1=none/\p.1<f.heap.size)(g:(l.map λp=>p.1).Nodup)(m:V2 a f H w):
  V2 (D03 a l) f (D03 H l) w:=by
 refine⟨m.os,m.tape,m.output,m.size,λb e j=>?_,λb o c=>?_,λb e=>?_,m.fz,m.dn⟩
 ·rcases F07 (H:=a) (l:=l) b with⟨p,d,rfl⟩|c
  ·grind[I04]
  ·rw[p03 c]at j;exact m.keep b e j
 ·rcases F07 (H:=a) (l:=l) b with⟨p,d,rfl⟩|h
  ·rw[I04 g d]at c;cases c
   rw[m.keep p.1 (i p d).2 (i p d).1]
   exact k p.1 _ (I04 g d)
  ·rw[p03 h]at c;exact m.vis b o c
 ·rcases F07 (H:=a) (l:=l) b with⟨p,d,rfl⟩|h
  ·grind[I04]
  ·rw[p03 h]at e ⊢
   exact m.fresh b e
section
variable {P:Program} {h0:Hp} {w0:World} {be:Nat->Nat} {oe:Nat->Value} {H:Hp} {h:Hp} {a:Act} {w:World}
theorem Sim.base{st:St}(s:Sim P h0 w0 be oe H st h a w){b:Hp}{d c:World}(m:V2 b d H c):Sim P b d be oe H st h a c :=
 ⟨m,s.sub,s.box,s.pub,s.own,s.frz,s.bb,s.oo,s.bo,s.dfr,s.siz,s.fr⟩
theorem Sim.more{st:St}(s:Sim P h0 w0 be oe H st h a w){l:List (Nat×Obj)}(u:∀ p∈l,H p.1=none){f:Hp}{j:World}(m:V2 f j (D03 H l) w):Sim P f j be oe (D03 H l) st h a w:=by
 have keep:∀ b,H b≠none->D03 H l b=H b:=λb c=>p03 λp v e=>c (by grind)
 refine⟨m,λb o c=>by rw[keep b (by rw[s.sub b o c];simp)];exact s.sub b o c,λi cs ty d=>?_,s.pub,λi s' e sz by_ nn xs d=>?_,s.frz,s.bb,s.oo,s.bo,s.dfr,s.siz,s.fr⟩
 ·obtain⟨n,vs,q,t⟩:=s.box i cs ty d
  grind
 ·refine(s.own i s' e sz by_ nn xs d).keep λg k=>?_
  obtain⟨x,_,_,_,y⟩:=(s.own i s' e sz by_ nn xs d).block k
  grind
theorem Sim.claim{st:St}(s:Sim P h0 w0 be oe H st h a w){cs:List E5}{vs:List Value}{t:TypeId}{b:Nat}(D:D2 st oe cs vs)(C:H b=some (.cells vs.toArray t (0,0)))(E:h b=none)
  (J:∀ i cs ty,nth st.bx i=some (.live cs ty)->be i≠b) (K:∀ i s' e sz by_ nn xs g,nth st.ow i=some ⟨s',.live e sz by_ nn xs⟩->(oe i).ownBlock=some g->g≠b) :
  let be':=λj=>if j=st.bx.length then b else be j
  let st':St := { st with bx:=st.bx ++ [.live cs t] }
  Sim P h0 w0 be' oe H st' h a w/\Q6 st be oe st' be' oe:=by
 intro be' st'
 have k:Q6 st be oe st' be' oe:=by
  refine⟨by simp[st'],λi c=>?_,λi s F=>⟨s,F,Nat.le_refl _,λ_=>rfl⟩⟩
  grind
 have l:∀ i cs ty,nth st.bx i=some (.live cs ty)->be' i=be i:=λi cs ty c=>by simp[be',Nat.ne_of_lt (J01 c)]
 have f:∀ i x,nth st'.bx i=some x->(i=st.bx.length/\x = .live cs t)∨(i≠st.bx.length/\nth st.bx i=some x):=by
  grind[l02]
 refine⟨⟨s.mv,s.sub,?_,?_,s.own,s.frz,?_,s.oo,?_,s.dfr,s.siz,λt=>(s.fr t).grow k⟩,k⟩
 ·intro i cs' ty c
  rcases f i _ c with⟨rfl,e⟩|⟨e,d⟩
  ·cases e
   exact⟨by simp[be',E],vs,D.grow k,by simp[be',C]⟩
  ·obtain⟨y,I,z,A⟩:=s.box i cs' ty d
   rw[l i cs' ty d]
   exact⟨y,I,z.grow k,A⟩
 ·intro i q c
  rcases f i _ c with⟨_,e⟩|⟨e,d⟩
  ·cases e
  ·simp[be',e,s.pub i q d]
 ·intro i j u G L M c n e
  rcases f i _ c with⟨rfl,m⟩|⟨m,d⟩<;>rcases f j _ n with⟨rfl,v⟩|⟨v,p⟩
  ·rfl
  ·grind
  ·grind
  ·rw[l i _ _ d,l j _ _ p]at e;exact s.bb i j _ _ _ _ d p e
 ·intro i u G j s' e sz by_ nn xs c n o
  rcases f i _ c with⟨rfl,m⟩|⟨m,d⟩
  ·grind
  ·rw[l i _ _ d]at o;exact s.bo i _ _ j _ _ _ _ _ _ d n o
def k0a(a:Act)(d:Nat):Nat:=match a.tmps.getD d undef with
 | .pointer (some ⟨b,_,_⟩)=>b
 |_=>0
theorem W05{a:Act}{d b:Nat}(e:a.tmps.getD d undef=ptr b 0):k0a a d=b:=by
 unfold k0a;rw[e];rfl
def d0u(P:Program)(H h:Hp)(a:Act)(n:Nat)(o:Oper):Prop:=w04 o=true->∃ d t z,o.op = .alloc t/\o.dst=some d/\d<n/\N00 P t=some z/\a.tmps.getD d undef=ptr (k0a a d) 0/\H (k0a a d)=some (.cells z.cells t (0,0))/\h (k0a a d)=none
def e0u(a:Act)(o c:Oper):Prop:=w04 o=true->w04 c=true->∀ d b,o.dst=some d->c.dst=some b->k0a a d≠k0a a b
theorem R0h{st:St}{h:Hp}{d:Nat}:q07 ⟨st,h,[],[]⟩ d=false:=rfl
theorem u0l{K:St->Hp->Prop}{fd:List (Nat×AV)}:∀(l:List Oper) (st:St) (be:Nat->Nat),Sim P h0 w0 be oe H { st with fr:=fd } h a w ->
  (∀ t,(∀ o∈l,w04 o=true->o.dst≠some t)->I2 st be oe (D3 st.fr t) (a.tmps.getD t undef))->(∀ o∈l,d0u P H h a st.n o)->l.Pairwise (e0u a) ->
  (∀ i cs ty,nth st.bx i=some (.live cs ty)->∀ o∈l,w04 o=true->∀ d,o.dst=some d->be i≠k0a a d) ->
  (∀ i s' e sz by_ nn xs g,nth st.ow i=some ⟨s',.live e sz by_ nn xs⟩->(oe i).ownBlock=some g->∀ o∈l,w04 o=true->∀ d,o.dst=some d->g≠k0a a d) ->
  doA (A03 P) l st h K->∃ st' be',K st' h/\Sim P h0 w0 be' oe H st' h a w
 | [],st,be,s,p,_,_,_,_,j=>⟨st,be,j,s.refr (fr:=st.fr) λt=>I2.fr (st:=st) (p t λo m=>nomatch m)⟩
 |o::l,st,be,s,p,x,q,y,m,j=>by
  rw[List.pairwise_cons]at q
  have j:(match w04 o with
   |true=>A03 P o st h λst h=>doA (A03 P) l st h K
   |false=>doA (A03 P) l st h K):=j
  cases hal:w04 o with
  |false =>
   rw[hal]at j
   exact u0l l st be s (λt T=>p t λc b F=>by
    grind) (λc b=>x c (mC _ b)) q.2 (λi cs ty f c b=>y i cs ty f c (mC _ b)) (λi s' e sz by_ nn xs g f k c b=>m i s' e sz by_ nn xs g f k c (mC _ b)) j
  |true =>
   rw[hal]at j
   obtain⟨d,t,z,N,v,V,O,Q,A,R⟩:=x o mS hal
   simp only[A03,c8,N,O,i0b,v,r0d,R0h]at j
   have J:Nat.blt d (st.withBx (st.bx ++ [.live (vals z.cells.toList) t])).n=true:=by
    grind
   simp only[J]at j
   obtain⟨n,fr,bx,ow⟩:=st
   have M:doA (A03 P) l ⟨n,(d,.box bx.length 0)::fr,bx ++ [.live (vals z.cells.toList) t],ow⟩ h K:=j
   have I:z.cells=z.cells.toList.toArray:=by simp
   rw[I]at A
   obtain⟨s2,E⟩:=s.claim (D2.vals _ oe _) A R (λi cs ty f=>y i cs ty f o mS hal d v) (λi s' e sz by_ nn xs g f k=>m i s' e sz by_ nn xs g f k o mS hal d v)
   refine u0l l ⟨n,(d,.box bx.length 0)::fr,bx ++ [.live (vals z.cells.toList) t],ow⟩ _ s2 (λu U=>?_) (λc b=>x c (mC _ b)) q.2 (λi cs ty f c b G C L=>?_) (λi s' e sz by_ nn xs g f k c b=>m i s' e sz by_ nn xs g f k c (mC _ b)) M
   ·show I2 _ _ _ (D3 ((d,.box bx.length 0)::fr) u) _
    rw[i4]
    split
    ·rename_i e
     subst e
     refine⟨by simp,?_⟩
     rw[Q];simp
    ·rename_i e
     have D:=p u λc b F S=>by
      grind
     exact I2.fr (st:=⟨n,fd,bx ++ [.live (vals z.cells.toList) t],ow⟩) (I2.grow E (I2.fr (st:=⟨n,fr,bx,ow⟩) (fr:=fd) D))
   ·simp only[l02]at f
    split at f
    ·rename_i e
     subst e
     simp only[if_pos]
     exact q.1 c b hal G d C v L
    grind
theorem m05{d:Nat}:∀ {l:List Operand},t07 d l=false->Operand.tmp d ∉ l
 | [],_,h=>nomatch h
 |x::r,a,h=>by
  rcases List.mem_cons.1 h with e|b
  ·subst e
   simp[t07]at a
  ·cases x<;>simp only[t07,Bool.or_eq_false_iff]at a
   ·exact m05 a.2 b
   all_goals exact m05 a b
theorem B0c{d:Nat}:∀ {l:List Oper},v0d d l=false->∀ o∈l,Operand.tmp d ∉ o.op.operands
 | [],_,o,h=>nomatch h
 |y::r,a,o,h=>by
  simp only[v0d,Bool.or_eq_false_iff]at a
  rcases List.mem_cons.1 h with rfl|h
  ·exact λb=>m05 a.1 (by simpa using b)
  ·exact B0c a.2 o h
theorem q0j{all:List Oper}:∀ {l:List Oper},okA P all l=true->∀ o∈l,w04 o=true->∃ t d z,o.op = .alloc t/\o.guard=none/\o.dst=some d/\N00 P t=some z/\∀ c∈all,Operand.tmp d ∉ c.op.operands
 | [],_,o,h,_=>nomatch h
 |y::r,a,o,h,b=>by
  simp only[okA,Bool.and_eq_true]at a
  rcases List.mem_cons.1 h with rfl|h
  ·grind[w04,B0c]
  ·exact q0j a.2 o h b
theorem r0j{o:Oper}(h:w04 o=false):Z9 o=o:=by
 grind[Z9,w04]
theorem t8(o:Oper):(Z9 o).dst=o.dst:=by unfold Z9;split<;>rfl
theorem s0j(o:Oper):(Z9 o).after=o.after:=by unfold Z9;split<;>rfl
theorem t0j(o:Oper):(Z9 o).guard=o.guard:=by unfold Z9;split<;>rfl
theorem w8:∀(l:List Oper) (i:Nat),(N5 l)[i]?=(l[i]?).map Z9
 | [],i=>by simp[N5]
 |o::r,0=>by simp[N5]
 |o::r,i+1=>by simp[N5,w8 r i]
theorem r0g:∀(l:List Oper),(N5 l).length=l.length
 | []=>rfl
 |o::r=>by simp[N5,r0g r]
theorem u0j{o:Oper}{d:Nat}(h:Operand.tmp d∈(Z9 o).op.operands):Operand.tmp d∈o.op.operands:=by
 grind[w04,r0j,Z9,Op.operands]
abbrev f0u:=List (Nat×Nat×Obj)
def skA(a:List Oper)(i:Nat):Bool:=match a[i]? with
 |some o=>w04 o
 |none=>false
def x0b(P:Program)(h0:Hp)(w0:World)(e:List Oper)(st:St)(h:Hp)(A:Asg)(listed:Array Bool)(a:Act)(w:World):Prop :=
 ∃(c:f0u) (f:Hp) (g:World),V2 h0 w0 (D03 f (c.map λp=>p.2)) g/\(∀ p∈c,f p.2.1=none/\p.2.1<g.heap.size)/\((c.map λp=>p.2).map λp=>p.1).Nodup /\
  n09 P f g (N5 e).toArray st h A (skA e) (c.map λp=>(p.1,ptr p.2.1 0)) listed a w /\
  (∀(j:Nat) (o:Oper) t d z,e[j]?=some o->o.op = .alloc t->o.dst=some d->N00 P t=some z->listed.getD j false=true->∃ b,(d,b,Obj.cells z.cells t (0,0))∈c) /\
  ∀ p∈c,∃(j:Nat) (o:Oper),e[j]?=some o/\w04 o=true/\o.dst=some p.1/\listed.getD j false=true
theorem x0b.start{f:List Oper}{st:St}{A:Asg}{N:Nat}(s:Sim P h0 w0 be oe H st h a w):x0b P h0 w0 f st h A (Array.replicate N false) a w:=by
 refine⟨[],H,w,s.mv,λp b=>(by cases b),by simp,?_,λj o t d z _ _ _ _ e=>?_,λp b=>(by cases b)⟩
 ·have s':Sim P H w be oe H st h a w:=s.base (V2.refl s.mv.vis)
  refine⟨be,oe,H,h,λ_ _ h=>h,s'.refr (fr:=A4 (N5 f) st.fr) λt=>?_,λp b=>(by cases b),λj o d _ g i c=>?_⟩
  ·by_cases hx:∃ o∈N5 f,o.dst=some t
   ·obtain⟨o,g,i⟩:=hx
    rw[b02 g i]
    trivial
   ·rw[e01 λo l k=>hx ⟨o,l,k⟩]
    exact s'.fr t
  ·simp[Array.getElem?_replicate]at c
   split at c<;>cases c
 ·simp[Array.getElem?_replicate]at e
  split at e<;>cases e
theorem C0s{f:List Oper}{st:St}{A:Asg}{au:FL}{Z:List BE}{listed:Array Bool}{j:Nat}{o:Oper}{Q:Exit->Act->World->Prop}
  (ad:∀(i j:Nat) (l ap:Oper) (d:Nat),(N5 f)[i]?=some l->(N5 f)[j]?=some ap->l.dst=some d->ap.dst=some d->i=j)
  (ae:∀ o∈N5 f,∀ d,o.dst=some d->d<st.n)
  (aA:∀(k:Nat) (o:Oper),(N5 f)[k]?=some o->∀ e∈o.after,Region.binds .any e=true->e.on<k)
  (aG:∀ o∈N5 f,∀ t,Operand.tmp t∈o.op.operands->∀(i:Nat) (l:Oper),(N5 f)[i]?=some l->l.dst=some t->∃ e∈o.after,Region.binds .any e=true/\e.on=i)
  (aH:∀ o∈N5 f,∀ i w,o.guard=some (i,w)->i8 i o=true)
  (aB:U0f (N5 f) A au Z (N5 f).length)
  (aD:∀ j o,(N5 f)[j]?=some o->∃ aa K,p00 Z o.guard=some (A j).1/\U0f (N5 f) A aa K j/\G08 K Z/\cB K (A j).1=some (A j).2.1/\(OpU P st h aa K o (A j).1 (A j).2.1 (A j).2.2/\∀ av,M08 P aa K (A j).1 o st=some av->(A j).2.2 = .pu av))
  (aU:∀(i:Nat) (l:Oper) (d:Nat),(N5 f)[i]?=some l->l.dst=some d->skA f i=true->∀ ag∈N5 f,Operand.tmp d ∉ ag.op.operands)
  (aS:∀ i,skA f i=true->(A i).2.2 = .pu (.val undef)) (aC:∀ o∈f,w04 o=true->∃ t d z,o.op = .alloc t/\o.guard=none/\o.dst=some d/\N00 P t=some z/\∀ ag∈f,Operand.tmp d ∉ ag.op.operands)
  (bb:listed.getD j true=false)
  (L:f[j]?=some o) (aQ:∀ e∈o.after,Region.binds .any e=true->listed.getD e.on false=true) (aJ:x0b P h0 w0 f st h A listed a w) :
  (Region.wanted o (yielded (N5 f).toArray a.tmps)=true->o.wp P a w (x0b P h0 w0 f st h A (listed.setIfInBounds j true)) Q) /\
  (Region.wanted o (yielded (N5 f).toArray a.tmps)=false->x0b P h0 w0 f st h A (listed.setIfInBounds j true) (a.put o.dst undef) w):=by
 obtain⟨y,T,Y,af,M,W,an,aj,ac⟩:=aJ
 have aO:o∈f:=List.mem_of_getElem? L
 have J:(N5 f)[j]?=some (Z9 o):=by rw[w8,L];rfl
 have aM:listed.getD j false=false:=by
  grind
 have aL:j<listed.size:=by
  grind
 have az:∀ p∈y,∃(i:Nat) (l:Oper),(N5 f)[i]?=some l/\l.dst=some p.1/\skA f i=true:=λp c=>by
  obtain⟨i,l,m,E,C,_⟩:=ac p c
  exact⟨i,Z9 l,by rw[w8,m];rfl,by rw[t8];exact C,by unfold skA;rw[m];exact E⟩
 cases hisa:w04 o with
 |false =>
  have aK:=r0j hisa
  rw[aK]at J
  have aT:skA f j=false:=by unfold skA;rw[L];exact hisa
  have up:∀ ab F,n09 P T Y (N5 f).toArray st h A (skA f) (y.map λp=>(p.1,ptr p.2.1 0)) (listed.setIfInBounds j true) ab F->x0b P h0 w0 f st h A (listed.setIfInBounds j true) ab F:=λab F aY=>by
   refine⟨y,T,Y,af,M,W,aY,λi l t d z m E C I R=>?_,λp c=>?_⟩
   ·by_cases e:j=i
    ·grind[w04]
    ·rw[getD_set_ne false e]at R
     exact aj i l t d z m E C I R
   grind[getD_set_true]
  have bd:=A0s (P:=P) (h0:=T) (w0:=Y) (ops:=(N5 f).toArray) (Q:=Q) (sk:=skA f) (kp:=y.map λp=>(p.1,ptr p.2.1 0)) (by simpa using ad) (by simpa using ae) (by simpa using aA) (by simpa using aG) (by simpa using aH) (by simpa using aB) (by simpa using aD) aT (by simpa using aU) aS (λp c=>by
   obtain⟨q,D,rfl⟩:=List.mem_map.1 c
   simpa using az q D) (by simpa using J) aQ an
  grind[Oper.wp_mono]
 |true =>
  obtain⟨t,d,z,aZ,a0,G,a1,bc⟩:=aC o aO hisa
  refine⟨λ_=>?_,λN=>?_⟩
  rotate_left
  ·unfold Region.wanted at N;rw[a0]at N;cases N
  obtain⟨be,oe,H,S,aR,s,keep,ay⟩:=an
  have ao:V2 h0 w0 (D03 H (y.map λp=>p.2)) w:=af.trans (O0d af.vis (λp c=>by
   obtain⟨q,D,rfl⟩:=List.mem_map.1 c
   exact M q D) W s.mv)
  have ai:∀ p∈y,H p.2.1=none:=λp c=>s.mv.none_of (M p c).2 (M p c).1
  have N:wpS P (execOp a.eval o) (D03 H (y.map λp=>p.2)) (λn ah=>∃ b,D03 H (y.map λp=>p.2) b=none/\n = .value (ptr b 0)/\ah=(D03 H (y.map λp=>p.2)).set b (.cells z.cells t (0,0))):=by
   unfold execOp;rw[aZ]
   refine E7 _ _ _ ?_
   simp only[Instr.alloc,newVar,newRow,newObj,O1,x07 a1,U1,wpS]
   exact λb U=>⟨b,U,rfl,rfl⟩
  obtain⟨n,ah,F,aP,⟨b,U,rfl,rfl⟩,V⟩:=R9 _ _ _ ao.vis N
  refine H7 aP ?_
  have al:∀ p∈y,p.2.1≠b:=λp c e=>by
   have:=I04 (H:=H) W (List.mem_map.2 ⟨p,c,rfl⟩)
   rw[e,U]at this;cases this
  have ak:H b=none:=by
   rw[←U,p03]
   intro p c
   obtain⟨q,D,rfl⟩:=List.mem_map.1 c
   exact al q D
  have aX:Vis H F:=λx a2 O=>by
   refine V.vis x a2 ?_
   rw[Hp.set_other _ _ λe=>by subst e;rw[ak]at O;cases O]
   rw[p03]
   ·exact O
   ·intro p c e
    obtain⟨q,D,rfl⟩:=List.mem_map.1 c
    rw[←e,ai q D]at O;cases O
  have aN:d<a.tmps.size:=by rw[s.siz];exact ae (Z9 o) (List.mem_of_getElem? J) d (by rw[t8];exact G)
  have ba:(a.put o.dst (ptr b 0)).tmps.getD d undef=ptr b 0:=by rw[G];simp[Act.put,aN]
  have ar:∀ u,u≠d->(a.put o.dst (ptr b 0)).tmps.getD u undef=a.tmps.getD u undef:=λu aV=>by
   rw[G];simp[Act.put,Array.getElem?_setIfInBounds_ne (Ne.symm aV)]
  have a3:∀ p∈y,p.1≠d:=λp c e=>by
   obtain⟨i,l,m,E,C,I⟩:=ac p c
   have:=ad i j (Z9 l) (Z9 o) d (by rw[w8,m];rfl) J (by rw[t8,C,e]) (by rw[t8];exact G)
   subst this
   rw[aM]at I;cases I
  have s1:Sim P H F be oe H { st with fr:=A4 (N5 f) st.fr } S a F:=(by simpa using s:Sim P T Y be oe H { st with fr:=A4 (N5 f) st.fr } S a w).base (V2.refl aX)
  have s2:Sim P H F be oe H { st with fr:=A4 (N5 f) st.fr } S (a.put o.dst (ptr b 0)) F:=by
   have c:=s1.put (d:=d) (av := .dead) (v:=ptr b 0) (ae (Z9 o) (List.mem_of_getElem? J) d (by rw[t8];exact G)) trivial
   rw[G]
   refine c.refr (fr:=A4 (N5 f) st.fr) λu=>?_
   have g:=c.fr u
   rw[i4]at g
   split at g
   ·rename_i e
    subst e
    rw[b02 (List.mem_of_getElem? J) (by rw[t8];exact G)]
    trivial
   ·exact g
  refine⟨(d,b,.cells z.cells t (0,0))::y,H,F,?_,λp c=>?_,?_,⟨be,oe,H,S,aR,by simpa using s2,λp c=>?_,λi l u X m E C=>?_⟩,λi l a4 ax z' m E C I R=>?_,λp c=>?_⟩
  ·exact ao.trans V
  ·rcases List.mem_cons.1 c with rfl|c
   ·exact⟨ak,V.vis.lt (by rw[Hp.set_same];simp)⟩
   ·exact⟨ai p c,Nat.lt_of_lt_of_le (M p c).2 (Nat.le_trans s.mv.size V.size)⟩
  ·rw[List.map_cons,List.map_cons,List.nodup_cons]
   refine⟨λaF=>?_,W⟩
   obtain⟨q,D,e⟩:=List.mem_map.1 aF
   obtain⟨p,c,rfl⟩:=List.mem_map.1 D
   exact al p c e
  ·rw[List.map_cons]at c
   rcases List.mem_cons.1 c with rfl|c
   ·exact ba
   ·obtain⟨q,D,rfl⟩:=List.mem_map.1 c
    rw[ar _ (a3 q D)]
    exact keep _ c
  ·have am:j≠i:=λe=>by
    subst e
    have aq:w04 o=false:=by unfold skA at X;rw[L]at X;exact X
    rw[hisa]at aq;cases aq
   rw[getD_set_ne false am]at C
   have aW:u≠d:=λe=>by
    subst e
    exact am (ad j i (Z9 o) l u J (by simpa using m) (by rw[t8];exact G) E)
   rw[ar u aW]
   exact ay i l u X m E C
  ·by_cases e:j=i
   ·grind[List.mem_cons_self]
   ·rw[getD_set_ne false e]at R
    obtain⟨aw,aE⟩:=aj i l a4 ax z' m E C I R
    exact⟨aw,mC _ aE⟩
  ·rcases List.mem_cons.1 c with rfl|c
   ·exact⟨j,o,L,hisa,G,by simp[aL]⟩
   ·obtain⟨i,l,m,E,C,I⟩:=ac p c
    exact⟨i,l,m,E,C,getD_set_true I⟩
theorem s0g{a m:Type}{f:a->m}:∀ {l:List a},(l.map f).Nodup->∀ {p q:a},p∈l->q∈l->f p=f q->p=q
 | [],_,p,q,h,_,_=>nomatch h
 |x::l,b,p,q,g,j,e=>by
  rw[List.map_cons,List.nodup_cons]at b
  rcases List.mem_cons.1 g with c|i<;>rcases List.mem_cons.1 j with d|k
  ·rw[c,d]
  ·grind
  ·grind
  ·exact s0g b.2 i k e
theorem R0r{c:List Oper}{st:St}{A:Asg}{V:FL}{ad:List BE}{K:St->Hp->Prop}{listed:Array Bool}
  (X:∀(i j:Nat) (N ac:Oper) (d:Nat),(N5 c)[i]?=some N->(N5 c)[j]?=some ac->N.dst=some d->ac.dst=some d->i=j)
  (ao:∀ o∈N5 c,∀ d,o.dst=some d->d<st.n)
  (aq:∀ i,skA c i=true->(A i).2.2 = .pu (.val undef)) (ak:∀ o∈c,w04 o=true->∃ t d z,o.op = .alloc t/\o.guard=none/\o.dst=some d/\N00 P t=some z/\∀ av∈c,Operand.tmp d ∉ av.op.operands)
  (ai:U0f (N5 c) A V ad (N5 c).length) (al:∀ m,Sub h m->M0c m V st.fr λfr=>doA (A03 P) c { st with fr:=fr } m K) (Z:∀ j,j<c.length->listed.getD j false=true)
  (D:x0b P h0 w0 c st h A listed a w):∃ st' m be oe H,K st' m/\Sim P h0 w0 be oe H st' m a w:=by
 obtain⟨O,aC,aJ,ab,aa,T,ar,ah,aD⟩:=D
 obtain⟨be,oe,H,m,fr,an,s,keep,g⟩:=w0m (K:=λst h=>doA (A03 P) c st h K) (ops:=(N5 c).toArray) aq (by simpa using X) (by simpa using ai) al (λj v=>Z j (by simpa [r0g] using v)) ar
 have au:V2 h0 w0 (D03 H (O.map λp=>p.2)) w:=ab.trans (O0d ab.vis (λp L=>by
  grind) T s.mv)
 have R:∀ p∈O,H p.2.1=none:=λp L=>s.mv.none_of (aa p L).2 (aa p L).1
 have s':=s.more (l:=O.map λp=>p.2) (λp L=>by
  grind) au
 have G:∀ o∈c,w04 o=true->∃ t d z b,o.op = .alloc t/\o.dst=some d/\N00 P t=some z/\(d,b,Obj.cells z.cells t (0,0))∈O/\a.tmps.getD d undef=ptr b 0:=λo x u=>by
  obtain⟨t,d,z,E,q,F,k,y⟩:=ak o x u
  obtain⟨j,v⟩:=List.getElem?_of_mem x
  obtain⟨b,J⟩:=ah j o t d z v E F k (Z j (List.getElem?_eq_some_iff.1 v).1)
  exact⟨t,d,z,b,E,F,k,J,keep _ (List.mem_map.2 ⟨_,J,rfl⟩)⟩
 have ap:∀ b,H b=none->m b=none:=λb J=>by
  cases e:m b with
  |none=>rfl
  |some o=>rw[s.sub b o e]at J;cases J
 refine(u0l (K:=K) (fd:=A4 (N5 c).toArray.toList st.fr) c { st with fr:=fr } be s' (λt aF=>?_) (λo x u=>?_) ?_ (λi cs ty D o x u d C=>?_) (λi ay e sz by_ nn xs aB D am o x u d C=>?_) an).elim λst' M=>M.elim λbe' M=>⟨st',m,be',oe,_,M.1,M.2⟩
 ·refine I2.fr (st:=st) (fr:=fr) (g t λi N Q U=>?_)
  have Q:(N5 c)[i]?=some N:=by simpa using Q
  rw[w8]at Q
  grind[w04,skA,absurd,t8,List.mem_of_getElem?]
 ·obtain⟨t,d,z,b,E,q,F,k,y⟩:=G o x u
  have S:=W05 y
  obtain⟨j,v⟩:=List.getElem?_of_mem x
  refine⟨d,t,z,E,q,ao (Z9 o) (List.mem_of_getElem? (i:=j) (by rw[w8,v];rfl)) d (by rw[t8];exact q),F,by rw[S];exact y,by rw[S];exact I04 T (List.mem_map.2 ⟨_,k,rfl⟩),by rw[S];exact ap b (R _ k)⟩
 ·rw[List.pairwise_iff_getElem]
  intro i j D v aE u aj d ae C Y e
  obtain⟨t,W,z,b,E,q,F,k,y⟩:=G _ (List.getElem_mem D) u
  obtain⟨aH,aA,z',az,Q,U,aG,aw,ax⟩:=G _ (List.getElem_mem v) aj
  rw[q]at C;cases C
  rw[U]at Y;cases Y
  rw[W05 y,W05 ax]at e
  subst e
  have:=s0g (f:=λp:Nat×Nat×Obj=>p.2.1) (by have:=T;rw[List.map_map]at this;exact this) k aw rfl
  have ag:d=ae:=congrArg Prod.fst this
  subst ag
  have:=X i j (Z9 c[i]) (Z9 c[j]) d (by rw[w8,List.getElem?_eq_getElem D];rfl) (by rw[w8,List.getElem?_eq_getElem v];rfl) (by rw[t8];exact q) (by rw[t8];exact U)
  omega
 ·obtain⟨t,W,z,b,E,q,F,k,y⟩:=G o x u
  rw[q]at C;cases C
  rw[W05 y]
  intro e
  obtain⟨_,vs,_,I⟩:=s.box i cs ty D
  rw[e,R _ k]at I;cases I
 ·obtain⟨t,W,z,b,E,q,F,k,y⟩:=G o x u
  rw[q]at C;cases C
  rw[W05 y]
  intro af
  obtain⟨_,_,_,_,I⟩:=(s.own i ay e sz by_ nn xs D).block am
  rw[af,R _ k]at I;cases I
theorem T0t{ops:Array Oper}{Q:Exit->Act->World->Prop}{Inv:Array Bool->Act->World->Prop}(hB:∀(k:Nat) (o:Oper),ops.toList[k]?=some o->∀ e∈o.after,Region.binds .any e=true->e.on<k)
  (hstep:∀ listed a w j o,listed.size=ops.size->listed.getD j true=false->ops[j]?=some o->(∀ e∈o.after,Region.binds .any e=true->listed.getD e.on false=true)->Inv listed a w ->
   (Region.wanted o (yielded ops a.tmps)=true->o.wp P a w (Inv (listed.setIfInBounds j true)) Q)/\(Region.wanted o (yielded ops a.tmps)=false->Inv (listed.setIfInBounds j true) (a.put o.dst undef) w))
  (hQ:∀ listed a w,(∀ j,j<ops.size->listed.getD j false=true)->Inv listed a w->Q .normal a w) :
  ∀(fuel:Nat) (listed:Array Bool) (a:Act) (w:World),listed.size=ops.size->listed.toList.count true+fuel=ops.size->Inv listed a w->wpAny P .any ops Q fuel listed a w
 |0,listed,a,w,hsz,hc,hi=>by
  have hall':∀ j,j<ops.size->listed.getD j false=true:=λj hj=>by
   have h1:∀ b∈listed.toList,true=b:=List.count_eq_length.1 (by grind)
   have hlt:j<listed.size:=by omega
   have:=h1 listed[j] (by simp)
   simp[hlt,←this]
  refine⟨?_,hQ listed a w hall' hi⟩
  cases hr:Region.ready .any ops listed with
  |nil=>rfl
  |cons j r =>
   grind[Region.ready,List.mem_cons_self,mem_ready,Array.getElem?_eq_some_iff]
 |fuel+1,listed,a,w,hsz,hc,hi=>by
  refine⟨λhr=>hQ listed a w (u0b hB hsz hr) hi,λj hj=>?_⟩
  obtain⟨h1,o,h2,h3⟩:=mem_ready.1 hj
  unfold wpOp
  simp only[h2]
  obtain⟨ht,hf⟩:=hstep listed a w j o hsz h1 h2 h3 hi
  have next:∀ a' w',Inv (listed.setIfInBounds j true) a' w'->wpAny P .any ops Q fuel (listed.setIfInBounds j true) a' w':=λa' w' hi'=>T0t hB hstep hQ fuel _ a' w' (by simpa using hsz) (by rw[count_set h1];omega) hi'
  cases hw:Region.wanted o (yielded ops a.tmps)with
  |true =>
   rw[if_pos rfl]
   exact .inl (Oper.wp_mono next (ht hw))
  |false =>
   grind
theorem y0b{x:Nat}:∀ {l:List Nat},m0l x l=true↔x∈l
 | []=>by simp[m0l]
 |y::r=>by
  simp only[m0l,Bool.or_eq_true,List.mem_cons,y0b (l:=r)]
  simp_all
theorem t0g{ops:List Oper}{i:Nat}:∀ {l:List Nat},F0r ops i l=true->∃ j o,j∈l/\ops[j]?=some o/\i8 i o=true
 | [],h=>by cases h
 |j::r,h=>by
  simp only[F0r,Bool.or_eq_true]at h
  rcases h with h|h
  ·grind[y04,List.mem_cons_self]
  ·obtain⟨c,o,a,b⟩:=t0g h
   grind
theorem o09{ops:List Oper}{G:Nat->Prop}(a:∀ i j o,G j->ops[j]?=some o->i8 i o=true->G i):∀(n:Nat) (acc:List Nat),(∀ j∈acc,G j)->∀ i∈f0g ops n acc,G i
 |0,acc,h=>h
 |n+1,acc,h=>by
  unfold f0g
  split
  ·rename_i b
   obtain⟨j,o,c,d,e⟩:=t0g b
   exact o09 a n _ λi f=>by
    grind
  ·exact o09 a n acc h
theorem p09{d:Nat}:∀ {l:List Oper},O08 d l=false->∀ o∈l,o.dst≠some d
 | [],_,o,h=>nomatch h
 |y::r,a,o,h=>by
  simp only[O08,Bool.or_eq_false_iff]at a
  rcases List.mem_cons.1 h with rfl|h
  ·intro b
   simp_all
  ·exact p09 a.2 o h
theorem A05{b:List Nat}{t:Nat}:∀ {l:List Oper} {k:Nat},x04 b t l k=true->∀(i:Nat) (o:Oper),l[i]?=some o->o.dst=some t->k+i∈b
 | [],k,_,i,o,h,_=>by simp at h
 |y::r,k,a,i,o,h,c=>by
  simp only[x04,Bool.and_eq_true]at a
  cases i with
  |zero =>
   simp_all[y0b]
  |succ i =>
   have:=A05 a.2 i o (by simpa using h) c
   grind
theorem V08{i d:Nat}:∀ {l:List Oper},K05 i d l=true->∀ o∈l,Operand.tmp d∈o.op.operands->i8 i o=true
 | [],_,o,h,_=>nomatch h
 |y::r,b,o,h,c=>by
  simp only[K05,Bool.and_eq_true,Bool.or_eq_true]at b
  rcases List.mem_cons.1 h with rfl|h
  ·rcases b.1 with a|a
   ·have e:t07 d o.op.operands.toList=false:=by simpa using a
    exact absurd (show Operand.tmp d∈o.op.operands.toList by simpa using c) (m05 e)
   ·exact a
  ·exact V08 b.2 o h c
theorem P0d:∀ {l:List Oper},U0i l=true->∀ o∈l,O09 o.op=false
 | [],_,o,h=>nomatch h
 |y::r,a,o,h=>by
  simp only[U0i,Bool.and_eq_true]at a
  rcases List.mem_cons.1 h with rfl|h
  ·simpa using a.1
  ·exact P0d a.2 o h
def F02(o:Oper)(f:Operand->Value):Option Value:=match o.op with
 | .extract x k=>match f x with
  | .tuple vs=>vs[k]?
  |_=>none
 | .move x=>some (f x)
 | .assign x=>some (f x)
 | .pick c x y=>match f c with
  | .bool q=>some (if q=true then f x else f y)
  |_=>none
 |_=>none
theorem h04{x:Operand}{a b:Act}(h:∀ t∈l0b x,a.tmps.getD t undef=b.tmps.getD t undef):a.eval x=b.eval x:=by
 cases x with
 |tmp t=>exact h t (List.mem_singleton.2 rfl)
 |const v=>rfl
 |global g=>rfl
 |func f=>rfl
theorem E03{o:Oper}{a:List Nat}(h:N08 o=some a):o.guard=none/\((∃ x k,o.op = .extract x k/\a=l0b x)∨(∃ x,o.op = .move x/\a=l0b x)∨(∃ x,o.op = .assign x/\a=l0b x)∨∃ c x y,o.op = .pick c x y/\a=l0b c++(l0b x++l0b y)):=by
 unfold N08 at h
 split at h
 ·cases h
 ·rename_i b
  refine⟨b,?_⟩
  split at h
  ·rename_i x k e;cases h;exact .inl ⟨x,k,e,rfl⟩
  ·rename_i x e;cases h;exact .inr (.inl ⟨x,e,rfl⟩)
  ·rename_i x e;cases h;exact .inr (.inr (.inl ⟨x,e,rfl⟩))
  ·rename_i c x y e;cases h;exact .inr (.inr (.inr ⟨c,x,y,e,rfl⟩))
  ·cases h
theorem G07{o:Oper}{g:List Nat}{a b:Act}(h:N08 o=some g)(e:∀ t∈g,a.tmps.getD t undef=b.tmps.getD t undef):F02 o a.eval=F02 o b.eval:=by
 obtain⟨_,⟨x,k,d,rfl⟩|⟨x,d,rfl⟩|⟨x,d,rfl⟩|⟨c,x,y,d,rfl⟩⟩:=E03 h
 ·unfold F02;rw[d];simp only[h04 e]
 ·unfold F02;rw[d];simp only[h04 e]
 ·unfold F02;rw[d];simp only[h04 e]
 ·unfold F02;rw[d]
  simp only[h04 (x:=c) λt f=>e t (List.mem_append_left _ f),h04 (x:=x) λt f=>e t (List.mem_append_right _ (List.mem_append_left _ f)),h04 (x:=y) λt f=>e t (List.mem_append_right _ (List.mem_append_right _ f))]
theorem Q0d{o:Oper}{f:List Nat}{a:Act}{v:Value}(h:N08 o=some f)(b:F02 o a.eval=some v)(w:World):(execOp a.eval o).run P w = .ok (.value v) w:=by
 obtain⟨_,⟨x,k,e,_⟩|⟨x,e,_⟩|⟨x,e,_⟩|⟨c,x,y,e,_⟩⟩:=E03 h
 ·unfold F02 at b;rw[e]at b
  simp only at b
  split at b
  ·rename_i vs d
   unfold execOp;rw[e]
   simp only[Instr.extract,d,b]
   rfl
  ·cases b
 ·unfold F02 at b;rw[e]at b;cases b
  unfold execOp;rw[e];rfl
 ·unfold F02 at b;rw[e]at b;cases b
  unfold execOp;rw[e];rfl
 ·unfold F02 at b;rw[e]at b
  simp only at b
  split at b
  ·rename_i q d
   cases b
   unfold execOp;rw[e]
   simp only[d,asBool]
   cases q<;>rfl
  ·cases b
theorem S0r{o:Oper}{g:List Nat}{a:Act}{w:World}{N:Act->World->Prop}(h:N08 o=some g)(b:o.wp P a w N λ_ _ _=>False):∃ v,F02 o a.eval=some v/\N (a.put o.dst v) w:=by
 obtain⟨_,⟨x,k,e,_⟩|⟨x,e,_⟩|⟨x,e,_⟩|⟨c,x,y,e,_⟩⟩:=E03 h
 ·cases hx:F02 o a.eval with
  |some v =>
   refine⟨v,rfl,?_⟩
   unfold Oper.wp at b
   rw[Q0d h hx w]at b
   exact b
  |none =>
   exfalso
   unfold F02 at hx;rw[e]at hx
   simp only at hx
   unfold Oper.wp execOp at b;rw[e]at b
   simp only[Instr.extract]at b
   split at hx
   ·rename_i vs f
    rw[f]at b
    simp only[hx]at b
    exact b
   ·rename_i d
    generalize a.eval x=z at b d
    cases z<;>first|exact b|exact absurd rfl (d _)
 ·refine⟨_,by unfold F02;rw[e],?_⟩
  unfold Oper.wp execOp at b;rw[e]at b
  exact b
 ·refine⟨_,by unfold F02;rw[e],?_⟩
  unfold Oper.wp execOp at b;rw[e]at b
  exact b
 ·cases hx:F02 o a.eval with
  |some v =>
   refine⟨v,rfl,?_⟩
   unfold Oper.wp at b
   rw[Q0d h hx w]at b
   exact b
  |none =>
   exfalso
   unfold F02 at hx;rw[e]at hx
   simp only at hx
   unfold Oper.wp execOp at b;rw[e]at b
   simp only at b
   split at hx
   ·cases hx
   ·rename_i d
    generalize a.eval c=z at b d
    cases z<;>first|exact b|exact absurd rfl (d _)
def R0d(as a:Act)(D:Nat->Prop):Prop:=as.tmps.size=a.tmps.size/\as.defers=a.defers/\∀ d,¬ D d->as.tmps.getD d undef=a.tmps.getD d undef
theorem F03(a:Act)(d u:Nat)(v:Value):(a.put (some d) v).tmps.getD u undef=if d=u/\d<a.tmps.size then v else a.tmps.getD u undef:=by
 by_cases e:d=u
 all_goals simp_all[Act.put,if_neg,Array.getElem?_setIfInBounds_ne]
theorem R0d.put{as a:Act}{b:Nat->Prop}(l:R0d as a b)(d:Option Nat)(v:Value):R0d (as.put d v) (a.put d v) b:=by
 cases d with
 |none=>exact l
 |some d =>
  refine⟨by simp[Act.put,l.1],l.2.1,λu c=>?_⟩
  rw[F03,F03,l.1,l.2.2 u c]
theorem T0r{o:Oper}{as a:Act}{w:World}{k:Nat->Prop}{N:Act->World->Prop}{Q:Exit->Act->World->Prop}(l:R0d as a k)(q:O09 o.op=false)(y:∀ d,Operand.tmp d∈o.op.operands -> ¬ k d)
  (i:o.wp P as w N λ_ _ _=>False):o.wp P a w (λm j=>∃ g,N g j/\R0d g m k/\(∃ v,g=as.put o.dst v∨∃ x,g = { as with defers:=x }.put o.dst v)/\∃ v,m=a.put o.dst v∨∃ x,m = { a with defers:=x }.put o.dst v) Q:=by
 have t:execOp as.eval o=execOp a.eval o:=execOp_congr o (λcs b e=>by rw[e]at q;cases q) λx z=>by
  cases x with
  |tmp d=>exact l.2.2 d (y d z)
  |_=>rfl
 unfold Oper.wp at *
 rw[t]at i
 generalize (execOp a.eval o).run P w=r at i
 have fin:∀(v:Value) (j:World),N (as.put o.dst v) j->∃ g,N g j/\R0d g (a.put o.dst v) k/\(∃ v,g=as.put o.dst v∨∃ x,g = { as with defers:=x }.put o.dst v)/\∃ s,a.put o.dst v=a.put o.dst s∨∃ x,a.put o.dst v = { a with defers:=x }.put o.dst s :=
  λv j h=>⟨_,h,l.put o.dst v,⟨v,.inl rfl⟩,v,.inl rfl⟩
 cases r with
 |ok n j =>
  cases n with
  |value v=>exact fin v j i
  |skip=>exact fin undef j i
  |defer d =>
   refine⟨_,i,R0d.put (as := { as with defers:=d::as.defers }) (a := { a with defers:=d::a.defers }) ⟨l.1,by simp[l.2.1],l.2.2⟩ o.dst undef,⟨_,.inr ⟨_,rfl⟩⟩,_,.inr ⟨_,rfl⟩⟩
  |enter f args =>
   refine Calls.mono i λe p h=>?_
   cases e with
   |returned v=>exact fin v p h
   |panicked c=>exact h.elim
   |outgrown=>obtain⟨_,_,h⟩:=h;exact h.elim
  |row row args=>exact Rows.mono i λv p h=>fin v p h
  |_=>exact i.elim
 |halt u j=>cases u<;>exact i.elim
theorem Sim.like{st:St}{as a:Act}{h0:Hp}{w0:World}{be:Nat->Nat}{oe:Nat->Value}{H h:Hp}{w:World}(s:Sim P h0 w0 be oe H st h as w){b:Nat->Prop}(l:R0d as a b)(c:∀ d,¬ b d):Sim P h0 w0 be oe H st h a w :=
 ⟨s.mv,s.sub,s.box,s.pub,s.own,s.frz,s.bb,s.oo,s.bo,by rw[←l.2.1];exact s.dfr,by rw[←l.1];exact s.siz,λt=>by rw[←l.2.2 t (c t)];exact s.fr t⟩
theorem u0g:∀ {l:List Oper} {k:Nat},j0p k l=true->(∀ o∈l,o.guard=none)/\∀(i:Nat) (o:Oper),l[i+1]?=some o->i8 (k+i) o=true
 | [],k,h=>⟨λo b=>(nomatch b),λi o a=>(nomatch a)⟩
 | [x],k,h=>by
  rw[j0p]at h
  grind
 |x::y::r,k,h=>by
  rw[j0p]at h
  simp only[Bool.and_eq_true]at h
  obtain⟨c,d⟩:=u0g (l:=y::r) h.2
  refine⟨λo b=>?_,λi o a=>?_⟩
  ·grind
  ·cases i with
   |zero=>grind
   |succ i =>
    grind
theorem v0j{o:Oper}{st:St}{K:St->Hp->Prop}{Q:Exit->Act->World->Prop}(s:Sim P h0 w0 be oe H st h a w)(l:A03 P o st h K):
  o.wp P a w (λj k=>∃ st' b be' oe' f,K st' b/\Sim P h0 w0 be' oe' f st' b j k) Q:=by
 refine Oper.wp_mono (λj k p=>?_) (b00 s l)
 obtain⟨av,st',b,v,be',oe',f,m,rfl,s',g,q⟩:=p
 obtain⟨A,t,u,y,z⟩:=E04 (ops := #[o]) (i:=0) (rs:=⟨st',b,[],[]⟩) (ch:=[]) (c:=true) (v:=v) s' ⟨(λx e=>nomatch e),(λx e=>nomatch e),(λd ch av n=>nomatch n)⟩ (by rfl) rfl (λ_=>g) (λh=>by cases h) m
 grind
theorem l0a{c d:List Oper}{a:List Nat}:∀ {l:List Oper} {k:Nat},c0d c d a l k=true->∀(i:Nat) (o:Oper),l[i]?=some o->m0l (k+i) a=true∨o0m c d a (k+i) o=true
 | [],k,_,i,o,h=>by simp at h
 |y::r,k,b,i,o,h=>by
  simp only[c0d,Bool.and_eq_true,Bool.or_eq_true]at b
  cases i with
  |zero=>grind
  |succ i =>
   have:=l0a b.2 i o (by simpa using h)
   grind
theorem S0d{c d:List Oper}{b:List Nat}:∀ {e:List Nat},n0m c d b e=true->∀ t∈e,O08 t d=false/\x04 b t c 0=true
 | [],_,t,h=>by cases h
 |x::r,a,t,h=>by
  simp only[n0m,Bool.and_eq_true,Bool.not_eq_true']at a
  rcases List.mem_cons.1 h with rfl|h
  ·exact a.1
  ·exact S0d a.2 t h
theorem v0l{c a:List Oper}{b:List Nat}{i:Nat}{o:Oper}(h:o0m c a b i o=true):∃ e d,N08 o=some e/\o.dst=some d/\O08 d a=false/\(∀ t∈e,O08 t a=false/\x04 b t c 0=true)/\K05 i d a=true:=by
 unfold o0m at h
 split at h
 ·rename_i t d f g
  simp only[Bool.and_eq_true,Bool.not_eq_true']at h
  exact⟨t,d,f,g,h.1.1,S0d h.1.2,h.2⟩
 ·cases h
theorem d0o{ops:Array Oper}{m:Nat}{st:St}{K:St->Hp->Prop}{Q:Exit->Act->World->Prop}(hb:okZ P st.n m ops.toList=true)(he:evT P (A03 P) m ops.toList st h K)
  (hQ:∀ a w st h be oe H,K st h->Sim P h0 w0 be oe H st h a w->Q .normal a w) (s:Sim P h0 w0 be oe H st h a w):wpAny P .any ops Q ops.size (Array.replicate ops.size false) a w:=by
 simp only[okZ,u03,r02,Bool.and_eq_true,Bool.or_eq_true]at hb
 obtain⟨⟨⟨⟨⟨⟨⟨b1,b2⟩,b3⟩,b4⟩,b5⟩,b6⟩,b7⟩,b8⟩:=hb
 generalize hpre:ops.toList.take m=pre at b1 b2 b3 b4 b5 b8
 obtain⟨hn,hD⟩:=G04 b1
 have hB:∀(k:Nat) (o:Oper),(N5 pre)[k]?=some o->∀ e∈o.after,Region.binds .any e=true->e.on<k:=λk o hk e he' hb=>by
  have:=o03 b2 k o hk e he' hb
  omega
 have hdep:=x06 b3
 have hgd:=z06 b4
 have hal:=q0j b5
 have hBB:∀(k:Nat) (o:Oper),ops.toList[k]?=some o->∀ e∈o.after,Region.binds .any e=true->e.on<k:=λk o hk e he' hb=>by
  have:=o03 b6 k o hk e he' hb
  omega
 obtain⟨sq1,sq2⟩:=u0g b7
 unfold evT at he
 rw[hpre]at he
 obtain⟨A,Lf,Bf,_,_,hP,hall,hfin⟩:=N0d (ops:=N5 pre) hD (N5 pre) 0 [] [] (λ_=>([],true,.pu .dead)) (λj=>by simp) (by simp)
  ⟨λt x h=>(by cases h),λi oi d hi=>by omega,λi hi=>by omega,λx hx=>(by cases hx)⟩ he
 have hpl:pre.length=min m ops.size:=by rw[←hpre];simp
 have hpg:∀ j,j<m->ops.toList[j]?=pre[j]?:=λj hj=>by rw[←hpre,List.getElem?_take,if_pos hj]
 have hdg:∀ j,(ops.toList.drop m)[j]?=ops.toList[m+j]?:=λj=>List.getElem?_drop
 have hsr:∀(i:Nat) (oi:Oper) (d:Nat),(N5 pre)[i]?=some oi->oi.dst=some d->skA pre i=true->∀ o'∈N5 pre,Operand.tmp d ∉ o'.op.operands:=λi oi d q1 q2 q3 o' ho' hc=>by
  rw[w8]at q1
  unfold skA at q3
  cases e:pre[i]? with
  |none=>rw[e]at q1;cases q1
  |some o0 =>
   rw[e]at q1 q3
   cases q1
   obtain⟨t,d1,z,k1,k2,k3,k4,k5⟩:=hal o0 (List.mem_of_getElem? e) q3
   rw[t8,k3]at q2;cases q2
   obtain⟨j,hj⟩:=List.getElem?_of_mem ho'
   rw[w8]at hj
   cases e2:pre[j]? with
   |none=>rw[e2]at hj;cases hj
   |some o1 =>
    rw[e2]at hj;cases hj
    exact k5 o1 (List.mem_of_getElem? e2) (u0j hc)
 have hsb:∀ i,skA pre i=true->(A i).2.2 = .pu (.val undef):=λi q3=>by
  unfold skA at q3
  cases e:pre[i]? with
  |none=>rw[e]at q3;cases q3
  |some o0 =>
   rw[e]at q3
   obtain⟨t,d1,z,k1,k2,k3,k4,k5⟩:=hal o0 (List.mem_of_getElem? e) q3
   obtain⟨Lj,bj,_,_,_,_,_,hu⟩:=hall i (Z9 o0) (Nat.zero_le _) (by rw[w8,e];rfl)
   refine hu _ ?_
   unfold Z9
   rw[k1]
   rfl
 let Rest:Nat->Act->World->Prop:=λk a w=>∃ st' h' be oe H,doT (A03 P) (ops.toList.drop k) st' h' K/\Sim P h0 w0 be oe H st' h' a w
 let ml:=f0g ops.toList m [m]
 let Dl:Array Bool->Nat->Prop:=λlisted u=>∃(i:Nat) (o:Oper),pre[i]?=some o/\listed.getD i false=false/\o.dst=some u
 let Lat:Array Bool->Act->Act->Prop:=λlisted as a=>∀(i:Nat) (o:Oper) (t:List Nat) (d:Nat),pre[i]?=some o->listed.getD i false=false->N08 o=some t->o.dst=some d->F02 o a.eval=some (as.tmps.getD d undef)
 let Inv:Array Bool->Act->World->Prop:=λlisted a w=>(∀(j:Nat) (o:Oper),ops[j]?=some o->listed.getD j false=true->∀ e∈o.after,Region.binds .any e=true->listed.getD e.on false=true) /\
  (((∀ k,m<=k->listed.getD k false=false)/\x0b P h0 w0 pre st h A listed a w)∨∃ k as,m<k/\k<=ops.size/\(∀ i,i<k->listed.getD i false=true∨(i<m/\i ∉ ml))/\(∀ i,k<=i->listed.getD i false=false)/\Rest k as w/\R0d as a (Dl listed)/\Lat listed as a)
 have lateOf:m<ops.size->∀(i:Nat) (o:Oper),pre[i]?=some o->i ∉ ml->∃ t d,N08 o=some t/\o.dst=some d/\O08 d (ops.toList.drop m)=false/\(∀ x∈t,O08 x (ops.toList.drop m)=false/\x04 ml x pre 0=true)/\K05 i d (ops.toList.drop m)=true:=λhm i o hi hml=>by
  rcases b8 with h|h
  ·exfalso
   have:ops.toList.drop m = []:=by
    cases e:ops.toList.drop m with
    |nil=>rfl
    |cons x r=>rw[e]at h;cases h
   have:=List.drop_eq_nil_iff.1 this
   simp at this;omega
  ·have:=l0a h.1 i o hi
   rw[Nat.zero_add]at this
   rcases this with h1|h1
   ·exact absurd (y0b.1 h1) hml
   ·exact v0l h1
 have noselT:m<ops.size->U0i (ops.toList.drop m)=true:=λhm=>by
  rcases b8 with h|h
  ·exfalso
   have:ops.toList.drop m = []:=by
    cases e:ops.toList.drop m with
    |nil=>rfl
    |cons x r=>rw[e]at h;cases h
   have:=List.drop_eq_nil_iff.1 this
   simp at this;omega
  ·exact h.2
 have preD:∀(i j:Nat) (oi oj:Oper) (d:Nat),pre[i]?=some oi->pre[j]?=some oj->oi.dst=some d->oj.dst=some d->i=j:=λi j oi oj d h1 h2 h3 h4 =>
  hD i j (Z9 oi) (Z9 oj) d (by rw[w8,h1];rfl) (by rw[w8,h2];rfl) (by rw[t8];exact h3) (by rw[t8];exact h4)
 have preN:∀(i:Nat) (o:Oper) (d:Nat),pre[i]?=some o->o.dst=some d->d<st.n:=λi o d h1 h2 =>
  hn (Z9 o) (List.mem_of_getElem? (i:=i) (by rw[w8,h1];rfl)) d (by rw[t8];exact h2)
 have unl:∀ {listed:Array Bool} {j:Nat},listed.getD j true=false->listed.getD j false=false/\j<listed.size:=λ{listed j} hj=>by
  rcases Nat.lt_or_ge j listed.size with h|h
  ·simp[h]at hj ⊢;exact hj
  ·simp[Array.getElem?_eq_none h]at hj
 have allpre:∀ {listed:Array Bool} {a:Act} {w:World},(∀ j,j<pre.length->listed.getD j false=true)->x0b P h0 w0 pre st h A listed a w->Rest m a w:=λ{listed a w} hl hi =>
  R0r (K:=λst h=>doT (A03 P) (ops.toList.drop m) st h K) hD hn hsb hal hP hfin hl hi
 have tail:∀ {Q:Exit->Act->World->Prop} {k:Nat} {o:Oper} {a:Act} {w:World},ops[k]?=some o->Rest k a w->o.wp P a w (Rest (k+1)) Q:=λ{Q k o a w} ho hr=>by
  obtain⟨st',h',be,oe,H,hd,s'⟩:=hr
  have hk:k<ops.toList.length:=by simpa using (Array.getElem?_eq_some_iff.1 ho).1
  have e:ops.toList.drop k=o::ops.toList.drop (k+1):=by
   rw[List.drop_eq_getElem_cons hk]
   congr 1
   have:ops.toList[k]?=some o:=by simpa using ho
   rw[List.getElem?_eq_getElem hk]at this
   exact oJ this
  rw[e]at hd
  exact v0j s' hd
 have virt:m<ops.size->∀ {listed:Array Bool} {a:Act} {w:World},listed.size=ops.size->(∀ i,i<m->i∈ml->listed.getD i false=true)->x0b P h0 w0 pre st h A listed a w ->
   ∀ k,k<=pre.length->∃ l2 as,l2.size=ops.size/\(∀ i,i<k->l2.getD i false=true)/\(∀ i,k<=i->l2.getD i false=listed.getD i false)/\x0b P h0 w0 pre st h A l2 as w /\
    R0d as a (λu=>∃(i:Nat) (o:Oper),i<k/\pre[i]?=some o/\listed.getD i false=false/\o.dst=some u) /\
    ∀(i:Nat) (o:Oper) (t:List Nat) (d:Nat),i<k->pre[i]?=some o->listed.getD i false=false->N08 o=some t->o.dst=some d->F02 o a.eval=some (as.tmps.getD d undef):=by
  intro hmN listed a w hsz hml hA k
  induction k with
  |zero=>exact λ_=>⟨listed,a,hsz,λi hi=>by omega,λi _=>rfl,hA,⟨rfl,rfl,λ_ _=>rfl⟩,λi o t d hi=>by omega⟩
  |succ k ih =>
   intro hk
   obtain⟨l2,as,z1,z2,z3,z4,z5,z6⟩:=ih (by omega)
   cases hlk:listed.getD k false with
   |true =>
    refine⟨l2,as,z1,λi hi=>?_,λi hi=>z3 i (by omega),z4,⟨z5.1,z5.2.1,λu hu=>z5.2.2 u λ⟨i,o,q1,q2⟩=>hu ⟨i,o,by omega,q2⟩⟩,λi o t d hi q1 q2 q3 q4=>?_⟩
    ·by_cases e:i=k
     ·subst e;rw[z3 i (Nat.le_refl _)];exact hlk
     ·exact z2 i (by omega)
    ·have:i≠k:=λe=>by subst e;rw[hlk]at q2;cases q2
     exact z6 i o t d (by omega) q1 q2 q3 q4
   |false =>
    obtain⟨o,ho⟩:∃ o,pre[k]?=some o:=⟨pre[k],List.getElem?_eq_getElem (by omega)⟩
    have hkm:k<m:=by omega
    have hkml:k ∉ ml:=λh=>by rw[hml k hkm h]at hlk;cases hlk
    obtain⟨t,d,y1,y2,y3,y5,y6⟩:=lateOf hmN k o ho hkml
    have hg:=(E03 y1).1
    have hl2k:l2.getD k false=false:=by rw[z3 k (Nat.le_refl _)];exact hlk
    have hks:k<l2.size:=by rw[z1];omega
    have hun2:l2.getD k true=false:=by
     simp[hks]at hl2k ⊢;exact hl2k
    have hoL:ops.toList[k]?=some o:=by rw[hpg k hkm];exact ho
    have st1:=(C0s (Q:=λ_ _ _=>False) hD hn hB hdep hgd hP (λj o ho=>hall j o (Nat.zero_le _) ho) hsr hsb hal hun2 ho (λe he1 he2=>z2 e.on (hBB k o hoL e he1 he2)) z4).1 (by unfold Region.wanted;rw[hg])
    obtain⟨v,v1,v2⟩:=S0r y1 st1
    have hasz:as.tmps.size=st.n:=by
     obtain⟨_,_,_,_,_,_,iu,_,_⟩:=z4
     obtain⟨_,_,_,_,_,s,_⟩:=iu
     exact s.siz
    have htne:∀ x∈t,¬ ∃(i:Nat) (o:Oper),i<k/\pre[i]?=some o/\listed.getD i false=false/\o.dst=some x:=λx hx ⟨i,o',q1,q2,q3,q4⟩=>by
     have:=A05 (y5 x hx).2 i o' q2 q4
     rw[Nat.zero_add]at this
     rw[hml i (by omega) this]at q3;cases q3
    rw[G07 y1 λx hx=>z5.2.2 x (htne x hx)]at v1
    rw[y2]at v2
    refine⟨l2.setIfInBounds k true,as.put (some d) v,by simpa using z1,λi hi=>?_,λi hi=>?_,v2,⟨by simp[Act.put,z5.1],z5.2.1,λu hu=>?_⟩,λi o' t' d' hi q1 q2 q3 q4=>?_⟩
    ·by_cases e:k=i
     ·subst e;simp[hks]
     ·rw[getD_set_ne false e];exact z2 i (by omega)
    ·rw[getD_set_ne false (by omega)];exact z3 i (by omega)
    ·rw[F03,if_neg λe=>hu ⟨k,o,by omega,ho,hlk,by rw[y2,e.1]⟩]
     exact z5.2.2 u λ⟨i,o',q1,q2⟩=>hu ⟨i,o',by omega,q2⟩
    ·rw[F03]
     by_cases e:i=k
     ·subst e
      rw[ho]at q1;cases q1
      rw[y1]at q3;cases q3
      rw[y2]at q4;cases q4
      rw[if_pos ⟨rfl,by rw[hasz];exact preN i o d ho y2⟩]
      exact v1
     ·rw[if_neg λh=>e (preD i k o' o d' q1 ho q4 (by rw[y2,h.1]))]
      exact z6 i o' t' d' (by omega) q1 q2 q3 q4
 refine T0t (Inv:=Inv) hBB (λlisted a w j o hsz hun ho hrd hi=>?_) (λlisted a w hl hi=>?_) ops.size _ a w (by simp) (by simp[List.count_replicate]) ⟨λj o _ h=>?_,.inl ⟨λk _=>?_,x0b.start s⟩⟩
 rotate_left 2
 ·simp[Array.getElem?_replicate]at h
  split at h<;>cases h
 ·simp[Array.getElem?_replicate]
  split<;>simp
 rotate_left 1
 ·rcases hi.2 with⟨hm,hA⟩|⟨k,as,k1,k2,k3,k4,hr,lk,lt⟩
  ·have hms:ops.size<=m:=by
    rcases Nat.lt_or_ge m ops.size with h|h
    ·have:=hm m (Nat.le_refl _)
     rw[hl m h]at this;cases this
    ·exact h
   obtain⟨st',h',be,oe,H,hd,s'⟩:=allpre (λj hj=>hl j (by omega)) hA
   rw[List.drop_eq_nil_of_le (by simpa using hms)]at hd
   exact hQ a w st' h' be oe H hd s'
  ·have hk:k=ops.size:=by
    rcases Nat.lt_or_ge k ops.size with h|h
    ·have:=k4 k (Nat.le_refl _)
     rw[hl k h]at this;cases this
    ·omega
   subst hk
   obtain⟨st',h',be,oe,H,hd,s'⟩:=hr
   rw[List.drop_eq_nil_of_le (by simp)]at hd
   refine hQ a w st' h' be oe H hd (s'.like lk λu ⟨i,o,q1,q2,q3⟩=>?_)
   have:=(List.getElem?_eq_some_iff.1 q1).1
   rw[hl i (by omega)]at q2;cases q2
 ·obtain⟨hcl,hi⟩:=hi
  obtain⟨hjf,hjs⟩:=unl hun
  have hcl':∀(i:Nat) (oi:Oper),ops[i]?=some oi->(listed.setIfInBounds j true).getD i false=true->∀ e∈oi.after,Region.binds .any e=true->(listed.setIfInBounds j true).getD e.on false=true:=λi oi h1 h2 e he1 he2=>by
   by_cases hij:j=i
   ·subst hij
    rw[ho]at h1;cases h1
    exact getD_set_true (hrd e he1 he2)
   ·rw[getD_set_ne false hij]at h2
    exact getD_set_true (hcl i oi h1 h2 e he1 he2)
  have hoL:ops.toList[j]?=some o:=by simpa using ho
  have hjlt:j<ops.size:=(Array.getElem?_eq_some_iff.1 ho).1
  by_cases hjm:j<m
  ·rcases hi with⟨hm,hA⟩|⟨k,as,k1,k2,k3,k4,hr,lk,lt⟩
   ·have hop:pre[j]?=some o:=by rw[←hpg j hjm];exact hoL
    have st1:=C0s (Q:=Q) hD hn hB hdep hgd hP (λj o ho=>hall j o (Nat.zero_le _) ho) hsr hsb hal hun hop hrd hA
    have hyd:Region.wanted o (yielded ops a.tmps)=Region.wanted o (yielded (N5 pre).toArray a.tmps):=by
     unfold Region.wanted
     cases hg:o.guard with
     |none=>rfl
     |some p =>
      obtain⟨i,wv⟩:=p
      obtain⟨e,he1,he2,he3⟩:=J7 (hgd (Z9 o) (List.mem_of_getElem? (i:=j) (by rw[w8,hop];rfl)) i wv (by rw[t0j];exact hg))
      rw[s0j]at he1
      have hlt:=hBB j o hoL e he1 he2
      rw[he3]at hlt
      have hig:=hpg i (by omega)
      have:yielded ops a.tmps i=yielded (N5 pre).toArray a.tmps i:=by
       unfold yielded
       have e1:ops[i]?=pre[i]?:=by rw[←hig];simp
       have e2:(N5 pre).toArray[i]?=(pre[i]?).map Z9:=by simp[w8]
       rw[e1,e2]
       cases pre[i]? with
       |none=>rfl
       |some o0=>simp[t8]
      simp only[this]
    rw[hyd]
    have up:∀ a' w',x0b P h0 w0 pre st h A (listed.setIfInBounds j true) a' w'->Inv (listed.setIfInBounds j true) a' w':=λa' w' hx=>⟨hcl',.inl ⟨λk hk=>by rw[getD_set_ne false (by omega)];exact hm k hk,hx⟩⟩
    exact⟨λhw=>Oper.wp_mono up (st1.1 hw),λhw=>up _ _ (st1.2 hw)⟩
   ·have hop:pre[j]?=some o:=by rw[←hpg j hjm];exact hoL
    have hjml:j ∉ ml:=by
     rcases k3 j (by omega)with h|h
     ·rw[hjf]at h;cases h
     ·exact h.2
    obtain⟨t,d,y1,y2,y3,y5,y6⟩:=lateOf (by omega) j o hop hjml
    have hg:=(E03 y1).1
    refine⟨λ_=>?_,λhw=>by unfold Region.wanted at hw;rw[hg]at hw;cases hw⟩
    unfold Oper.wp
    rw[Q0d y1 (lt j o t d hop hjf y1 y2) w]
    refine⟨hcl',.inr ⟨k,as,k1,k2,λi hi=>?_,λi hi=>?_,hr,⟨by rw[y2];simp[Act.put,lk.1],by rw[y2];exact lk.2.1,λu hu=>?_⟩,λi o' t' d' q1 q2 q3 q4=>?_⟩⟩
    ·rcases k3 i hi with h|h
     ·exact .inl (getD_set_true h)
     ·exact .inr h
    ·rw[getD_set_ne false (by omega)];exact k4 i hi
    ·rw[y2,F03]
     by_cases e:d=u
     ·subst e
      by_cases hlt:d<a.tmps.size
      ·rw[if_pos ⟨rfl,hlt⟩]
      ·rw[if_neg λh=>hlt h.2]
       have e1:∀(x:Act),¬ d<x.tmps.size->x.tmps.getD d undef=undef:=λx hx=>by
        simp[Array.getElem?_eq_none (Nat.le_of_not_lt hx)]
       rw[e1 a hlt,e1 as (by rw[lk.1];exact hlt)]
     ·rw[if_neg λh=>e h.1]
      refine lk.2.2 u λ⟨i,o',q1,q2,q3⟩=>?_
      by_cases e2:j=i
      ·subst e2
       rw[hop]at q1;cases q1
       rw[y2]at q3;cases q3
       exact e rfl
      ·exact hu ⟨i,o',q1,by rw[getD_set_ne false e2];exact q2,q3⟩
    ·have e2:j≠i:=λe2=>by subst e2;simp[hjs]at q2
     rw[getD_set_ne false e2]at q2
     have hi':=(List.getElem?_eq_some_iff.1 q1).1
     have himl:i ∉ ml:=by
      rcases k3 i (by omega)with h|h
      ·rw[q2]at h;cases h
      ·exact h.2
     obtain⟨t2,d2,x1,x2,x3,x5,x6⟩:=lateOf (by omega) i o' q1 himl
     rw[q3]at x1;cases x1
     rw[←lt i o' t' d' q1 q2 q3 q4]
     refine G07 q3 λx hx=>?_
     rw[y2,F03,if_neg λh=>?_]
     have:=A05 (x5 x hx).2 j o hop (by rw[y2,h.1])
     rw[Nat.zero_add]at this
     exact hjml this
  ·have hg:o.guard=none:=sq1 o (List.mem_of_getElem? (i:=j-m) (by rw[hdg];rw[show m+(j-m)=j by omega];exact hoL))
   have prev:m<j->listed.getD (j-1) false=true:=λhlt=>by
    have:=sq2 (j-m-1) o (by rw[hdg];rw[show m+(j-m-1+1)=j by omega];exact hoL)
    obtain⟨e,he1,he2,he3⟩:=J7 this
    have:=hrd e he1 he2
    rw[he3,show m+(j-m-1)=j-1 by omega]at this
    exact this
   refine⟨λ_=>?_,λhw=>by unfold Region.wanted at hw;rw[hg]at hw;cases hw⟩
   have hmt:o∈ops.toList.drop m:=List.mem_of_getElem? (i:=j-m) (by rw[hdg,show m+(j-m)=j by omega];exact hoL)
   have go:∀ as,(∀ i,i<j->listed.getD i false=true∨(i<m/\i ∉ ml))->(∀ i,j<=i->listed.getD i false=false)->Rest j as w->R0d as a (Dl listed)->Lat listed as a->o.wp P a w (Inv (listed.setIfInBounds j true)) Q:=λas q1 q2 hr lk lt=>by
    have hjD:∀ u,Dl (listed.setIfInBounds j true) u↔Dl listed u:=λu=>by
     constructor
     ·rintro⟨i,o',p1,p2,p3⟩
      have:=(List.getElem?_eq_some_iff.1 p1).1
      rw[getD_set_ne false (by omega)]at p2
      exact⟨i,o',p1,p2,p3⟩
     ·rintro⟨i,o',p1,p2,p3⟩
      have:=(List.getElem?_eq_some_iff.1 p1).1
      exact⟨i,o',p1,by rw[getD_set_ne false (by omega)];exact p2,p3⟩
    have lateU:∀(i:Nat) (o':Oper),pre[i]?=some o'->listed.getD i false=false->i ∉ ml:=λi o' p1 p2=>by
     have:=(List.getElem?_eq_some_iff.1 p1).1
     rcases q1 i (by omega)with h|h
     ·rw[p2]at h;cases h
     ·exact h.2
    refine Oper.wp_mono (λa' w' hx=>?_) (T0r (Q:=Q) lk (P0d (noselT (by omega)) o hmt) (λu hu ⟨i,o',p1,p2,p3⟩=>?_) (tail (Q:=λ_ _ _=>False) ho hr))
    ·obtain⟨as',hr',lk',⟨v1,hv1⟩,v2,hv2⟩:=hx
     have e1:∀ u,o.dst≠some u->as'.tmps.getD u undef=as.tmps.getD u undef:=λu hu=>by
      cases hd:o.dst with
      |none =>
       rw[hd]at hv1
       rcases hv1 with h|⟨x,h⟩<;>rw[h]<;>rfl
      |some d =>
       rw[hd]at hv1 hu
       rcases hv1 with h|⟨x,h⟩<;>rw[h,F03,if_neg λh=>hu (by rw[h.1])]
     have e2:∀ u,o.dst≠some u->a'.tmps.getD u undef=a.tmps.getD u undef:=λu hu=>by
      cases hd:o.dst with
      |none =>
       rw[hd]at hv2
       rcases hv2 with h|⟨x,h⟩<;>rw[h]<;>rfl
      |some d =>
       rw[hd]at hv2 hu
       rcases hv2 with h|⟨x,h⟩<;>rw[h,F03,if_neg λh=>hu (by rw[h.1])]
     refine⟨hcl',.inr ⟨j+1,as',by omega,by omega,λi hi=>?_,λi hi=>?_,hr',⟨lk'.1,lk'.2.1,λu hu=>lk'.2.2 u λh=>hu ((hjD u).2 h)⟩,λi o' t d p1 p2 p3 p4=>?_⟩⟩
     ·by_cases e:j=i
      ·subst e;left;simp[hjs]
      ·rw[getD_set_ne false e];exact q1 i (by omega)
     ·rw[getD_set_ne false (by omega)];exact q2 i (by omega)
     ·have hi':=(List.getElem?_eq_some_iff.1 p1).1
      rw[getD_set_ne false (by omega)]at p2
      obtain⟨t2,d2,x1,x2,x3,x5,x6⟩:=lateOf (by omega) i o' p1 (lateU i o' p1 p2)
      rw[p3]at x1;cases x1
      rw[p4]at x2;cases x2
      rw[e1 d (p09 x3 o hmt),G07 p3 λx hx=>e2 x (p09 (x5 x hx).1 o hmt)]
      exact lt i o' t d p1 p2 p3 p4
    ·obtain⟨t2,d2,x1,x2,x3,x5,x6⟩:=lateOf (by omega) i o' p1 (lateU i o' p1 p2)
     rw[p3]at x2;cases x2
     obtain⟨e,he1,he2,he3⟩:=J7 (V08 x6 o hmt hu)
     have:=hrd e he1 he2
     rw[he3,p2]at this;cases this
   rcases hi with⟨hm,hA⟩|⟨k,as,k1,k2,k3,k4,hr,lk,lt⟩
   ·have hjm':j=m:=by
     rcases Nat.lt_or_ge m j with h|h
     ·have:=prev h
      rw[hm (j-1) (by omega)]at this;cases this
     ·omega
    subst hjm'
    have hml:∀ i,i<j->i∈ml->listed.getD i false=true:=λi hi hmi=>by
     have:=o09 (G:=λi=>i=j∨listed.getD i false=true) (ops:=ops.toList) (λi' j' o' hG ho' he'=>?_) j [j] (λx hx => .inl (by simpa using hx)) i hmi
     ·rcases this with h|h
      ·omega
      ·exact h
     ·obtain⟨e,he1,he2,he3⟩:=J7 he'
      rw[←he3]
      right
      rcases hG with rfl|hG
      ·rw[hoL]at ho';cases ho'
       exact hrd e he1 he2
      ·exact hcl j' o' (by simpa using ho') hG e he1 he2
    obtain⟨l2,as,z1,z2,z3,z4,z5,z6⟩:=virt hjlt (by assumption) hml hA pre.length (Nat.le_refl _)
    refine go as (λi hi=>?_) hm (allpre (λi hi=>z2 i hi) z4) ⟨z5.1,z5.2.1,λu hu=>z5.2.2 u λ⟨i,o',p1,p2⟩=>hu ⟨i,o',p2⟩⟩ (λi o' t d p1 p2 p3 p4=>z6 i o' t d (List.getElem?_eq_some_iff.1 p1).1 p1 p2 p3 p4)
    by_cases h:i∈ml
    ·exact .inl (hml i hi h)
    ·exact .inr ⟨hi,h⟩
   ·have hjk:j=k:=by
     have h1:k<=j:=by
      rcases Nat.lt_or_ge j k with h|h
      ·rcases k3 j h with h2|h2
       ·rw[hjf]at h2;cases h2
       ·omega
      ·exact h
     rcases Nat.lt_or_ge k j with h|h
     ·have:=prev (by omega)
      rw[k4 (j-1) (by omega)]at this;cases this
     ·omega
    subst hjk
    exact go as k3 k4 hr lk lt
end
end Go.H
namespace Go.H
set_option linter.unusedVariables false
set_option linter.unusedSimpArgs false
section
variable {P:Program} {h0:Hp} {w0:World} {Q:Exit->Act->World->Prop} {ops:Array Oper} {K:RS->Prop}
theorem w0j{be:Nat->Nat}{oe:Nat->Value}{H:Hp}{rs:RS}{a:Act}{w:World}{o:Oper}{i:Nat}{e:RS->Prop}(s:Sim P h0 w0 be oe H rs.st rs.h a w)(r:B07 ops be oe rs a i)(l:ops[i]?=some o)
  {ch:List (Nat×Bool)} {c:Bool} (g:p00 rs.bs o.guard=some ch) (d:cB rs.bs ch=some c) (j:evG P o ch c rs λav=>r0d o.dst i ch av rs e) :
  ∃ v b,e b/\B07 ops be oe b (a.put o.dst v) (i+1)/\Sim P h0 w0 be oe H b.st b.h (a.put o.dst v) w/\Region.wanted o (yielded ops a.tmps)=c /\
   (c=true->∀ f,CW H w f->o.quietAt P a (CW H w) f v)/\(c=false->v=undef):=by
 obtain⟨av,k,m⟩:=W0n s r d j
 have n:=V0n r g d
 cases c with
 |true =>
  grind[E04]
 |false =>
  obtain⟨b,p,_,q,t⟩:=E04 (v:=undef) s r l d (λh=>by cases h) (λ_=>rfl) k
  grind
theorem n05(d:∀ rs a w be oe H,K rs->Sim P h0 w0 be oe H rs.st rs.h a w->Q .normal a w):∀(l:List Oper) (i:Nat) (rs:RS) (a:Act) (w:World) (be:Nat->Nat) (oe:Nat->Value) (H:Hp),
  (∀ j,l[j]?=ops[i+j]?)->Sim P h0 w0 be oe H rs.st rs.h a w->B07 ops be oe rs a i->r0c P l i rs K->wpList P ops Q l a w
 | [],i,rs,a,w,be,oe,H,_,s,_,b=>d rs a w be oe H b s
 |o::l,i,rs,a,w,be,oe,H,y,s,r,b=>by
  have z:ops[i]?=some o:=by simpa using (y 0).symm
  have q:∀ j,l[j]?=ops[i+1+j]?:=λj=>by have:=y (j+1);grind
  have O:∀ ch c,p00 rs.bs o.guard=some ch->cB rs.bs ch=some c->(evG P o ch c rs λav=>r0d o.dst i ch av rs λrs=>r0c P l (i+1) rs K)->wpList P ops Q (o::l) a w:=by
   intro ch c I G b
   obtain⟨v,n,f,A,k,u,M,t⟩:=w0j s r z I G b
   unfold wpList
   rw[u]
   cases c with
   |false =>
    rw[if_neg (by simp),←t rfl]
    exact n05 d l (i+1) n _ w be oe H q k A f
   |true =>
    rw[if_pos rfl]
    refine .inl (Oper.wp_of_quiet (C:=CW H w) (K:=λp=>p=a.put o.dst v) (V2.refl s.mv.vis) (λp x m e=>?_) ⟨v,M rfl,rfl⟩)
    subst e
    exact n05 d l (i+1) n _ x be oe H q (k.still (hf:=H) (λ_ _ h=>h) m) A f
  simp only[r0c]at b
  split at b
  ·rename_i J R
   have u:Region.wanted o (yielded ops a.tmps)=true:=by unfold Region.wanted;rw[J]
   unfold wpList
   rw[if_pos u]
   refine .inl (Oper.wp_mono (λp x t=>?_) (b00 (Q:=Q) s b))
   obtain⟨av,st',F,v,be',oe',D,L,rfl,s',g,E⟩:=t
   obtain⟨n,f,_,k,N⟩:=E04 (rs := { rs with st:=st',h:=F }) (ch:=[]) (c:=true) (v:=v) s' (r.grow E) z rfl (λ_=>g) (λh=>by cases h) L
   exact n05 d l (i+1) n _ x be' oe' D q N k f
  grind
theorem v0g{be:Nat->Nat}{oe:Nat->Value}{H:Hp}{w:World}(e:∀ rs a w be oe H,K rs->Sim P h0 w0 be oe H rs.st rs.h a w->Q .normal a w):∀(l:List Oper) (i:Nat) (rs:RS) (a:Act),
  (∀ j,l[j]?=ops[i+j]?)->Sim P h0 w0 be oe H rs.st rs.h a w->B07 ops be oe rs a i->evQ P l i rs K->wpQuiet P ops (CW H w) (λg=>∀ d,CW H w d->Q .normal g d) l a
 | [],i,rs,a,_,s,_,b=>λd m=>e rs a d be oe H b (s.still (hf:=H) (λ_ _ h=>h) m)
 |o::l,i,rs,a,f,s,r,b=>by
  have q:ops[i]?=some o:=by simpa using (f 0).symm
  have p:∀ j,l[j]?=ops[i+1+j]?:=λj=>by have:=f (j+1);grind
  simp only[evQ]at b
  split at b
  ·rename_i ch n
   split at b
   ·rename_i c k
    obtain⟨v,C,y,z,A,u,t,D⟩:=w0j s r q n k b
    have x:=v0g e l (i+1) C _ p A z y
    unfold wpQuiet
    rw[u]
    cases c with
    |false=>grind
    |true=>rw[if_pos rfl];exact⟨v,t rfl,x⟩
   ·exact b.elim
  ·exact b.elim
theorem B07.init{be:Nat->Nat}{oe:Nat->Value}{st:St}{h:Hp}{a:Act}:B07 ops be oe ⟨st,h,[],[]⟩ a 0 :=
 ⟨(λx b=>nomatch b),(λx b=>nomatch b),(λd ch av c=>nomatch c)⟩
def S0h(P:Program)(h0:Hp)(w0:World)(Q:Ex->St->Hp->Prop):Exit->Act->World->Prop
 | .normal,a,w=>∃ st h be oe H,Q .normal st h/\Sim P h0 w0 be oe H st h a w
 | .exit i,a,w=>∃ st h be oe H,Q (.exit i) st h/\Sim P h0 w0 be oe H st h a w
 | .ret,a,w=>∃ st h be oe H,Q .ret st h/\Sim P h0 w0 be oe H st h a w
 |_,_,_=>False
variable {be:Nat->Nat} {oe:Nat->Value} {H:Hp} {st:St} {h:Hp} {a:Act} {w:World}
theorem T0h{Q:Ex->St->Hp->Prop}{id:Nat}{d:Bool}(s:Sim P h0 w0 be oe H st h a w)(b:ev P (.region id ops d) Q st h):(Code.region id ops d).wp P (S0h P h0 w0 Q) a w:=by
 cases d with
 |false =>
  simp only[ev]at b
  split at b
  ·exact wp_region_list ((p0j (h0:=h0) (w0:=w0) b.1 b.2 λa w st h be oe H f s=>⟨st,h,be,oe,H,f,s⟩).2 s)
  ·exact wp_region_list (n05 (K:=λrs=>Q .normal rs.st rs.h) (λrs a w be oe H f s=>⟨rs.st,rs.h,be,oe,H,f,s⟩) _ 0 ⟨st,h,[],[]⟩ a w be oe H (λj=>by simp) s B07.init b)
 |true =>
  rcases b with⟨⟨n,l⟩,b⟩|b|b|⟨⟨n,l⟩,b⟩|⟨m,⟨n,l⟩,b⟩
  ·refine wp_region_quiet (C:=CW H w) n l (V2.drawn s.mv.vis _ (by grind)) ?_
   exact v0g (K:=λrs=>Q .normal rs.st rs.h) (λrs a w be oe H f s=>⟨rs.st,rs.h,be,oe,H,f,s⟩) _ 0 ⟨st,h,[],[]⟩ a (λj=>by simp) s B07.init b
  ·exact b.elim
  ·split at b
   ·obtain⟨⟨n,l⟩,b⟩:=b
    exact wp_region_any n (Z0n (s.still (hf:=H) (λ_ _ h=>h) (V2.drawn s.mv.vis _ (by grind))) l b λa w st h be oe H f s=>⟨st,h,be,oe,H,f,s⟩)
   ·rename_i o J
    obtain⟨⟨n,l⟩,b⟩:=b
    simp only[Bool.and_eq_true]at l
    obtain⟨z,G,D⟩:=b0o J
    have s':=s.still (hf:=H) (λ_ _ h=>h) (V2.drawn s.mv.vis (w.drawn+1) (by grind))
    obtain⟨Inv,q,t,u,p⟩:=l0j (ops:=(c01 ops.toList).toArray) (Q:=S0h P h0 w0 Q) (R:=λa w=>o.wp P a w (λa w=>S0h P h0 w0 Q .normal a w) (S0h P h0 w0 Q)) s' (by simpa using l.1) (by simpa using b) λa w st h be oe H f s=>by
     refine Oper.wp_mono (λL N I=>?_) (b00 (Q:=S0h P h0 w0 Q) s f)
     obtain⟨av,st',A,v,be',oe',y,f,rfl,s',g,M⟩:=I
     obtain⟨x,q,t,u,p⟩:=E04 (ops := #[o]) (i:=0) (rs:=⟨st',A,[],[]⟩) (ch:=[]) (c:=true) (v:=v) s' B07.init (by rfl) rfl (λ_=>g) (λh=>by cases h) f
     exact⟨x.st,x.h,be',oe',y,q,p⟩
    exact wp_region_any n (R0t (ops0:=(c01 ops.toList).toArray) (o:=o) (Inv:=Inv) (by simpa using z) (λk o f e F E=>by
     have:=o03 l.2 k o f e F E
     omega) G (λk f=>z05 D k (by simpa using f) (by simp at f;omega)) t u p)
  ·exact wp_region_any n ((p0j (h0:=h0) (w0:=w0) l b λa w st h be oe H f s=>⟨st,h,be,oe,H,f,s⟩).1 (s.still (hf:=H) (λ_ _ h=>h) (V2.drawn s.mv.vis _ (by grind))))
  ·exact wp_region_any n (d0o l b (λa w st h be oe H f s=>⟨st,h,be,oe,H,f,s⟩) (s.still (hf:=H) (λ_ _ h=>h) (V2.drawn s.mv.vis _ (by grind))))
end
end Go.H
namespace Go.H
set_option linter.unusedVariables false
set_option linter.unusedSimpArgs false
theorem G03(x:Nat):∀ l:List Nat,F08 x l=true↔x∈l
 | []=>by simp[F08]
 |y::r=>by
  simp only[F08]
  cases h:Nat.beq x y with
  |true=>simp_all
  |false=>simp[G03 x r,Nat.ne_of_beq_eq_false h]
theorem A06{x:Nat}{l:List Nat}(h:F08 x l=false):x ∉ l:=λa=>by grind[G03]
theorem w0g:∀(l:List Nat) (K:List Nat->Prop),m0b l K=K l
 | [],K=>rfl
 |x::r,K=>by simp only[m0b,w0g r]
theorem m0a:∀(n:Nat) {K:List Value->Prop},W09 n K->∀ vs:List Value,vs.length=n->K vs
 |0,K,h,vs,a=>by rw[List.length_eq_zero_iff.1 a];exact h
 |n+1,K,h,[],a=>by cases a
 |n+1,K,h,v::vs,a=>m0a n (h v) vs (by simpa using a)
theorem n0a:∀(n:Nat) {K:List (List (List Value))->Prop},X09 n K->∀ os:List (List (List Value)),os.length=n->K os
 |0,K,h,vs,a=>by rw[List.length_eq_zero_iff.1 a];exact h
 |n+1,K,h,[],a=>by cases a
 |n+1,K,h,v::vs,a=>n0a n (h v) vs (by simpa using a)
theorem q09{c:Type}:∀(a b:List c) (K:List c->List c->Prop),u07 a.length (a++b) K=K a b
 | [],b,K=>rfl
 |x::a,b,K=>by simp only[List.length_cons,List.cons_append,u07,q09 a b]
theorem z0b(e:St):∀(l:List Nat) {K:List Value->Prop},G0r l e K->∃ vs,vs.length=l.length/\K vs /\
  ∀ acc t,(D3 (n0b l vs acc) t=D3 acc t/\t ∉ l)∨(∃ v,D3 (n0b l vs acc) t = .val v/\rdA e (D3 e.fr t) = .val v)
 | [],K,h=>⟨[],rfl,h,λacc t => .inl ⟨rfl,by simp⟩⟩
 |s::r,K,h=>by
  simp only[G0r]at h
  split at h
  ·rename_i v g
   obtain⟨vs,b,c,d⟩:=z0b e r h
   refine⟨v::vs,by simp[b],c,λacc t=>?_⟩
   rcases d ((s,.val v)::acc) t with⟨a,f⟩|a
   ·by_cases e':s=t
    ·simp_all[n0b,i4,if_true]
    simp_all[n0b,i4,if_neg,Ne.symm]
   ·exact .inr a
  ·exact h.elim
def J04(B:Nat->Nat->Prop):List E5->Prop
 | []=>True
 | .val _::r=>J04 B r
 | .own i k::r=>B i k/\J04 B r
def ShC(e:St):List E5->List E5->Prop
 | [],[]=>True
 | .val _::r,.val _::a=>ShC e r a
 | .own i _::r,.own j c::a=>i=j/\(∃ b,rdA e (.own j c) = .own j b)/\ShC e r a
 |_,_=>False
def EqC(e:St):List E5->List E5->Prop
 | [],[]=>True
 | .val v::r,.val d::a=>v=d/\EqC e r a
 | .own i _::r,.own j c::a=>i=j/\(∃ b,rdA e (.own j c) = .own j b)/\EqC e r a
 |_,_=>False
theorem EqC.sh{e:St}:∀ {cs cs':List E5},EqC e cs cs'->ShC e cs cs'
 | [],[],_=>trivial
 | .val _::r,.val _::a,h=>EqC.sh (cs:=r) (cs':=a) h.2
 | .own i _::r,.own j b::a,h=>⟨h.1,h.2.1,EqC.sh (cs:=r) (cs':=a) h.2.2⟩
 | [],_::_,h=>h.elim
 | .val _::_,[],h=>h.elim
 | .own _ _::_,[],h=>h.elim
 | .val _::_,.own _ _::_,h=>h.elim
 | .own _ _::_,.val _::_,h=>h.elim
theorem o0a{e:St}{i k a b:Nat}(h:rdA e (.own i k) = .own a b):a=i/\b=k:=by
 grind[rdA]
theorem B06{g e:St}:∀(cs cs':List E5),O05 g e cs cs'=true->ShC e cs cs'
 | [],[],_=>trivial
 | .val _::r,.val _::c,h=>B06 r c h
 | .own i _::r,.own j k::c,h=>by
  simp only[O05]at h
  split at h
  ·rename_i a b f d
   obtain⟨rfl,_⟩:=o0a d
   exact⟨Nat.eq_of_beq_eq_true f,⟨_,d⟩,B06 r c h⟩
  ·cases h
 | [],_::_,h=>by cases h
 | .val _::_,[],h=>by cases h
 | .own _ _::_,[],h=>by cases h
 | .val _::_,.own _ _::_,h=>by cases h
 | .own _ _::_,.val _::_,h=>by cases h
theorem A0b(e:St):∀(cs cs':List E5),ShC e cs cs'->∀ {K:List Value->Prop},X0i cs' e K->∃ vs,K vs/\∃ a,(∀(f:List Value) (c:List E5->List Value->Prop),v03 cs (vs++f) c=c a f)/\EqC e a cs' /\
  (∀ B,J04 B cs->J04 B a)
 | [],[],_,K,h=>⟨[],h,[],λ_ _=>rfl,trivial,λ_ h=>h⟩
 | .val _::r,.val v::n,b,K,h=>by
  obtain⟨vs,g,a,o,l,m⟩:=A0b e r n b (K:=λvs=>K (v::vs)) h
  exact⟨v::vs,g,.val v::a,λf c=>by grind[v03],⟨rfl,l⟩,λB d=>m B d⟩
 | .own i k::r,.own j p::n,b,K,h=>by
  obtain⟨vs,g,a,o,l,m⟩:=A0b e r n b.2.2 (K:=K) h
  exact⟨vs,g,.own i k::a,λf c=>by simp only[v03,o],⟨b.1,b.2.1,l⟩,λB d=>⟨d.1,m B d.2⟩⟩
 | [],_::_,h,_,_=>h.elim
 | .val _::_,[],h,_,_=>h.elim
 | .own _ _::_,[],h,_,_=>h.elim
 | .val _::_,.own _ _::_,h,_,_=>h.elim
 | .own _ _::_,.val _::_,h,_,_=>h.elim
theorem B0b(e:St):∀(cs:List E5) {K:List Value->Prop},X0i cs e K->∃ vs,K vs/\∀(b:List Value) (a:List E5->List Value->Prop),v03 cs (vs++b) a=a cs b
 | [],K,h=>⟨[],h,λ_ _=>rfl⟩
 | .val v::r,K,h=>by
  obtain⟨vs,c,d⟩:=B0b e r (K:=λvs=>K (v::vs)) h
  grind[v03]
 | .own i k::r,K,h=>by
  obtain⟨vs,c,d⟩:=B0b e r (K:=K) h
  grind[v03]
theorem x0g{a:Type}(l:List a)(i:Nat)(x:a)(h:nth l i=some x):G00 l i x=l:=by
 grind[y04,List.getElem?_eq_some_iff,Z09,List.set_getElem_self]
theorem x0m(e:St):∀(is:List Nat) {K:List Value->Prop},z0d is e K->∃ a,K a/\∀ b,L05 is a e.bx b=b e.bx
 | [],K,h=>⟨[],h,λ_=>rfl⟩
 |i::r,K,h=>by
  simp only[z0d]at h
  split at h
  ·rename_i cs ty j
   obtain⟨vs,c,d⟩:=B0b e cs h
   obtain⟨a,f,g⟩:=x0m e r c
   grind[L05,x0g]
  ·exact h.elim
theorem y0m(e:St):∀(is:List Nat) {K:List (List (List Value))->Prop},g0g is e K->∃ os,os.length=is.length/\K os/\∀ a,M05 is os e.ow a=a e.ow
 | [],K,h=>⟨[],rfl,h,λ_=>rfl⟩
 |i::r,K,h=>by
  simp only[g0g]at h
  split at h
  ·rename_i s ty sz by_ nn xs f
   obtain⟨g,b,c,d⟩:=y0m e r h
   grind[M05,x0g]
  ·exact h.elim
theorem z0m(e:St):∀(is:List Nat) (bx:List BSt),(∀ i∈is,∃ cs ty cs',nth bx i=some (.live cs ty)/\nth e.bx i=some (.live cs' ty)/\ShC e cs cs')->∀ {K:List Value->Prop},z0d is e K ->
  ∃ d,K d/\∃ b,(∀ f,L05 is d bx f=f b)/\b.length=bx.length/\(∀ i,i ∉ is->nth b i=nth bx i) /\
   (∀ i∈is,∃ c ty cs',nth b i=some (.live c ty)/\nth e.bx i=some (.live cs' ty)/\EqC e c cs') /\
   (∀ B,(∀ i cs ty,nth bx i=some (.live cs ty)->J04 B cs)->(∀ i cs ty,nth b i=some (.live cs ty)->J04 B cs))
 | [],bx,_,K,h=>⟨[],h,bx,λ_=>rfl,rfl,λ_ _=>rfl,by simp,λ_ h=>h⟩
 |i::r,bx,t,K,h=>by
  obtain⟨cs,ty,cs',q,g,s⟩:=t i mS
  simp only[z0d,g]at h
  obtain⟨vs,v,c,D,n,E⟩:=A0b e cs cs' s h
  have k:=J01 q
  have u:∀ j∈r,∃ l p m,nth (G00 bx i (.live c ty)) j=some (.live l p)/\nth e.bx j=some (.live m p)/\ShC e l m:=λj a=>by
   rw[t7 _ _ _ k]
   by_cases ej:j=i
   ·subst ej
    rw[if_pos rfl]
    exact⟨c,ty,cs',rfl,g,n.sh⟩
   grind
  obtain⟨d,w,b,F,x,o,y,z⟩:=z0m e r _ u v
  refine⟨vs++d,w,b,λf=>by grind[L05],by rw[x,e05],λj a=>?_,λj a=>?_,λB C=>z B λj A G a=>?_⟩
  ·simp only[List.mem_cons,not_or]at a
   rw[o j a.2,t7 _ _ _ k,if_neg a.1]
  ·by_cases hr:j∈r
   ·exact y j hr
   ·rcases List.mem_cons.1 a with rfl|a
    ·refine⟨c,ty,cs',?_,g,n⟩
     rw[o j hr,t7 _ _ _ k,if_pos rfl]
    ·exact absurd a hr
  grind[t7]
theorem A0m(d:St):∀(is:List Nat) (ow:List Own),(∀ i∈is,∃ s e sz by_ nn f s' a xs,nth ow i=some ⟨s,.live e sz by_ nn f⟩/\nth d.ow i=some ⟨s',.live e sz by_ a xs⟩/\(nn=true->a=true)) ->
  ∀ {K:List (List (List Value))->Prop},g0g is d K->∃ os,os.length=is.length/\K os/\∃ c,(∀ g,M05 is os ow g=g c)/\(∀ i,i ∉ is->nth c i=nth ow i) /\
   (∀ i∈is,∃ s e sz by_ nn s' a xs,nth c i=some ⟨s,.live e sz by_ nn xs⟩/\nth d.ow i=some ⟨s',.live e sz by_ a xs⟩/\(nn=true->a=true)) /\
   (∀ i,(nth c i).map (·.stamp)=(nth ow i).map (·.stamp))
 | [],ow,_,K,h=>⟨[],rfl,h,ow,λ_=>rfl,λ_ _=>rfl,by simp,λ_=>rfl⟩
 |i::r,ow,v,K,h=>by
  obtain⟨s,e,sz,by_,nn,f,s',a,xs,n,o,u⟩:=v i mS
  simp only[g0g,o]at h
  have k:=J01 n
  have w:∀ j∈r,∃ C m t l q f s' a D,nth (G00 ow i ⟨s,.live e sz by_ nn xs⟩) j=some ⟨C,.live m t l q f⟩/\nth d.ow j=some ⟨s',.live m t l a D⟩/\(q=true->a=true):=λj b=>by
   rw[t7 _ _ _ k]
   grind
  obtain⟨os,x,y,c,z,p,A,E⟩:=A0m d r _ w h
  refine⟨xs::os,by simp[x],y,c,λg=>by simp only[M05,n,z],λj b=>?_,λj b=>?_,λj=>?_⟩
  ·simp only[List.mem_cons,not_or]at b
   rw[p j b.2,t7 _ _ _ k,if_neg b.1]
  ·by_cases hr:j∈r
   ·exact A j hr
   ·rcases List.mem_cons.1 b with rfl|b
    ·refine⟨s,e,sz,by_,nn,s',a,xs,?_,o,u⟩
     rw[p j hr,t7 _ _ _ k,if_pos rfl]
    ·exact absurd b hr
  grind[t7]
theorem H07{A:Ann}{m e:St}:∀(i:Nat) (bx c:List BSt),o0b A m e i bx c->∀ k b,nth bx k=some b ->
  (i+k∈A.boxes/\∃ cs ty cs',b = .live cs ty/\nth c k=some (.live cs' ty)/\ShC e cs cs')∨(i+k ∉ A.boxes/\nth c k=some b/\p0l A.owns b=true)
 |i,[],_,_,k,b,a=>by cases k<;>cases a
 |i,x::r,[],h,_,_,_=>by cases h
 |i,x::r,y::f,h,k,b,a=>by
  simp only[o0b]at h
  split at h
  ·rename_i d
   split at h
   ·rename_i cs ty cs' n
    split at h
    ·rename_i g j
     have:=Nat.eq_of_beq_eq_true g
     subst this
     cases k with
     |zero=>cases a;exact .inl ⟨(G03 _ _).1 d,cs,ty,cs',rfl,rfl,B06 _ _ j⟩
     |succ k=>have:=H07 (i+1) r f h k b a;rwa [show i+1+k=i+(k+1) from by omega]at this
    ·exact h.elim
   ·exact h.elim
  ·rename_i d
   split at h
   ·rename_i l
    obtain⟨rfl,h⟩:=h
    cases k with
    |zero=>cases a;exact .inr ⟨A06 d,rfl,l⟩
    |succ k=>have:=H07 (i+1) r f h k b a;rwa [show i+1+k=i+(k+1) from by omega]at this
   ·exact h.elim
theorem I07{A:Ann}:∀(i:Nat) (ow f:List Own),p0b A i ow f->∀ k b,nth ow k=some b ->
  (i+k∈A.owns/\∃ s e sz by_ nn l s' d xs,b=⟨s,.live e sz by_ nn l⟩/\nth f k=some ⟨s',.live e sz by_ d xs⟩/\(nn=true->d=true)/\(i+k∈A.kept->s=s'))∨(i+k ∉ A.owns/\nth f k=some b)
 |i,[],_,_,k,b,a=>by cases k<;>cases a
 |i,x::r,[],h,_,_,_=>by cases h
 |i,x::r,y::j,h,k,b,a=>by
  simp only[p0b]at h
  split at h
  ·rename_i c
   split at h
   ·rename_i s e sz by_ nn l s' t u q d xs
    split at h
    ·rename_i m n o p g
     have:=Nat.eq_of_beq_eq_true m
     subst this
     have:=Nat.eq_of_beq_eq_true n
     subst this
     have:=Nat.eq_of_beq_eq_true o
     subst this
     cases k with
     |zero=>cases a;exact .inl ⟨(G03 _ _).1 c,_,_,_,_,_,_,_,_,_,rfl,rfl,(λh=>by subst h;exact p),λh=>by rw[show F08 i A.kept=true from(G03 _ _).2 h]at g;exact Nat.eq_of_beq_eq_true g⟩
     |succ k=>have:=I07 (i+1) r j h k b a;rwa [show i+1+k=i+(k+1) from by omega]at this
    ·exact h.elim
   ·exact h.elim
  ·rename_i c
   obtain⟨rfl,h⟩:=h
   cases k with
   |zero=>cases a;exact .inr ⟨A06 c,rfl⟩
   |succ k=>have:=I07 (i+1) r j h k b a;rwa [show i+1+k=i+(k+1) from by omega]at this
end Go.H
namespace Go.H
set_option linter.unusedVariables false
set_option linter.unusedSimpArgs false
def p0a(A:Ann)(st:St):AV->Prop
 | .val _ | .hel _ _ _ _ | .dead=>True
 | .agg cs=>p0m cs=true
 | .box i _=>i<st.bx.length
 | .own i k=>(i ∉ A.owns∨i∈A.kept)/\stamp st i=some k
 | .oel _ _ _ _ _=>False
theorem B0m{st:St}{av:AV}{i off:Nat}(h:rdA st av = .box i off):i<st.bx.length:=by
 cases av with
 |box j o =>
  simp only[rdA]at h
  split at h
  all_goals simp_all[J01]
 |own j k =>
  grind[rdA]
 |oel j s idx sz k =>
  grind[rdA]
 |_=>cases h
theorem C0b{st:St}{av:AV}{i k:Nat}(h:rdA st av = .own i k):stamp st i=some k:=by
 grind[p06,stamp]
theorem r09(A:Ann)(ds:List Nat)(st:St):∀(l:List (Nat×AV)) {K:List (Nat×AV)->Prop},N05 A ds st l K->∃ a,K a/\∀ t,t ∉ ds ->
  D3 a t = .dead∨(D3 a t=rdA st (D3 l t)/\p0a A st (D3 a t))
 | [],K,h=>⟨[],h,λt _ => .inl rfl⟩
 |(s,av)::r,K,h=>by
  have put:∀ f,(f = .dead∨(f=rdA st av/\p0a A st f))->(N05 A (s::ds) st r λl=>K ((s,f)::l))->∃ a,K a/\∀ t,t ∉ ds ->
    D3 a t = .dead∨(D3 a t=rdA st (D3 ((s,av)::r) t)/\p0a A st (D3 a t)):=by
   intro f p h
   obtain⟨a,c,d⟩:=r09 A (s::ds) st r h
   refine⟨_,c,λt j=>?_⟩
   rw[i4,i4]
   by_cases e:s=t
   ·rw[if_pos e,if_pos e];exact p
   ·rw[if_neg e,if_neg e];exact d t λg=>by
     rcases List.mem_cons.1 g with k|k
     ·exact e k.symm
     ·exact j k
  simp only[N05]at h
  split at h
  ·rename_i g
   obtain⟨a,c,d⟩:=r09 A ds st r h
   refine⟨a,c,λt j=>?_⟩
   rw[i4,if_neg (λe=>j (by rw[←e];exact(G03 _ _).1 g))]
   exact d t j
  ·split at h
   ·rename_i i k b
    split at h
    ·exact put _ (.inl rfl) h
    ·rename_i g
     refine put _ (.inr ⟨b.symm,?_,C0b b⟩) h
     cases c:F08 i A.owns with
     |false=>exact .inl (A06 c)
     |true =>
      cases d:F08 i A.kept with
      |true=>exact .inr ((G03 _ _).1 d)
      |false=>exact absurd d (g c)
   ·exact put _ (.inl rfl) h
   ·rename_i cs b
    split at h
    ·rename_i q
     exact put _ (.inr ⟨b.symm,q⟩) h
    ·exact put _ (.inl rfl) h
   ·rename_i c d n
    refine put _ (.inr ⟨rfl,?_⟩) h
    cases b:rdA st av with
    |own i k=>exact absurd b (c i k)
    |oel i m idx sz k=>exact absurd b (d i m idx sz k)
    |agg cs=>exact absurd b (n cs)
    |box i o=>exact B0m b
    |val v=>trivial
    |hel m idx sz k=>trivial
    |dead=>trivial
def x0j(st:St)(t:Nat)(av:AV):Prop :=
 av = .dead∨(∃ i k,av = .own i k/\stamp st i=some k/\rdA st (D3 st.fr t) = .own i k)∨(∃ i o,av = .box i o/\i<st.bx.length/\rdA st (D3 st.fr t) = .box i o)
theorem s09(A:Ann)(st:St):∀(l:List Nat) (acc:List (Nat×AV)) {K:List (Nat×AV)->Prop},P08 A st l acc K->(∀ p∈acc,x0j st p.1 p.2) ->
  ∃ a,K a/\(∀ p∈a,p.1∈l∨p∈acc)/\(∀ p∈a,x0j st p.1 p.2)/\(∀ t∈l,t ∉ A.vars->∃ av,(t,av)∈a)/\(∀ p∈acc,p∈a)
 | [],acc,K,h,e=>⟨acc,h,λp c => .inr c,e,by simp,λ_ h=>h⟩
 |s::r,acc,K,h,e=>by
  have put:∀ d,x0j st s d->P08 A st r ((s,d)::acc) K->∃ a,K a/\(∀ p∈a,p.1∈s::r∨p∈acc)/\(∀ p∈a,x0j st p.1 p.2)/\(∀ t∈s::r,t ∉ A.vars->∃ av,(t,av)∈a)/\(∀ p∈acc,p∈a):=by
   intro d q h
   obtain⟨a,f,g,j,n,m⟩:=s09 A st r _ h (λp c=>by
    grind)
   grind
  simp only[P08]at h
  split at h
  ·rename_i u
   obtain⟨a,f,g,j,n,m⟩:=s09 A st r _ h e
   refine⟨a,f,λp c=>(g p c).imp (mC _) id,j,λt v w=>?_,m⟩
   grind[absurd,G03]
  ·split at h
   ·rename_i i k b
    exact put _ (.inr (.inl ⟨i,k,rfl,C0b b,b⟩)) h
   ·rename_i i o b
    exact put _ (.inr (.inr ⟨i,o,rfl,B0m b,b⟩)) h
   ·exact put _ (.inl rfl) h
theorem T0d:∀(b a:List (Nat×AV)) (t:Nat),(∃ av,(t,av)∈b/\D3 (b++a) t=av)∨((∀ av,(t,av) ∉ b)/\D3 (b++a) t=D3 a t)
 | [],a,t => .inr ⟨by simp,rfl⟩
 |(s,av)::r,a,t=>by
  simp only[List.cons_append]
  rw[i4]
  by_cases e:s=t
  ·grind
  ·rw[if_neg e]
   rcases T0d r a t with⟨f,c,d⟩|⟨c,d⟩
   all_goals grind
theorem U0d{c e:St}:∀(b:List (Nat×AV)),u0c c e b=true->∀ t av,(t,av)∈b->(∀ i k,av = .own i k->∃ a,rdA e (D3 e.fr t) = .own i a)/\(∀ i o,av = .box i o->rdA e (D3 e.fr t) = .box i o)
 | [],_,t,av,h=>by cases h
 |(s,x)::r,d,t,av,h=>by
  have key:u0c c e r=true/\(∀ i k,x = .own i k->∃ a,rdA e (D3 e.fr s) = .own i a)/\(∀ i o,x = .box i o->rdA e (D3 e.fr s) = .box i o):=by
   simp only[u0c]at d
   grind[Nat.eq_of_beq_eq_true,absurd]
  rcases List.mem_cons.1 h with h|h
  ·cases h;exact key.2
  ·exact U0d r key.1 t av h
theorem t09{fr:List (Nat×AV)}:∀(a:List (Nat×AV)),i0g fr a=P0n a->∀ t,D3 a t = .dead∨D3 fr t=D3 a t
 | [],_,t => .inl rfl
 |(s,av)::r,h,t=>by
  rw[i4]
  simp only[i0g,P0n]at h
  cases hd:o0l av with
  |true =>
   rw[hd]at h
   by_cases e:s=t
   ·rw[if_pos e]
    left
    cases av<;>first|rfl|cases hd
   ·rw[if_neg e]
    exact t09 r h t
  |false =>
   rw[hd]at h
   simp only[List.cons.injEq]at h
   by_cases e:s=t
   ·grind
   ·rw[if_neg e]
    exact t09 r h.2 t
theorem D0b{e f:St}{be:Nat->Nat}{oe:Nat->Value}:∀ {c cs':List E5} {vs:List Value},EqC e c cs'->J04 (λj k=>∃ s,stamp f j=some s/\k<=s) c->D2 e oe cs' vs->D2 f oe c vs
 | [],[],[],_,_,_=>trivial
 | .val v::r,.val p::n,x::vs,h,a,g=>⟨by rw[show x=p from g.1,h.1];rfl,D0b (be:=be) h.2 a g.2⟩
 | .own i k::r,.own j q::n,x::vs,h,a,g=>by
  obtain⟨m,⟨b,d⟩,h⟩:=h
  subst m
  obtain⟨⟨s,s1,s2⟩,a⟩:=a
  refine⟨⟨s,s1,s2,λ_=>?_⟩,D0b (be:=be) h a g.2⟩
  obtain⟨_,l⟩:=o0a d
  subst l
  obtain⟨s',o,t,u⟩:=g.1
  rw[C0b d]at o
  grind
 | [],_::_,_,h,_,_=>h.elim
 | .val _::_,[],_,h,_,_=>h.elim
 | .own _ _::_,[],_,h,_,_=>h.elim
 | .val _::_,.own _ _::_,_,h,_,_=>h.elim
 | .own _ _::_,.val _::_,_,h,_,_=>h.elim
 |_,_::_,[],_,_,g=>g.elim
 |_,[],_::_,_,_,g=>g.elim
theorem C06{os:List Nat}{e b:St}{oe:Nat->Value}(c:∀ j,j ∉ os->∀ s,stamp b j=some s->stamp e j=some s):∀ {cs:List E5} {vs:List Value},V09 os cs=true ->
  J04 (λj k=>∃ s,stamp b j=some s/\k<=s) cs->D2 e oe cs vs->D2 b oe cs vs
 | [],[],_,_,_=>trivial
 | .val v::r,x::vs,h,a,g=>⟨g.1,C06 c h a g.2⟩
 | .own i k::r,x::vs,h,a,g=>by
  simp only[V09]at h
  split at h
  ·cases h
  ·rename_i f
   obtain⟨⟨s,s1,s2⟩,a⟩:=a
   refine⟨⟨s,s1,s2,λd=>?_⟩,C06 c h a g.2⟩
   obtain⟨s',l,m,n⟩:=g.1
   grind[A06]
 | [],_::_,_,_,g=>g.elim
 |_::_,[],_,_,g=>g.elim
section
variable {P:Program} {h0:Hp} {w0:World} {be:Nat->Nat} {oe:Nat->Value} {H:Hp} {h:Hp} {a:Act} {w:World}
theorem C0p{A:Ann}{e f:St}(s:Sim P h0 w0 be oe H e h a w)(N:e.n=f.n)
  (I:∀ i b,nth f.bx i=some b->(∃ C ty cs',b = .live C ty/\nth e.bx i=some (.live cs' ty)/\EqC e C cs')∨(nth e.bx i=some b/\p0l A.owns b=true))
  (O:∀ i o,nth f.ow i=some o->(∃ s t sz by_ nn s' p xs,o=⟨s,.live t sz by_ nn xs⟩/\nth e.ow i=some ⟨s',.live t sz by_ p xs⟩/\(nn=true->p=true))/\i∈A.owns∨(nth e.ow i=some o/\i ∉ A.owns))
  (G:∀ i cs ty,nth f.bx i=some (.live cs ty)->J04 (λj k=>∃ s,stamp f j=some s/\k<=s) cs)
  (hf:∀ t,I2 f be oe (D3 f.fr t) (a.tmps.getD t undef)):Sim P h0 w0 be oe H f h a w:=by
 have Q:∀ j,j ∉ A.owns->∀ s,stamp f j=some s->stamp e j=some s:=λj q l Z=>by
  grind[stamp,nth,absurd]
 have E:∀ i cs ty,nth f.bx i=some (.live cs ty)->∃ cs',nth e.bx i=some (.live cs' ty):=λi cs ty d=>by
  grind
 have D:∀ i l t sz by_ nn xs,nth f.ow i=some ⟨l,.live t sz by_ nn xs⟩->∃ s' p,nth e.ow i=some ⟨s',.live t sz by_ p xs⟩/\(nn=true->p=true):=λi l t sz by_ nn xs d=>by
  grind
 refine⟨s.mv,s.sub,λi cs ty d=>?_,λi b d=>?_,λi l t sz by_ nn xs d=>?_,λi l v d=>?_,λi j cs ty cs' U d q=>?_,λi j l t sz by_ nn xs s1 T S L R W g d q=>?_,λi cs ty j l t sz by_ nn xs d q=>?_,s.dfr,by rw[s.siz,N],hf⟩
 ·rcases I i _ d with⟨C,V,cs',x,c,m⟩|⟨c,m⟩
  ·cases x
   obtain⟨y,vs,z,F⟩:=s.box i cs' ty c
   exact⟨y,vs,D0b (be:=be) m (G i _ _ d) z,F⟩
  ·obtain⟨y,vs,z,F⟩:=s.box i cs ty c
   exact⟨y,vs,C06 Q m (G i _ _ d) z,F⟩
 ·rcases I i _ d with⟨C,V,cs',x,c,m⟩|⟨c,m⟩
  ·cases x
  ·exact s.pub i b c
 ·obtain⟨s',p,c,m⟩:=D i _ _ _ _ _ _ d
  obtain⟨y,z⟩:=s.own i _ _ _ _ _ _ c
  refine⟨y,z.imp (λ⟨J,K,X⟩=>⟨J,K,?_⟩) id⟩
  grind
 ·rcases O i _ d with⟨⟨s1,T,S,L,R,s',p,W,x,c,m⟩,_⟩|⟨c,_⟩
  ·cases x
  ·exact s.frz i l v c
 ·obtain⟨M,u⟩:=E i cs ty d
  obtain⟨Y,c⟩:=E j cs' U q
  exact s.bb i j _ _ _ _ u c
 ·obtain⟨_,_,u,_⟩:=D i _ _ _ _ _ _ d
  obtain⟨_,_,c,_⟩:=D j _ _ _ _ _ _ q
  exact s.oo i j _ _ _ _ _ _ _ _ _ _ _ _ g u c
 ·obtain⟨M,u⟩:=E i cs ty d
  obtain⟨_,_,c,_⟩:=D j _ _ _ _ _ _ q
  exact s.bo i _ _ j _ _ _ _ _ _ u c
end
end Go.H
namespace Go.H
set_option linter.unusedVariables false
set_option linter.unusedSimpArgs false
section
variable {P:Program} {h0:Hp} {w0:World} {be:Nat->Nat} {oe:Nat->Value} {H:Hp} {st:St} {h:Hp} {a:Act} {w:World}
theorem D0p(s:Sim P h0 w0 be oe H st h a w):∀ i cs ty,nth st.bx i=some (.live cs ty)->J04 (λj k=>∃ s,stamp st j=some s/\k<=s) cs:=by
 intro i cs ty f
 obtain⟨_,vs,g,_⟩:=s.box i cs ty f
 have:∀(cs:List E5) (vs:List Value),D2 st oe cs vs->J04 (λj k=>∃ s,stamp st j=some s/\k<=s) cs:=by
  intro cs
  induction cs with
  |nil=>intro vs _;trivial
  |cons c r b =>
   intro vs g
   cases vs with
   |nil=>exact g.elim
   |cons v vs =>
    cases c with
    |val x=>exact b vs g.2
    |own j k =>
     obtain⟨s',d,e,_⟩:=g.1
     exact⟨⟨s',d,e⟩,b vs g.2⟩
 exact this cs vs g
theorem y0j(p:Nat->Prop)(h:∃ n,p n):∃ n,p n/\∀ m,p m->n<=m:=by
 obtain⟨n,a⟩:=h
 induction n using Nat.strongRecOn with
 |_ n b =>
  grind
theorem C0m:∀(a b:List Value),H0r a b=true->a.length=b.length
 | [],[],_=>rfl
 |_::r,_::c,h=>by simp[C0m r c h]
 | [],_::_,h=>by cases h
 |_::_,[],h=>by cases h
theorem j0t{A:Ann}{ds:List Nat}{st e m:St}{f l:List (Nat×AV)}{z:List Value}{av1:∀ t,(D3 (n0b A.vars z (f++l)) t=D3 (f++l) t/\t ∉ A.vars)∨(∃ v,D3 (n0b A.vars z (f++l)) t = .val v/\rdA e (D3 e.fr t) = .val v)}
  (s:Sim P h0 w0 be oe H e h a w) (Q:m.fr=n0b A.vars z (f++l)) (E:m.bx.length=st.bx.length) (F:∀ i,stamp m i=stamp st i)
  (ae:∀ i k,(i ∉ A.owns∨i∈A.kept)->stamp st i=some k->stamp e i=stamp m i)
  (ab:∀ p∈f,p.1∈ds) (L:∀ p∈f,x0j st p.1 p.2) (ac:∀ t∈ds,t ∉ A.vars->∃ av,(t,av)∈f)
  (s1:∀ t,t ∉ ds->p0a A st (D3 l t)) (T:∀ t av,(t,av)∈f->(∀ i k,av = .own i k->∃ I,rdA e (D3 e.fr t) = .own i I)/\(∀ i o,av = .box i o->rdA e (D3 e.fr t) = .box i o))
  (U:∀ t,D3 l t = .dead∨D3 e.fr t=D3 l t):∀ t,I2 m be oe (D3 m.fr t) (a.tmps.getD t undef):=by
 intro t
 rw[Q]
 have b:=s.fr t
 have n:=s.rdA b
 rcases av1 t with⟨q,ag⟩|⟨v,q,M⟩
 ·rw[q]
  rcases T0d f l t with⟨av,u,y⟩|⟨u,y⟩
  ·rw[y]
   obtain⟨X,Y⟩:=T t av u
   rcases L _ u with rfl|⟨i,k,rfl,d,_⟩|⟨i,o,rfl,N,_⟩
   ·trivial
   ·obtain⟨I,D⟩:=X i k rfl
    rw[D]at n
    refine⟨k,by rw[F,d],Nat.le_refl _,λ_=>?_⟩
    obtain⟨C,aj,aa,ai,ak,R⟩:=p06 D
    exact n.own_cur R
   ·rw[Y i o rfl]at n
    exact⟨by rw[E];exact N,n.2⟩
  ·rw[y]
   have V:t ∉ ds:=λad=>by
    grind
   rcases U t with O|C
   ·rw[O];trivial
   have d:=s1 t V
   rw[C]at b
   cases hl:D3 l t with
   |val v=>rw[hl]at b;exact b
   |hel Z idx sz k=>rw[hl]at b;exact b
   |dead=>trivial
   |agg cs =>
    rw[hl]at b d
    obtain⟨vs,J,K⟩:=b
    refine⟨vs,J,?_⟩
    have:∀(cs:List E5) (vs:List Value),p0m cs=true->D2 e oe cs vs->D2 m oe cs vs:=by
     intro cs
     induction cs with
     |nil=>intro vs _ g;cases vs<;>exact g
     |cons c r W =>
      intro vs G g
      cases vs with
      |nil=>exact g.elim
      |cons v vs =>
       cases c with
       |val x=>exact⟨g.1,W vs G g.2⟩
       |own j k=>cases G
    exact this cs vs d K
   |box i o =>
    rw[hl]at b d
    exact⟨by rw[E];exact d,b.2⟩
   |own i k =>
    rw[hl]at b d
    obtain⟨af,S⟩:=d
    obtain⟨s',J,K,ah⟩:=b
    refine⟨k,by rw[F,S],Nat.le_refl _,λ_=>?_⟩
    grind
   |oel i Z idx sz k=>rw[hl]at d;exact d.elim
 ·rw[q]
  rw[M]at n
  exact n
theorem C0c:∀(l:List (Nat×Nat×Nat×Nat)) (st:St) (oe:Nat->Value) {K:St->Prop},Sim P h0 w0 be oe H st h a w->V0i l st K->∃ st' oe',K st'/\Sim P h0 w0 be oe' H st' h a w
 | [],st,oe,K,s,c=>⟨st,oe,c,s⟩
 |(t,e,sz,by_)::r,⟨n,fr,bx,ow⟩,oe,K,s,c=>by
  simp only[V0i]at c
  split at c
  ·rename_i i m
   rw[Q09]at c
   have d:=s.rdA (s.fr t)
   have j:a.tmps.getD t undef = .slice none 0 0:=by
    have:rdA ⟨n,fr,bx,ow⟩ (D3 fr t) = .val (.slice none 0 0):=i
    rw[show rdA ⟨n,fr,bx,ow⟩ (D3 (St.mk n fr bx ow).fr t) = .val (.slice none 0 0) from this]at d
    exact d
   have f:P05 h H (.slice none 0 0) e sz false []:=⟨by simp,.inl ⟨rfl,rfl,rfl⟩⟩
   obtain⟨s1,k⟩:=s.newOwn (by_:=by_) (λb o g=>g) (V2.refl s.mv.vis) f (by simp[Value.ownBlock])
   refine C0c r _ _ (s1.refr (fr:=(t,.own ow.length 0)::fr) λu=>?_) c
   rw[i4]
   by_cases eu:t=u
   ·subst eu
    rw[if_pos rfl,j]
    exact⟨0,by simp[stamp,l02],Nat.le_refl _,λ_=>by simp⟩
   ·rw[if_neg eu]
    exact s1.fr u
  ·exact c.elim
theorem q0a:∀(l:List (Nat×Nat×Nat×Nat×Nat)) (st:St) (oe:Nat->Value) {K:St->Prop},Sim P h0 w0 be oe H st h a w->y0d l st K->∃ st' oe',K st'/\Sim P h0 w0 be oe' H st' h a w
 | [],st,oe,K,s,f=>⟨st,oe,f,s⟩
 |(i,k,e,sz,by_)::r,⟨n,fr,bx,ow⟩,oe,K,s,f=>by
  simp only[y0d]at f
  split at f
  rotate_left
  ·exact f.elim
  rename_i cs ty C
  split at f
  rotate_left
  ·exact f.elim
  rename_i O
  rw[Q09]at f
  have L:P05 h H (.slice none 0 0) e sz false []:=⟨by simp,.inl ⟨rfl,rfl,rfl⟩⟩
  obtain⟨s1,X⟩:=s.newOwn (by_:=by_) (λb o M=>M) (V2.refl s.mv.vis) L (by simp[Value.ownBlock])
  have A:=J01 C
  refine q0a r _ (λj=>if j=ow.length then .slice none 0 0 else oe j) ?_ f
  have p:Q6 ⟨n,fr,bx,ow ++ [⟨0,.live e sz by_ false []⟩]⟩ be (λj=>if j=ow.length then .slice none 0 0 else oe j) ⟨n,fr,G00 bx i (.live (G00 cs k (.own ow.length 0)) ty),ow ++ [⟨0,.live e sz by_ false []⟩]⟩ be (λj=>if j=ow.length then .slice none 0 0 else oe j) :=
   ⟨by simp[e05],λ_ _=>rfl,λi s h=>⟨s,h,Nat.le_refl _,λ_=>rfl⟩⟩
  have u:∀ j cs' g,nth (G00 bx i (.live (G00 cs k (.own ow.length 0)) ty)) j=some (.live cs' g)->∃ E,nth bx j=some (.live E g):=λj cs' g d=>by
   grind[t7]
  refine⟨s1.mv,s1.sub,λj cs' g d=>?_,λj b d=>?_,s1.own,s1.frz,λj x T aa U ab G I=>?_,s1.oo,λj cs' g x Y W Z S nn xs d N=>?_,s1.dfr,s1.siz,λt=>(s1.fr t).grow p⟩
  ·rw[t7 _ _ _ A]at d
   split at d
   ·rename_i F
    subst F
    cases d
    obtain⟨y,vs,m,z⟩:=s1.box j cs ty C
    refine⟨y,vs,?_,z⟩
    obtain⟨v,ac,R⟩:=m.nth O
    have Q:v = .slice none 0 0:=R
    have:=(m.grow p).upd (k:=k) (c := .own ow.length 0) (v:=v) (by rw[Q];exact⟨0,by simp[stamp,l02],Nat.le_refl _,λ_=>by simp⟩)
    rwa [show vs.set k v=vs from by
     grind[List.getElem?_eq_some_iff,List.set_getElem_self]]at this
   ·obtain⟨y,vs,m,z⟩:=s1.box j cs' g d
    exact⟨y,vs,m.grow p,z⟩
  ·rw[t7 _ _ _ A]at d
   split at d
   ·cases d
   ·exact s1.pub j b d
  ·obtain⟨D,q⟩:=u _ _ _ G
   obtain⟨V,J⟩:=u _ _ _ I
   exact s1.bb j x _ _ _ _ q J
  ·obtain⟨D,q⟩:=u _ _ _ d
   exact s1.bo j _ _ x _ _ _ _ _ _ q N
theorem u09:∀(l:List Nat) {st:St} {h:Hp} {K:St->Hp->Prop},Sim P h0 w0 be oe H st h a w->W0i l st h K->∃ st' d,K st' d/\Sim P h0 w0 be oe H st' d a w
 | [],st,h,K,s,b=>⟨st,h,b,s⟩
 |t::r,st,h,K,s,b=>by
  simp only[W0i]at b
  obtain⟨⟨n,fr,bx,ow⟩,d,c,s1,_⟩:=D02 s (s.rdA (s.fr t)) b
  dsimp only at c
  split at c
  ·refine u09 r (s1.refr (fr:=(t,.val (a.tmps.getD t undef))::fr) λu=>?_) c
   rw[i4]
   by_cases eu:t=u
   ·subst eu
    rw[if_pos rfl]
    rfl
   ·rw[if_neg eu]
    exact s1.fr u
  ·exact c.elim
set_option maxHeartbeats 1000000 in
theorem w0l{Y:Code}{R:List Nat}{Q:Ex->St->Hp->Prop}
  (D:∀(Q:Ex->St->Hp->Prop) (st:St) (h:Hp) (a:Act) (w:World) (be:Nat->Nat) (oe:Nat->Value) (H:Hp),Sim P h0 w0 be oe H st h a w->ev P Y Q st h->Y.wp P (S0h P h0 w0 Q) a w)
  (s:Sim P h0 w0 be oe H st h a w) (f:q0m (λQ=>ev P Y Q) R Q st h):(Code.loop Y).wp P (S0h P h0 w0 Q) a w:=by
 obtain⟨A,aO,μ,f⟩:=f
 obtain⟨st,oe,f,s⟩:=C0c _ _ _ s f
 obtain⟨st,oe,f,s⟩:=q0a _ _ _ s f
 obtain⟨st,h,f,s⟩:=u09 _ s f
 unfold n0l at f
 obtain⟨E,bs,f,bt⟩:=z0b st _ f
 obtain⟨ac,f,aE⟩:=x0m st _ f
 obtain⟨ab,bf,⟨Z,f⟩,aF⟩:=y0m st _ f
 rw[w0g]at f
 obtain⟨F,f,aS,aC,aD,_⟩:=s09 A st _ _ f (by simp)
 obtain⟨V,a3,s1⟩:=r09 A R st _ f
 have aT:∀ p∈F,p.1∈R:=λp S=>(aS p S).resolve_right (by simp)
 have bF:∀ t,t ∉ R->p0a A st (D3 V t):=λt bo=>by
  rcases s1 t bo with h|⟨_,h⟩
  ·rw[h];trivial
  ·exact h
 have bh:=λ(vs:List Value) (ae:vs.length=(E++ac).length) (os:List (List (List Value))) (ap:os.length=ab.length)=>n0a _ (m0a _ a3 vs ae) os ap
 let z:List Value->List BSt->List Own->St:=λE bx ow=>⟨st.n,n0b A.vars E (F++V),bx,ow⟩
 let Inv:Nat->Act->World->Prop:=λm a w=>∃(vs:List Value) (os:List (List (List Value))) (ag aA:List Value) (bx:List BSt) (ow:List Own) (ak:Hp) (be:Nat->Nat) (oe:Nat->Value) (H:Hp),
  vs.length=(E++ac).length/\os.length=ab.length/\vs=ag++aA/\ag.length=A.vars.length/\(∀ W,L05 A.boxes aA st.bx W=W bx)/\(∀ W,M05 A.owns os st.ow W=W ow) /\
   atI A aO μ m vs os ak/\Sim P h0 w0 be oe H (z ag bx ow) ak a w
 have aP:=D0p s
 have a1:∀ m a w,Inv m a w->Y.wp P (Exit.then (λa w=>∃ U,Inv U a w/\U<m) (S0h P h0 w0 Q)) a w:=by
  rintro m a w ⟨vs,os,ag,aA,bx,ow,ak,be,oe,H,ae,ap,rfl,bq,bi,bk,Z,aZ⟩
  have T:=l0p (bh _ ae os ap) Z
  rw[←bq,q09,bi,bk]at T
  refine Code.wp_mono (λe ai aB S=>?_) (D _ _ _ _ _ _ _ _ aZ T)
  cases e with
  |normal =>
   obtain⟨e,g,aQ,bD,aN,J,s2⟩:=S
   dsimp only at J
   obtain⟨e,g,J,s2⟩:=u09 _ s2 J
   unfold m0p at J
   split at J
   ·rename_i a2 bj
    obtain⟨bg,bn,bm,q⟩:=J
    have L:=Nat.eq_of_beq_eq_true a2
    have C:=H07 0 _ _ bn
    have af:=I07 0 _ _ bm
    simp only[Nat.zero_add]at C af
    unfold n0l at q
    obtain⟨ad,aH,q,bu⟩:=z0b e _ q
    have bb:∀(is:List Nat) {K:List Value->Prop},z0d is e K->(∀ i∈is,i∈A.boxes)->(∀ i∈is,(nth st.bx i).isSome=true) ->
      ∀ i∈is,∃ cs ty cs',nth st.bx i=some (.live cs ty)/\nth e.bx i=some (.live cs' ty)/\ShC e cs cs':=by
     intro is K _ bK aq i d
     cases hb:nth st.bx i with
     |none=>have:=aq i d;rw[hb]at this;cases this
     |some b =>
      grind
    have aq:∀ i∈A.boxes,(nth st.bx i).isSome=true:=by
     have aj:∀(is:List Nat) (vs:List Value) (bx:List BSt),(L05 is vs bx λ_=>True)->∀ i∈is,(nth bx i).isSome=true:=by
      intro is
      induction is with
      |nil=>intro vs bx _ i d;cases d
      |cons j r D =>
       intro vs bx u i d
       simp only[L05]at u
       split at u
       ·rename_i cs ty L
        rcases List.mem_cons.1 d with rfl|d
        ·rw[L];rfl
        ·have a4:∀(cs:List E5) (vs:List Value) (K:List E5->List Value->Prop),v03 cs vs K->∃ a b,K a b:=by
          intro cs
          induction cs with
          |nil=>intro vs K h;exact⟨_,_,h⟩
          |cons c r D =>
           intro vs K h
           cases c with
           |val v =>
            cases vs with
            |nil=>exact h.elim
            |cons bL vs=>obtain⟨a,b,h⟩:=D _ _ h;exact⟨_,_,h⟩
           |own i k=>obtain⟨a,b,h⟩:=D _ _ h;exact⟨_,_,h⟩
         obtain⟨a,b,u⟩:=a4 _ _ _ u
         have:=D _ _ u i d
         rw[t7 _ _ _ (J01 L)]at this
         grind
       ·exact u.elim
     exact aj A.boxes ac st.bx (by rw[aE];trivial)
    have bl:∀ i∈A.owns,(nth st.ow i).isSome=true:=by
     have aj:∀(is:List Nat) (vs:List (List (List Value))) (ow:List Own),(M05 is vs ow λ_=>True)->∀ i∈is,(nth ow i).isSome=true:=by
      intro is
      induction is with
      |nil=>intro vs bx _ i d;cases d
      |cons j r D =>
       intro vs ow u i d
       cases vs with
       |nil=>exact u.elim
       |cons x vs =>
        simp only[M05]at u
        split at u
        ·rename_i L
         rcases List.mem_cons.1 d with rfl|d
         ·rw[L];rfl
         ·have:=D _ _ u i d
          rw[t7 _ _ _ (J01 L)]at this
          grind
        ·exact u.elim
     exact aj A.owns ab st.ow (by rw[aF];trivial)
    obtain⟨aM,q,O,aL,bG,bH,bI,bJ⟩:=z0m e A.boxes st.bx (bb _ q (λ_ h=>h) aq) q
    have bc:∀ i∈A.owns,∃ s G sz by_ nn ah s' M xs,nth st.ow i=some ⟨s,.live G sz by_ nn ah⟩/\nth e.ow i=some ⟨s',.live G sz by_ M xs⟩/\(nn=true->M=true):=λi d=>by
     cases hb:nth st.ow i with
     |none=>have:=bl i d;rw[hb]at this;cases this
     |some b =>
      rcases af i b hb with⟨_,s,G,sz,by_,nn,ah,s',M,xs,rfl,g,al,_⟩|⟨l,_⟩
      ·exact⟨s,G,sz,by_,nn,ah,s',M,xs,rfl,g,al⟩
      ·exact absurd d l
    obtain⟨bE,bz,q,N,aJ,bA,bB,bC⟩:=A0m e A.owns st.ow bc q
    split at q
    rotate_left
    ·exact q.elim
    rename_i bd
    rw[←aH,q09,aL,aJ]at q
    obtain⟨aa,aX,an⟩:=J0r q
    have ar:∀ i,stamp (z ad O N) i=stamp st i:=λi=>by
     have:=bC i
     unfold stamp
     simp only[z]
     cases l:nth N i<;>cases g:nth st.ow i<;>rw[l,g]at this<;>simp at this<;>simp[this]
    refine⟨aa,⟨ad++aM,bE,ad,aM,O,N,g,aQ,bD,aN,?_,?_,rfl,aH,aL,aJ,aX,?_⟩,an⟩
    ·rw[←ae];exact C0m _ _ bd
    ·rw[bz]
     have:ab.length=A.owns.length:=bf
     rw[this]
    ·refine C0p (A:=A) s2 L ?_ ?_ ?_ ?_
     ·intro i b d
      by_cases y:i∈A.boxes
      ·obtain⟨aR,ty,cs',aw,ax,ay⟩:=bI i y
       have:nth O i=some b:=d
       rw[aw]at this
       cases this
       exact .inl ⟨aR,ty,cs',rfl,ax,ay⟩
      ·have:nth O i=some b:=d
       rw[bH i y]at this
       rcases C i b this with⟨l,_⟩|⟨_,g,al⟩
       ·exact absurd l y
       ·exact .inr ⟨g,al⟩
     ·intro i o d
      by_cases y:i∈A.owns
      ·obtain⟨aK,G,sz,by_,nn,s',M,xs,aw,ax,ay⟩:=bB i y
       have:nth N i=some o:=d
       rw[aw]at this
       cases this
       exact .inl ⟨⟨aK,G,sz,by_,nn,s',M,xs,rfl,ax,ay⟩,y⟩
      ·have:nth N i=some o:=d
       rw[bA i y]at this
       rcases af i o this with⟨l,_⟩|⟨_,g⟩
       ·exact absurd l y
       ·exact .inr ⟨g,y⟩
     ·intro i cs ty d
      have:=bJ _ aP i cs ty d
      have ba:(λj k=>∃ s,stamp (z ad O N) j=some s/\k<=s)=(λj k=>∃ s,stamp st j=some s/\k<=s):=by
       funext j k;rw[ar]
      rw[ba]
      exact this
     ·refine j0t (A:=A) (ds:=R) (st:=st) (av1:=λt=>bu (F++V) t) s2 rfl bG ar ?_ aT aC aD bF (U0d F bj) (t09 _ bg)
      intro i k d am
      show stamp e i=stamp (z ad O N) i
      rw[ar i]
      cases hb:nth st.ow i with
      |none=>unfold stamp at am;rw[hb]at am;cases am
      |some b =>
       rcases af i b hb with⟨l,aK,G,sz,by_,nn,ah,s',M,xs,rfl,g,_,aV⟩|⟨_,g⟩
       ·have:=aV (d.resolve_left (λh=>h l))
        simp[stamp,hb,g,this]
       ·unfold stamp
        rw[hb,g]
   ·exact J.elim
  |exit i=>exact S
  |ret=>exact S
  |_=>exact S
 have a0:Sim P h0 w0 be oe H (z E st.bx st.ow) h a w:=by
  refine s.refr (fr:=n0b A.vars E (F++V)) λt=>?_
  have aU:=s.fr t
  have I:=s.rdA aU
  rcases bt (F++V) t with⟨l,br⟩|⟨v,l,g⟩
  ·rw[l]
   rcases T0d F V t with⟨av,az,aa⟩|⟨az,aa⟩
   ·rw[aa]
    rcases aC _ az with rfl|⟨i,k,rfl,_,T⟩|⟨i,o,rfl,_,T⟩
    ·trivial
    ·rw[T]at I;exact I
    ·rw[T]at I;exact I
   ·rw[aa]
    have bp:t ∉ R:=λz=>by
     obtain⟨av,y⟩:=aD t z br
     exact az av y
    rcases s1 t bp with h|⟨h,_⟩
    ·rw[h];trivial
    ·rw[h];exact I
  ·rw[l]
   rw[g]at I
   exact I
 obtain⟨bv,Z⟩:=k0p (μ:=μ) Z
 have aW:Inv bv a w:=⟨E++ac,ab,E,ac,st.bx,st.ow,h,be,oe,H,rfl,rfl,rfl,bs,aE,aF,Z,a0⟩
 classical
 let X:Act->World->Nat:=λa w=>if C:∃ m,Inv m a w then Classical.choose (y0j _ C)else 0
 refine wp_loop (λa w=>∃ m,Inv m a w) X ⟨_,aW⟩ λa w C=>?_
 have aY:X a w=Classical.choose (y0j _ C):=by simp only[X,dif_pos C]
 refine Code.wp_mono (λe ai aB aG=>?_) (a1 _ a w (Classical.choose_spec (y0j _ C)).1)
 cases e with
 |normal =>
  obtain⟨U,ao,an⟩:=aG
  refine⟨⟨U,ao⟩,?_⟩
  have au:∃ m,Inv m ai aB:=⟨U,ao⟩
  have:X ai aB=Classical.choose (y0j _ au):=by simp only[X,dif_pos au]
  rw[aY,this]
  exact Nat.lt_of_le_of_lt ((Classical.choose_spec (y0j _ au)).2 U ao) an
 |_=>exact aG
end
end Go.H
namespace Go.H
set_option linter.unusedVariables false
set_option linter.unusedSimpArgs false
section
variable {P:Program} {h0:Hp} {w0:World} {be:Nat->Nat} {oe:Nat->Value} {H:Hp} {st:St} {h:Hp} {a:Act} {w:World}
theorem E0p(c:Code):∀(Q:Ex->St->Hp->Prop) (st:St) (h:Hp) (a:Act) (w:World) (be:Nat->Nat) (oe:Nat->Value) (H:Hp),Sim P h0 w0 be oe H st h a w->ev P c Q st h->c.wp P (S0h P h0 w0 Q) a w:=by
 induction c with
 |skip=>exact λQ st h a w be oe H s f=>wp_skip ⟨st,h,be,oe,H,f,s⟩
 |region id ops d=>grind[T0h]
 |seq x y n o =>
  intro Q st h a w be oe H s f
  refine wp_seq (Code.wp_mono (λe a w j=>?_) (n _ _ _ _ _ _ _ _ s f))
  cases e with
  |normal=>obtain⟨st,h,be,oe,H,k,s⟩:=j;exact o _ _ _ _ _ _ _ _ s k
  |exit i=>exact j
  |ret=>exact j
  |_=>exact j
 |cond c x y n o =>
  intro Q st h a w be oe H s f
  simp only[ev]at f
  split at f
  ·rename_i b l
   have g:=s.rdO c
   rw[l]at g
   exact wp_cond_split g (λe=>n _ _ _ _ _ _ _ _ s (f.1 e)) (λe=>o _ _ _ _ _ _ _ _ s (f.2 e))
  ·exact f.elim
 |block id c m =>
  intro Q st h a w be oe H s f
  refine wp_block (Code.wp_mono (λe a w j=>?_) (m _ _ _ _ _ _ _ _ s f))
  cases e with
  |normal=>exact j
  |exit i =>
   obtain⟨st,h,be,oe,H,k,s⟩:=j
   simp only[Exit.inBlock]
   dsimp only at k
   cases l:Nat.beq i id with
   |true =>
    rw[l]at k
    rw[if_pos (Nat.eq_of_beq_eq_true l)]
    exact⟨st,h,be,oe,H,k,s⟩
   |false =>
    rw[l]at k
    rw[if_neg (Nat.ne_of_beq_eq_false l)]
    exact⟨st,h,be,oe,H,k,s⟩
  |ret=>exact j
  |_=>exact j
 |loop c m=>exact λQ st h a w be oe H s f=>w0l m s f
 |exit i=>exact λQ st h a w be oe H s f=>wp_exit ⟨st,h,be,oe,H,f,s⟩
 |ret=>exact λQ st h a w be oe H s f=>wp_ret ⟨st,h,be,oe,H,f,s⟩
 |_=>exact λQ st h a w be oe H s f=>f.elim
def U0r(tmps:Array Value):ResultVar->Sem Value
 | .tmp t=>pure (tmps.getD t undef)
 | .cell a t=>do loadVar t (←asAddr (tmps.getD a undef))
theorem v09:∀(l:List ResultVar) (st:St) (h:Hp) {K:List Value->St->Hp->Prop},Sim P h0 w0 be oe H st h a w->q0l P l st h K ->
  ∃ vs st' p,K vs st' p/\Sim P h0 w0 be oe H st' p a w/\(l.mapM (U0r a.tmps)).run P w = .ok vs w
 | [],st,h,K,s,c=>⟨[],st,h,c,s,rfl⟩
 | .tmp t::r,st,h,K,s,c=>by
  obtain⟨m,d,k,s1,_⟩:=D02 s (s.rdA (s.fr t)) c
  obtain⟨vs,y,q,n,s2,u⟩:=v09 r m d s1 k
  grind[Sem.run_bind,U0r,Sem.run_pure,Result.andThen_ok]
 | .cell t ty::r,st,h,K,s,c=>by
  simp only[q0l]at c
  split at c
  ·rename_i i off u
   split at c
   ·rename_i cs L E
    have g:=s.rdA (s.fr t)
    rw[u]at g
    obtain⟨d,vs,q,A⟩:=s.box i cs L E
    obtain⟨av,v,G,I,J⟩:=R.load_row (H:=H) (b:=be i) (o:=0) (be:=be) c q (λj v C=>by simp[Hp.cell,A,C])
    obtain⟨m,d,k,s1,_⟩:=D02 s I G
    obtain⟨M,y,z,n,s2,F⟩:=v09 r m d s1 k
    refine⟨_,y,z,n,s2,?_⟩
    have D:(loadVar ty ⟨be i,off,none⟩).run P w = .ok v w:=by
     obtain⟨x,f,e⟩:=R.wpR_sound _ _ w s.mv.vis (J (λx _=>x=v) rfl)
     rw[Nat.zero_add]at f
     rw[f,e]
    have f:a.tmps.getD t undef=ptr (be i) off:=g.2
    simp only[List.mapM_cons,Sem.run_bind,U0r,f,ptr,asAddr,Sem.run_pure,Result.andThen_ok,D,F]
   ·exact c.elim
  ·exact c.elim
theorem y0g:∀(args:List Value) (i s:Nat),D3 (Y09 i args) s = .dead∨D3 (Y09 i args) s = .val (if i<=s then args.getD (s-i) undef else undef)
 | [],i,s => .inl rfl
 |v::r,i,s=>by
  simp only[Y09]
  rw[i4]
  by_cases e:i=s
  ·subst e;right;simp
  ·rw[if_neg e]
   rcases y0g r (i+1) s with a|a
   all_goals grind
theorem V2.less{h a H:Hp}{w e:World}(m:V2 h w H e)(d:∀ b o,a b=some o->H b=some o):V2 h w a e:=by
 refine⟨m.os,m.tape,m.output,m.size,m.keep,λb o c=>m.vis b o (d b o c),λb c=>?_,m.fz,m.dn⟩
 cases hc:a b with
 |none=>exact absurd hc c
 |some o=>exact m.fresh b (by rw[d b o hc];simp)
theorem x0l{f:FuncId}{fn:Func}{args:List Value}{n:Value->Hp->Prop}(hf:P.funcs[f]?=some fn)(l:b0t P fn args h n):Tr P f args.toArray h n:=by
 refine⟨λw D=>?_⟩
 unfold b0t at l
 split at l
 ·rename_i c z
  split at l
  ·rename_i q
   have q:=Nat.le_of_ble_eq_true q
   have E:Sim P h w (λ_=>0) (λ_=>undef) h ⟨fn.ntmps,Y09 0 args,[],[]⟩ h { tmps:=args.toArray++Array.replicate (fn.ntmps-args.toArray.size) undef,defers:=[] } w:=by
    refine⟨V2.refl D,λ_ _ h=>h,(λi cs ty a=>nomatch a),(λi b a=>nomatch a),(λi s e sz by_ nn xs a=>nomatch a),(λi s v a=>nomatch a),(λi j cs ty cs' L a=>nomatch a),
     (λi j s e sz by_ nn xs s' G K F I M g a=>nomatch a),(λi cs ty j s e sz by_ nn xs a=>nomatch a),rfl,by simp;omega,λs=>?_⟩
    rcases y0g args 0 s with d|d
    ·grind[I2,D3,Y09]
    show I2 _ _ _ (D3 (Y09 0 args) s) _
    rw[d]
    simp only[Nat.zero_le,if_true,Nat.sub_zero]
    show _=_
    simp only[Array.getD_eq_getD_getElem?]
    grind
   refine calls_of_wp hf z (Code.wp_mono (λe m p o=>?_) (E0p c _ _ _ _ _ _ _ _ E l))
   have fin:∀ {st d be oe H},q0l P fn.results.toList st d (λvs _ h=>n (a0j vs) h)->Sim P h w be oe H st d m p->m.defers = []/\∃ v,(results fn m.tmps).run P p = .ok v p/\∃ t d,Ending.returned v = .returned t/\n t d/\V2 h w d p:=by
    intro st d be oe H k s
    obtain⟨vs,J,y,u,s2,A⟩:=v09 _ _ _ s k
    refine⟨s.dfr,a0j vs,?_,a0j vs,y,rfl,u,s2.mv.less s2.sub⟩
    have C:results fn m.tmps=(fn.results.mapM (U0r m.tmps) >>= λvs=>pure (if h:vs.size=1 then vs[0]else .tuple vs)):=by
     unfold results
     congr 1
    rw[C,Array.mapM_eq_mapM_toList]
    simp only[Sem.run_bind,Sem.run_map,A,Result.andThen_ok,Sem.run_pure]
    cases vs with
    |nil=>rfl
    |cons x r=>cases r<;>rfl
   cases e with
   |normal=>obtain⟨st,d,be,oe,H,k,s⟩:=o;exact fin k s
   |ret=>obtain⟨st,d,be,oe,H,k,s⟩:=o;exact fin k s
   |exit i=>obtain⟨st,d,be,oe,H,k,s⟩:=o;exact k.elim
   |_=>exact o.elim
  ·exact l.elim
 ·exact l.elim
end
end Go.H
namespace Go.H
open Go.RowKit Go.ChangeShapes Go.WideShapes Go.ChangeAt
set_option linter.unusedVariables false
theorem Tr.val{P:Program}{f:FuncId}{args:Array Value}{h:Hp}{x:Value}{a:Value->Hp->Prop}(t:Tr P f args h λv d=>v=x/\d=h)(e:a x h):Tr P f args h a :=
 t.mono λ_ _ ⟨b,c⟩=>by rw[b,c];exact e
theorem Tr.calls{P:Program}{f:FuncId}{args:Array Value}{c:World}{x:Value}(t:Tr P f args (λb=>c.heap[b]?) λv g=>v=x/\∀ b o,c.heap[b]?=some o->g b=some o):
  Calls P f args c λe d=>e = .returned x/\Below c.heap.size c d/\∀ a:Addr,a.block<c.heap.size->d.frozen? a=c.frozen? a:=by
 refine(t.run c (λb o h=>h)).mono ?_
 rintro e d ⟨v,g,rfl,⟨rfl,i⟩,m⟩
 refine⟨rfl,⟨m.os,m.tape,m.output,m.size,λk j=>?_⟩,m.fz⟩
 have:c.heap[k]?=some c.heap[k]:=by simp[j]
 rw[this]
 exact m.vis _ _ (i k _ this)
theorem w64{x:Int}(a : -9223372036854775808<=x)(b:x<=9223372036854775807):IntKind.i64.wrap x=x:=by
 simp[IntKind.wrap,IntKind.signed,IntKind.bits]
 omega
theorem e0o{n:Nat}(h:n<=maxLen):n<=9223372036854775807:=by
 grind[maxLen]
def I0(x:Int):Prop := -9223372036854775808<=x/\x<=9223372036854775807
theorem g0u{x:Int}(h:(Lit.int .i64 x).wf=true):I0 x:=by
 simpa [Lit.wf,IntKind.min,IntKind.max,IntKind.signed,IntKind.bits,I0] using h
section
variable {H:Type} {enc:TypeId×Value->H} {P:Program}
theorem W08(g:laidOutB P=true){b e:World}(f:Below b.heap.size b e){l:Nat->Bool}:∀ {c:List TypeId} {vs:List Value} {ds:List (DataW H)} {ps:List MemPlace},
  (∀ t∈c,P.readableRec t=true/\t<P.types.size)->DataW.TrodAll enc P b 0 (λ_=>true) true c vs ds ps->(∀ p∈ps,p.block<b.heap.size)->(∀ p∈ps,l p.block=true) ->
  DataW.TrodAll enc P e 0 l true c vs ds ps
 | [],vs,ds,ps,_,h,_,_=>by
  obtain⟨rfl,rfl,rfl⟩:=trodAll_nil h
  exact rfl
 |t::c,vs,ds,ps,k,h,i,j=>by
  obtain⟨v,y,d,w,p,q,rfl,rfl,rfl,m,n⟩:=trodAll_cons h
  obtain⟨s,u⟩:=k t mS
  refine⟨p,q,WideElems.Trod_stays g s u m (λx a=>f.same (i x (List.mem_append_left _ a))) (λx a=>j x (List.mem_append_left _ a)),?_,rfl⟩
  exact W08 g f (λt o=>k t (mC _ o)) n (λx a=>i x (List.mem_append_right _ a)) (λx a=>j x (List.mem_append_right _ a))
theorem N0c{f:Func}{s:ChangeSpec}{m fresh y x:Bool}{h d:World}{args:Array Value}{v:Value}{ds i:List (DataW H)}{e pa pv:List MemPlace}
  (k:DataW.Whole enc P f.params.toList s.vars m h args.toList ds i e)
  (u:∀(b:Nat) (g:Nat->Bool) (z:Bool),DataW.TrodAll enc P d b g z f.resultTypes.toList (v.resultList f.resultTypes.size) (s.fn H (ds++i)).results [])
  (n:∀ g:Nat->Bool,(∀ p∈e,g p.block=true)->DataW.TrodAll enc P d 0 g true f.params.toList args.toList (s.fn H (ds++i)).args pa)
  (w:∀ g:Nat->Bool,(∀ p∈e,g p.block=true)->DataW.TrodVars enc P d g s.vars (s.fn H (ds++i)).vars pv)
  (o:e=pa++pv) (C:h.keptBut d (·∈e)) (A:∀ a:Addr,a.block<h.heap.size->d.frozen? a=h.frozen? a)
  (D:∀(j:Nat) (t:TypeId) (r:Value),f.resultTypes[j]?=some t->(v.resultList f.resultTypes.size)[j]?=some r->Value.okWide P d .any 0 t r) :
  s.post enc P f m fresh y x h args v d:=by
 have l:=λp c=>k.lt (p:=p) c
 refine⟨ds,i,e,[],pa,pv,k,u _ _ _,n _ (λp c=>by simpa using l p c),w _ (λp c=>by simpa using l p c),World.keptBut_mono (λp c=>⟨c,.inr (by rwa [o,List.mem_append]at c)⟩) C,λ_=>?_⟩
 obtain⟨_,_,_,_,_,E,F⟩:=k
 have q:([]++pa)++pv=e:=by simp[o]
 refine⟨D,_,_,([]++pa)++pv,⟨[]++pa,pv,trodAll_append (n _ (λ_ _=>rfl)) (u _ _ _),w _ (λ_ _=>rfl),rfl,?_,?_⟩,λp c _=>by rwa [q]at c⟩
 ·intro b off c
  rw[q]at c
  rw[A _ (l _ c)]
  exact E b off c
 grind
theorem F0p{f:Func}{s:ChangeSpec}{e fresh w n:Bool}{b c:World}{args:Array Value}{ds g:List (DataW H)}{o:List MemPlace}{m:TypeId}
  (D:laidOutB P=true) (F:∀ t∈f.params.toList,P.readableRec t=true/\t<P.types.size) (l:s.vars = []) (i:s.fn H (ds++g) = { results:=[.lit (.bool true)],args:=ds })
  (j:f.resultTypes = #[m]) (k:P.underlying m=some .bool) (d:DataW.Whole enc P f.params.toList s.vars e b args.toList ds g o)
  (u:Below b.heap.size b c) (x:∀ a:Addr,a.block<b.heap.size->c.frozen? a=b.frozen? a):s.post enc P f e fresh w n b args (.bool true) c:=by
 have E:=λp y=>d.lt (p:=p) y
 have v:=d
 obtain⟨p,q,C,h,rfl,_,_⟩:=d
 rw[l]at h
 obtain⟨rfl,rfl⟩:=trodVars_none h
 refine N0c (pa:=p) (pv:=[]) v (λ_ _ _=>?_) (λA z=>?_) (λA z=>?_) rfl (u.frame _) x (ok_one j rfl (okWide_bool_mk k _))
 ·rw[i,j]
  exact trodAll_mk1 (shut_bool k _)
 ·grind[W08,List.mem_append_left]
 ·rw[i,l]
  exact rfl
end
end Go.H
