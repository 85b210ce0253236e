/- The library of the walks, part HD: plain laws over the model. -/
import Derived.Test.YthkpbcnhdhfifaaGreatHC
import Derived.ProofKit
namespace Go.H
set_option linter.all false
theorem g04{i:Nat}{o:Oper}(h:X02 i o=true):∃ e∈o.after,Region.binds .any e=true/\e.on=i:=by unfold X02 at h;rw[List.any_eq_true]at h;simp_all
theorem G0c{o:Oper}{t:Nat}:∀ {l:List Oper} {i:Nat},v05 o t l i=true->∀ k x,l[k]?=some x->x.dst=some t->X02 (i+k) o=true
 | [],i,h,k,x,a,b=>by simp at a
 |y::r,i,h,0,x,a,b=>by simp_all[v05,Nat.beq_refl,Bool.and_eq_true]
 |y::r,i,h,k+1,x,a,b=>by
  simp only[List.getElem?_cons_succ]at a;have c:v05 o t r (i+1)=true:=by simp only[v05]at h;grind
  have:=G0c c k x a b;rwa [show i+1+k=i+(k+1) from oM]at this
theorem J06{o:Oper}{ops:List Oper}:∀ {l:List Operand},a0g o ops l=true->∀ t,Operand.tmp t∈l->v05 o t ops 0=true
 | [],h,t,a=>by cases a
 | .tmp u::r,h,t,a=>by
  simp only[a0g,Bool.and_eq_true]at h;rcases List.mem_cons.1 a with e|a;·cases e;exact h.1
  exact J06 h.2 t a
 | .const v::r,h,t,a=>by
  rcases List.mem_cons.1 a with e|a;·cases e
  exact J06 (l:=r) h t a
 | .global v::r,h,t,a=>by
  rcases List.mem_cons.1 a with e|a;·cases e
  exact J06 (l:=r) h t a
 | .func v::r,h,t,a=>by
  rcases List.mem_cons.1 a with e|a;·cases e
  exact J06 (l:=r) h t a
theorem s0b{ops:List Oper}:∀ {l:List Oper},A0t ops l=true->∀ o∈l,∀ t,Operand.tmp t∈o.op.operands->∀ k x,ops[k]?=some x->x.dst=some t->∃ e∈o.after,Region.binds .any e=true/\e.on=k
 | [],h,o,a=>by cases a
 |y::r,h,o,a=>by
  simp only[A0t,Bool.and_eq_true]at h;rcases List.mem_cons.1 a with rfl|a;·intro t d k x c b;have:=G0c (J06 h.1 t (by simpa using d)) k x c b;simp_all[Nat.zero_add,g04]
  exact s0b h.2 o a
theorem c0a{d:Nat}:∀ {l:List Oper},t0c d l=true->∀ o∈l,o.dst≠some d
 | [],h,o,a=>by cases a
 |y::r,h,o,a=>by
  simp only[t0c]at h;split at h
  ·rename_i c b;simp only[Bool.and_eq_true,Bool.not_eq_true']at h;rcases List.mem_cons.1 a with rfl|a;·grind[Nat.ne_of_beq_eq_false]
   exact c0a h.2 o a
  rename_i b;rcases List.mem_cons.1 a with rfl|a;·grind
  exact c0a h o a
theorem a09{n:Nat}:∀ {l:List Oper},I0p n l=true->(∀ o∈l,∀ d,o.dst=some d->d<n) /\ ∀(i a:Nat) (b c:Oper) (d:Nat),l[i]?=some b->l[a]?=some c->b.dst=some d->c.dst=some d->i=a
 | [],h=>⟨oS,λi a b c d g=>by simp at g⟩
 |y::r,h=>by
  simp only[I0p]at h;split at h
  ·rename_i d p;simp only[Bool.and_eq_true]at h;obtain⟨⟨v,k⟩,m⟩:=h;obtain⟨j,s⟩:=a09 m;have x:=c0a k;refine⟨λo e f q=>?_,λi a b c f g w t u=>?_⟩
   ·rcases List.mem_cons.1 e with rfl|e;·simp_all
    exact j o e f q
   grind
  rename_i p;obtain⟨j,s⟩:=a09 h;grind
theorem b09:∀ {l:List Oper} {b:Nat},J0p l b=true->∀ k o,l[k]?=some o->∀ e∈o.after,Region.binds .any e=true->e.on<b+k
 | [],b,h,k,o,a=>by simp at a
 |y::r,b,h,k,o,a=>by
  simp only[J0p,Bool.and_eq_true,List.all_eq_true]at h;cases k with
  |zero =>simp at a;subst a;intro e c d;have:=h.1 e (by simpa using c);simp_all
  |succ k =>simp at a;intro e c d;have:=b09 h.2 k o a e c d;omega
def d6:List Oper->List (Nat×AV)->List (Nat×AV)
 | [],fr=>fr
 |o::r,fr=>match o.dst with
  |some d=>(d,.dead)::d6 r fr
  |none=>d6 r fr
theorem l04{t:Nat}:∀ {l:List Oper} {fr:List (Nat×AV)},(∀ o∈l,o.dst≠some t)->K3 (d6 l fr) t=K3 fr t
 | [],fr,h=>rfl
 |o::r,fr,h=>by have c:=l04 (fr:=fr) λb a=>h b (mC _ a);simp only[d6];split;all_goals simp_all[l4,if_neg,List.mem_cons_self]
theorem x05{t:Nat}:∀ {l:List Oper} {fr:List (Nat×AV)} {o:Oper},o∈l->o.dst=some t->K3 (d6 l fr) t = .dead
 | [],fr,o,h,_=>by cases h
 |y::r,fr,o,h,a=>by
  simp only[d6];split
  ·rename_i d b;rw[l4];split;·rfl
   rename_i c;rcases List.mem_cons.1 h with rfl|h;·grind
   exact x05 h a
  rename_i b;rcases List.mem_cons.1 h with rfl|h;·rw[a]at b;cases b
  exact x05 h a
theorem c09(d:Nat)(f:S00)(r:List (Nat×S00))(s:Nat):Z5 ((d,f)::r) s=if d=s then some f else Z5 r s:=by
 simp only[Z5];cases h:Nat.beq d s;·rw[if_neg (Nat.ne_of_beq_eq_false h)]
 rw[if_pos (Nat.eq_of_beq_eq_true h)]
section
variable {P:Program} {h0:Hp} {w0:World} {be:Nat->Nat} {oe:Nat->Value} {H:Hp} {h:Hp} {a:Act} {w:World}
theorem Sim.refr{st:St}(b:Sim P h0 w0 be oe H st h a w){fr:List (Nat×AV)}(hf:∀ t,N2 st be oe (K3 fr t) (a.tmps.getD t undef)):Sim P h0 w0 be oe H { st with fr:=fr } h a w:=by have c:V8 st be oe { st with fr:=fr } be oe:=⟨Nat.le_refl _,λ_ _=>rfl,λi b h=>⟨b,h,Nat.le_refl _,λ_=>rfl⟩⟩;refine⟨b.mv,b.sub,λi cs ty g=>?_,b.pub,b.own,b.frz,b.bb,b.oo,b.bo,b.dfr,b.siz,λt=>(hf t).grow c⟩;obtain⟨d,vs,e,f⟩:=b.box i cs ty g;exact⟨d,vs,e.grow c,f⟩
def d0a(st:St)(be:Nat->Nat)(oe:Nat->Value)(h:Hp):S00->Value->Prop
 | .pu av,v=>N2 st be oe av v
 | .ef F,v=>F v h
theorem k06{L:List (Nat×S00)}{st:St}{h:Hp}{val:Nat->Value}{K:List (Nat×AV)->Prop}:∀ {l:List Operand} {acc:List (Nat×AV)},
  (∀ t,N2 st be oe (K3 acc t) (val t))->(∀ t,Operand.tmp t∈l->(∀ f,Z5 L t=some f->d0a st be oe h f (val t))/\(Z5 L t=none->N2 st be oe (K3 st.fr t) (val t))) ->
  V0j L st h l acc K->∃ fr,K fr/\∀ t,N2 st be oe (K3 fr t) (val t)
 | [],acc,c,b,a=>⟨acc,a,c⟩
 | .tmp t::r,acc,c,b,a=>by
  have i:∀ u,Operand.tmp u∈r->_:=λu d=>b u (mC _ d)
  have j:=b t mS
  have put:∀ av,N2 st be oe av (val t)->∀ u,N2 st be oe (K3 ((t,av)::acc) u) (val u):=λav g u=>by
   grind[l4]
  simp only[V0j]at a
  split at a
  ·rename_i av e
   exact k06 (put av (j.1 _ e)) i a
  ·rename_i k e
   exact k06 (put (.val (val t)) rfl) i (a _ (j.1 _ e))
  ·rename_i e
   exact k06 (put _ (j.2 e)) i a
 | .const v::r,acc,c,b,a=>k06 (l:=r) c (λu d=>b u (mC _ d)) a
 | .global v::r,acc,c,b,a=>k06 (l:=r) c (λu d=>b u (mC _ d)) a
 | .func v::r,acc,c,b,a=>k06 (l:=r) c (λu d=>b u (mC _ d)) a
def H0B(P:Program)(st:St)(h:Hp)(L:List (Nat×S00))(o:Oper):Prop :=
 o.guard=none/\∃ f,(∀ d,o.dst=some d->Z5 L d=some f)/\match f with
  | .pu av=>d0s P L o st=some av
  | .ef F=>(∀ v a b,Sub a b->F v a->F v b)/\∀ h',Sub h h'->V0j L st h' o.op.operands.toList [] λfr=>J00 P o { st with fr:=fr } h' (d0B { st with fr:=fr } h' F)
theorem E0h:∀ {L:List (Nat×S00)} {t:Nat} {f:S00},Z5 L t=some f->(t,f)∈L
 | [],t,f,h=>by cases h
 |(d,a)::r,t,f,h=>by
  rw[c09]at h;split at h;·grind
  exact mC _ (E0h h)
theorem K0y{st:St}{L:List (Nat×S00)}{o:Oper}{av:AV}{val:Nat->Value}(a:d0s P L o st=some av) (k:∀ t,Operand.tmp t∈o.op.operands->(∀ f,Z5 L t=some f->d0a st be oe h f (val t))/\(Z5 L t=none->N2 st be oe (K3 st.fr t) (val t))) : ∃ fr,(∀ t,N2 st be oe (K3 fr t) (val t))/\J00 P o { st with fr:=fr } h λi st' h'=>i=av/\st' = { st with fr:=fr }/\h'=h:=by
 have one:∀ x:Operand,(∀ t,x = .tmp t->Operand.tmp t∈o.op.operands)->rdS L st x ≠ .dead->∃ fr,(∀ t,N2 st be oe (K3 fr t) (val t))/\rdO { st with fr:=fr } x=rdS L st x:=by
  intro x b c;cases x with
  |tmp t =>
   obtain⟨j,m⟩:=k t (b t rfl);have mk:∀ A,N2 st be oe A (val t)->∀ u,N2 st be oe (K3 [(t,A)] u) (val u):=λA g u=>by
    rw[l4];split;·grind
    trivial
   have rd:∀ A,rdO { st with fr:=[(t,A)] } (.tmp t)=rdA st A:=λA=>by show Go.H.rdA _ (K3 [(t,A)] t)=_;rw[l4,if_pos rfl];obtain⟨n,fr,bx,ow⟩:=st;cases A<;>rfl
   cases hL:Z5 L t with
   |none=>grind[rdS]
   |some f =>
    cases f with
    |pu A=>exact⟨_,mk _ (j _ hL),by grind[rdS]⟩
    |ef l=>grind[absurd,rdS]
  |const v=>exact⟨[],λt=>trivial,rfl⟩
  |global v=>exact⟨[],λt=>trivial,rfl⟩
  |func v=>exact⟨[],λt=>trivial,rfl⟩
 unfold d0s at a;split at a
 ·rename_i x b;have c:rdS L st x ≠ .dead:=λe=>by rw[e]at a;cases a
  obtain⟨fr,g,e⟩:=one x (λt d=>by grind[Op.operands]) c;refine⟨fr,g,?_⟩;simp only[J00,b,e];revert a;cases rdS L st x<;>intro a<;>first|(cases a;done)|(cases a;simp;done)
 ·rename_i x b;have c:rdS L st x ≠ .dead:=λe=>by rw[e]at a;cases a
  obtain⟨fr,g,e⟩:=one x (λt d=>by grind[Op.operands]) c;refine⟨fr,g,?_⟩;simp only[J00,b,e];revert a;cases rdS L st x<;>intro a<;>first|(cases a;done)|(cases a;simp;done)
 ·rename_i t x b;have c:rdS L st x ≠ .dead:=λe=>by rw[e]at a;cases a
  obtain⟨fr,g,e⟩:=one x (λt d=>by grind[Op.operands]) c;refine⟨fr,g,?_⟩;simp only[J00,b,e];split at a;all_goals grind[U0j,N08,a0o,J7]
 cases a
def s0A(P:Program)(h0:Hp)(w0:World)(ops:Array Oper)(st:St)(h:Hp)(L:List (Nat×S00))(c:Array Bool)(a:Act)(w:World):Prop :=
 ∃ be oe H h',Sub h h'/\Sim P h0 w0 be oe H { st with fr:=d6 ops.toList st.fr } h' a w /\
  ∀ b o d f,ops[b]?=some o->o.dst=some d->c.getD b false=true->Z5 L d=some f->d0a st be oe h' f (a.tmps.getD d undef)
theorem N2.fr{st:St}{fr:List (Nat×AV)}{av:AV}{v:Value}(g:N2 st be oe av v):N2 { st with fr:=fr } be oe av v:=by obtain⟨n,a,bx,ow⟩:=st;show N2 ⟨n,fr,bx,ow⟩ be oe av v;exact N2.grow (st:=⟨n,a,bx,ow⟩) (st':=⟨n,fr,bx,ow⟩) (be:=be) (oe:=oe) (be':=be) (oe':=oe) (av:=av) (x:=v) ⟨Nat.le_refl _,λ_ _=>rfl,λi b h=>⟨b,h,Nat.le_refl _,λ_=>rfl⟩⟩ g
theorem j8{ops:Array Oper}{st:St}{L:List (Nat×S00)}{E:Array Bool}{l:Nat}{o:Oper}{Q:Exit->Act->World->Prop} (aG:∀(i l:Nat) (c ah:Oper) (d:Nat),ops.toList[i]?=some c->ops.toList[l]?=some ah->c.dst=some d->ah.dst=some d->i=l) (aa:∀ o∈ops.toList,∀ d,o.dst=some d->d<st.n) (W:∀ t f,(t,f)∈L->∃(i:Nat) (c:Oper),ops.toList[i]?=some c/\c.dst=some t) (am:∀(i:Nat) (c:Oper) (d:Nat),ops.toList[i]?=some c->c.dst=some d->∃ f,Z5 L d=some f) (ab:ops[l]?=some o) (X:∀(l:Nat) (o:Oper),ops.toList[l]?=some o->H0B P st h L o) (ao:∀ t,Operand.tmp t∈o.op.operands->∀(i:Nat) (c:Oper),ops.toList[i]?=some c->c.dst=some t->E.getD i false=true) (N:s0A P h0 w0 ops st h L E a w):o.wp P a w (s0A P h0 w0 ops st h L (E.setIfInBounds l true)) Q:=by
 obtain⟨be,oe,H,h',af,F,U⟩:=N;have ac:ops.toList[l]?=some o:=by simpa using ab
 have Z:o∈ops.toList:=List.mem_of_getElem? ac;obtain⟨aJ,f,hf,ad⟩:=X l o ac;have aA:∀ d q,Z5 L d=some (.ef q)->∀ v k j,Sub k j->q v k->q v j:=λd q K=>by obtain⟨i,c,k,j⟩:=W d _ (E0h K);obtain⟨_,aF,ap,az⟩:=X i c k;rw[ap d j]at K;cases K;exact az.1
 have aj:∀ t,Operand.tmp t∈o.op.operands->(∀ f,Z5 L t=some f->d0a st be oe h' f (a.tmps.getD t undef))/\(Z5 L t=none->N2 st be oe (K3 st.fr t) (a.tmps.getD t undef)):=λt O=>by
  refine⟨λf hf=>?_,λax=>?_⟩;·obtain⟨i,c,k,j⟩:=W t f (E0h hf);exact U i c t f (by simpa using k) j (ao t O i c k j) hf
  have g:=F.fr t;have au:K3 (d6 ops.toList st.fr) t=K3 st.fr t:=l04 λaD ay D=>by obtain⟨i,N,e⟩:=List.getElem_of_mem ay;obtain⟨f,hf⟩:=am i aD t (by rw[List.getElem?_eq_getElem N,e]) D;rw[ax]at hf;cases hf
  rw[←au];exact N2.fr (st := { st with fr:=d6 ops.toList st.fr }) (fr:=st.fr) g
 have fin:∀ {fr:List (Nat×AV)} {z:Act} {y:World} {p:Hp} {be':Nat->Nat} {oe':Nat->Value} {s:Hp} {v:Value},Sub h' p->z=a.put o.dst v->Sim P h0 w0 be' oe' s { st with fr:=fr } p a y ->
   V8 { st with fr:=fr } be oe { st with fr:=fr } be' oe'->d0a st be' oe' p f v->s0A P h0 w0 ops st h L (E.setIfInBounds l true) z y:=by
  intro fr z y p be' oe' s v ag C G m R
  subst C
  have ak:V8 { st with fr:=d6 ops.toList st.fr } be oe { st with fr:=d6 ops.toList st.fr } be' oe':=⟨m.bl,m.be,m.sm⟩
  have al:V8 st be oe st be' oe':=⟨m.bl,m.be,m.sm⟩
  have s1:Sim P h0 w0 be' oe' s { st with fr:=d6 ops.toList st.fr } p a y :=
   G.refr (fr:=d6 ops.toList st.fr) λt=>N2.fr (st := { st with fr:=d6 ops.toList st.fr }) ((F.fr t).grow ak)
  have s2:Sim P h0 w0 be' oe' s { st with fr:=d6 ops.toList st.fr } p (a.put o.dst v) y:=by
   cases D:o.dst with
   |none=>exact s1
   |some d =>
    have ae:=s1.put (d:=d) (av := .dead) (v:=v) (aa o Z d D) trivial
    refine ae.refr (fr:=d6 ops.toList st.fr) λt=>?_
    have g:=ae.fr t
    grind[l4,x05]
  refine⟨be',oe',s,p,λb x an=>ag b x (af b x an),s2,λi c d g k j V I=>?_⟩
  by_cases hij:l=i
  ·subst hij
   rw[ab]at k;cases k
   rw[hf d j]at I;cases I
   have ar:d<a.tmps.size:=by rw[F.siz];exact aa o Z d j
   have:(a.put o.dst v).tmps.getD d undef=v:=by
    rw[j]
    simp[Act.put,ar]
   rw[this]
   exact R
  ·have aq:E.getD i false=true:=by rw[getD_set_ne false hij]at V;exact V
   have aw:∀ A,o.dst=some A->A≠d:=λA aH e=>by
    grind
   have:(a.put o.dst v).tmps.getD d undef=a.tmps.getD d undef:=by
    cases D:o.dst with
    |none=>rfl
    |some A=>simp[Act.put,Array.getElem?_setIfInBounds_ne (aw A D)]
   rw[this]
   have ai:=U i c d g k j aq I
   cases g with
   |pu av=>exact N2.grow al ai
   |ef q=>exact aA d q I _ _ _ ag ai
 cases f with
 |pu av =>obtain⟨fr,g,M⟩:=K0y (h:=h') ad aj;have G:Sim P h0 w0 be oe H { st with fr:=fr } h' a w:=F.refr (fr:=fr) λt=>N2.fr (g t);refine Oper.wp_mono (λz y S=>?_) (r03 G M);obtain⟨T,st',p,v,be',oe',s,⟨rfl,rfl,rfl⟩,C,s2,J,m⟩:=S;exact fin (λ_ _ h=>h) C s2 m (N2.fr (st := { st with fr:=fr }) (fr:=st.fr) J)
 |ef q =>
  obtain⟨fr,M,g⟩:=k06 (acc:=[]) (be:=be) (oe:=oe) (val:=λt=>a.tmps.getD t undef) (λt=>trivial) (λt O=>aj t (by simpa using O)) (ad.2 h' af);have G:Sim P h0 w0 be oe H { st with fr:=fr } h' a w:=F.refr (fr:=fr) λt=>N2.fr (g t);refine Oper.wp_mono (λz y S=>?_) (r03 G M);obtain⟨T,st',p,v,be',oe',s,Y,C,s2,J,m⟩:=S;cases T with
  |val u =>obtain⟨rfl,aB,aC⟩:=Y;have R:v=u:=J;subst R;exact fin aB C s2 m aC
  |_=>exact Y.elim
theorem E0m{ops:Array Oper}(d:∀(k:Nat) (o:Oper),ops.toList[k]?=some o->∀ e∈o.after,Region.binds .any e=true->e.on<k){b:Array Bool}(j:b.size=ops.size)(i:Region.ready .any ops b = []): ∀ a,a<ops.size->b.getD a false=true:=by
 intro a;induction a using Nat.strongRecOn with
 |_ a l =>
  intro c;cases hl:b.getD a false
  ·have h:a<b.size:=oM;have:a∈Region.ready .any ops b:=by refine mem_ready.2 ⟨?_,ops[a],by simp[c],λe g f=>?_⟩;all_goals grind
   grind
  rfl
theorem count_set{a:Array Bool}{b:Nat}(c:a.getD b true=false):(a.setIfInBounds b true).toList.count true=a.toList.count true+1:=by
 have d:b<a.size:=by grind
 simp_all[Array.toList_setIfInBounds,List.count_set]
end
theorem L0y{P:Program}{t:TypeId}{cs:List j7}{off:Nat}{av:AV}(h:U0j P t cs off=some av):N08 P t cs off λa=>a=av:=by grind[U0j,N08,a0o,J7]
section
variable {P:Program} {h0:Hp} {w0:World} {be:Nat->Nat} {oe:Nat->Value} {H:Hp} {h:Hp} {a:Act} {w:World}
theorem C0a{L:List (Nat×S00)}{st stX:St}{x:Operand} (b:∀ t,x = .tmp t->(∀ av,Z5 L t=some (.pu av)->N2 stX be oe av (a.tmps.getD t undef))/\(Z5 L t=none->N2 stX be oe (K3 st.fr t) (a.tmps.getD t undef))):N2 stX be oe (b0a L st x) (a.eval x):=by
 cases x with
 |tmp t =>
  obtain⟨c,d⟩:=b t rfl;show N2 stX be oe (b0a L st (.tmp t)) (a.tmps.getD t undef);simp only[b0a];split;·grind
  ·trivial
  grind
 |const v=>exact rfl
 |global g=>trivial
 |func f=>trivial
theorem t0b{L:List (Nat×S00)}{st stX:St}:∀(l:List Operand) {vs:List (Nat×Value)},(∀ t,Operand.tmp t∈l->N2 stX be oe (b0a L st (.tmp t)) (a.tmps.getD t undef))->x0i L st l=some vs -> (∀ p∈vs,p.2=a.eval (.tmp p.1))/\(∀ x∈l,(∃ t v,x = .tmp t/\(t,v)∈vs)∨(∀ ws,rho ws x=a.eval x))
 | [],vs,G,h=>by cases h;simp
 | .tmp t::r,vs,G,h=>by
  simp only[x0i]at h;split at h
  ·rename_i v k;split at h
   ·rename_i m j;cases h;obtain⟨c,e⟩:=t0b r (λu d=>G u (mC _ d)) j;have g:=G t mS;rw[k]at g;have g:a.tmps.getD t undef=v:=g;refine⟨λp i=>?_,λx b=>?_⟩
    ·rcases List.mem_cons.1 i with rfl|i;·exact g.symm
     exact c p i
    grind
   cases h
  cases h
 | .global _::r,vs,G,h=>by cases h
 | .const v::r,vs,G,h=>by
  obtain⟨c,e⟩:=t0b r (vs:=vs) (λu d=>G u (mC _ d)) h;exact⟨c,λx b=>by
   rcases List.mem_cons.1 b with rfl|b;·exact .inr λ_=>rfl
   exact e x b⟩
 | .func f::r,vs,G,h=>by
  obtain⟨c,e⟩:=t0b r (vs:=vs) (λu d=>G u (mC _ d)) h;exact⟨c,λx b=>by
   rcases List.mem_cons.1 b with rfl|b;·exact .inr λ_=>rfl
   exact e x b⟩
theorem X0p{L:List (Nat×S00)}{st stX:St}{o:Oper}{av:AV}(b:e0s P L o st=some av) (j:∀ t,Operand.tmp t∈o.op.operands->(∀ av,Z5 L t=some (.pu av)->N2 stX be oe av (a.tmps.getD t undef))/\(Z5 L t=none->N2 stX be oe (K3 st.fr t) (a.tmps.getD t undef))) : ∃ v,(execOp a.eval o).run P w = .ok (.value v) w/\N2 stX be oe av v:=by
 unfold e0s at b;split at b
 ·rename_i vs f g;obtain⟨d,e⟩:=t0b (a:=a) (stX:=stX) (be:=be) (oe:=oe) _ (λt h=>C0a (x := .tmp t) λu i=>oG) g;split at b;·cases b
  split at b;·rename_i v c;cases b;rw[k0g,L0d f d e]at c;exact⟨v,G0t _ c w,rfl⟩
  cases b
 cases b
theorem G09{L b:List (Nat×S00)}{st:St}:∀ {l:List Operand},(∀ t,Operand.tmp t∈l->Z5 L t=Z5 b t)->x0i L st l=x0i b st l
 | [],h=>rfl
 | .tmp t::r,h=>by simp only[x0i,b0a,h t mS,G09 λu a=>h u (mC _ a)]
 | .global _::r,h=>rfl
 | .const _::r,h=>G09 (l:=r) λu a=>h u (mC _ a)
 | .func _::r,h=>G09 (l:=r) λu a=>h u (mC _ a)
theorem h0k{L:List (Nat×S00)}{st:St}{o:Oper}{t:TypeId}{x:Operand}{i off:Nat}(b:o.op = .load t x)(a:b0a L st x = .box i off):∀ {l:List Oper},o∈l->i∈j06 L st l
 | [],h=>nomatch h
 |y::r,h=>by
  rcases List.mem_cons.1 h with rfl|h;·grind[j06,List.mem_cons_self]
  have:=h0k b a h;grind[j06,mC]
theorem F0m{bx a:List BSt}{i:Nat}:∀ {l:List Nat},F0e bx l=F0e a l->i∈l->nth bx i=nth a i
 | [],_,h=>nomatch h
 |y::r,e,h=>by
  simp only[F0e,List.cons.injEq]at e;rcases List.mem_cons.1 h with rfl|h;·exact e.1
  exact F0m e.2 h
theorem p0v{L:List (Nat×S00)}{st stX:St}{o:Oper}{av:AV}(l:Sim P h0 w0 be oe H stX h a w)(E:∀ t x i off,o.op = .load t x->b0a L st x = .box i off->nth stX.bx i=nth st.bx i)(c:E0e P L o st=some av) (f:∀ t,Operand.tmp t∈o.op.operands->(∀ av,Z5 L t=some (.pu av)->N2 stX be oe av (a.tmps.getD t undef))/\(Z5 L t=none->N2 stX be oe (K3 st.fr t) (a.tmps.getD t undef))) : ∃ v,(execOp a.eval o).run P w = .ok (.value v) w/\N2 stX be oe av v:=by
 unfold E0e at c;split at c
 ·rename_i x d;split at c;·cases c;simp_all[C0a,Op.operands,execOp]
  cases c
 ·rename_i x d;split at c;·cases c;simp_all[C0a,Op.operands,execOp]
  cases c
 ·rename_i t x d;have g:=C0a (L:=L) (st:=st) (stX:=stX) (be:=be) (oe:=oe) (a:=a) (x:=x) λt e=>f t (by rw[d];simp[Op.operands,e]);split at c
  ·rename_i i off j;rw[j]at g;split at c
   ·rename_i cs ty F;split at c
    ·rename_i A q;split at c;·cases c;obtain⟨D,vs,n,p⟩:=l.box i cs ty oG;obtain⟨C,v,u,y,z⟩:=R.load_row (H:=H) (b:=be i) (o:=0) (be:=be) (L0y q) n (λG v s=>by simp[Hp.cell,p,s]);subst u;exact⟨v,R.run_of (R.exec_load d g.2 (by simpa using z)) w (E0w l),y⟩
     cases c
    cases c
   cases c
  cases c
 ·rename_i t x k d;have g:=C0a (L:=L) (st:=st) (stX:=stX) (be:=be) (oe:=oe) (a:=a) (x:=x) λt e=>f t (by rw[d];simp[Op.operands,e]);split at c;·rename_i i off m j e;rw[j]at g;cases c;exact⟨ptr (be i) (off+m),R.run_of (R.exec_fieldAddr d e g.2) w (E0w l),g.1,rfl⟩
  cases c
 ·split at c;·exact X0p c f
  cases c
 ·split at c
  ·split at c;·exact X0p c f
   cases c
  cases c
 cases c
theorem l06{L:List (Nat×S00)}{st stX:St}{val:Nat->Value}{K:List (Nat×AV)->Prop}:∀ {l:List Operand} {acc:List (Nat×AV)},
  (∀ t,N2 stX be oe (K3 acc t) (val t))->(∀ t,Operand.tmp t∈l->(∀ av,Z5 L t=some (.pu av)->N2 stX be oe av (val t))/\(Z5 L t=none->N2 stX be oe (K3 st.fr t) (val t))) ->
  y0i L st.fr l acc K->∃ fr,K fr/\∀ t,N2 stX be oe (K3 fr t) (val t)
 | [],acc,c,b,a=>⟨acc,a,c⟩
 | .tmp t::r,acc,c,b,a=>by
  have f:∀ u,Operand.tmp u∈r->_:=λu d=>b u (mC _ d)
  have h:=b t mS
  have put:∀ av,N2 stX be oe av (val t)->∀ u,N2 stX be oe (K3 ((t,av)::acc) u) (val u):=λav g u=>by
   grind[l4]
  simp only[y0i]at a
  split at a
  ·rename_i av e
   exact l06 (put av (h.1 _ e)) f a
  ·rename_i i e
   exact l06 (put .dead trivial) f a
  ·rename_i e
   exact l06 (put _ (h.2 e)) f a
 | .const v::r,acc,c,b,a=>l06 (l:=r) c (λu d=>b u (mC _ d)) a
 | .global v::r,acc,c,b,a=>l06 (l:=r) c (λu d=>b u (mC _ d)) a
 | .func v::r,acc,c,b,a=>l06 (l:=r) c (λu d=>b u (mC _ d)) a
theorem F0h:∀(L:List (Nat×S00)) (fr:List (Nat×AV)) (t:Nat),K3 (f0s L fr) t=match Z5 L t with
  |some (.pu av)=>av
  |some (.ef _) => .dead
  |none=>K3 fr t
 | [],fr,t=>rfl
 |(d,.pu av)::r,fr,t=>by
  simp only[f0s]
  rw[l4,c09]
  split
  ·rfl
  ·exact F0h r fr t
 |(d,.ef F)::r,fr,t=>by
  simp only[f0s]
  rw[l4,c09]
  split
  ·rfl
  ·exact F0h r fr t
theorem Y0p{L a:List (Nat×S00)}{o:Oper}{st:St}(h:∀ t,Operand.tmp t∈o.op.operands->Z5 L t=Z5 a t):E0e P L o st=E0e P a o st:=by
 have d:∀ x:Operand,(∀ t,x = .tmp t->Operand.tmp t∈o.op.operands)->b0a L st x=b0a a st x:=λx c=>by
  cases x with
  |tmp t=>grind[b0a]
  |_=>rfl
 have e:e0s P L o st=e0s P a o st:=by unfold e0s;rw[G09 (l:=o.op.operands.toList) λt b=>h t (by simpa using b)]
 unfold E0e;split;·rename_i x c;rw[d x λt b=>by grind[Op.operands]]
 ·rename_i x c;rw[d x λt b=>by grind[Op.operands]]
 ·rename_i t x c;rw[d x λt b=>by grind[Op.operands]]
 all_goals grind[Op.operands,List.mem_cons_self,Call.operands]
theorem Z0p{k:Nat}:∀ {r:List Nat},inK k r=true->k∈r
 |x::r,h=>by simp only[inK,Bool.or_eq_true]at h;rw[List.mem_cons];exact h.imp (λe=>Nat.eq_of_beq_eq_true e) Z0p
theorem a0q{k:Nat}:∀ {l:List (Nat×Oper)},k∈u0h l->∃ p∈l,p.1=k
 |x::r,h=>by
  rcases List.mem_cons.1 h with h|h;·exact⟨x,mS,h.symm⟩
  obtain⟨p,a,b⟩:=a0q h;exact⟨p,mC _ a,b⟩
theorem P0e{es:List Nat}{i:Nat}{o:Oper}:∀ {N:Nat},w0c es N i o=true->∀ k,k<N->k≠i->(∃ e∈o.after,Region.binds .any e=true/\e.on=k)∨k∈es
 |0,_,k,b,_=>oM
 |N+1,h,k,b,a=>by
  simp only[w0c,Bool.and_eq_true,Bool.or_eq_true]at h;by_cases e:k=N
  ·subst e;rcases h.1 with(g|g)|g;·exact absurd (Nat.eq_of_beq_eq_true g) a
   ·exact .inl (g04 g)
   exact .inr (Z0p g)
  exact P0e h.2 k oM a
theorem y0o{l:Array Bool}{j:Nat}(h:l.getD j true=false):l.getD j false=false:=by grind
theorem E0i{x:Nat×Oper}:∀ {r:List (Nat×Oper)},(∀ y∈r,X02 y.1 x.2=false)->i0o x r=true
 | [],_=>rfl
 |y::r,h=>by simp only[i0o,Bool.and_eq_true];exact⟨by rw[h y mS];rfl,E0i λz a=>h z (mC _ a)⟩
theorem K0t{f:(Nat×Oper)->List (Nat×Oper)->Prop}{x:Nat×Oper}:∀ {B C A:List (Nat×Oper)},(∀ y∈C++A++B,X02 y.1 x.2=false)->g0s f (v0h C (A++x::B))->f x (C++A++B)
 |B,C,[],a,h=>by simp only[List.nil_append,v0h,g0s]at h;rw[E0i (by simpa using a)]at h;simpa using h.1
 |B,C,y::A,a,h=>by
  simp only[List.cons_append,v0h,g0s]at h;have b:g0s f (v0h (C ++ [y]) (A++x::B)):=by
   split at h;·exact h.2
   exact h
  have:=K0t (A:=A) (C:=C ++ [y]) (by simpa using a) b;simpa using this
theorem z0o:∀(l:List (Nat×Oper)),h0m l=l.length
 | []=>rfl
 |_::r=>by rw[h0m,z0o r];rfl
end
theorem H08:∀ {L:FL} {t:Nat} {x:List (Nat×Bool)×S00},g07 L t=some x->(t,x)∈L
 | [],t,x,h=>by cases h
 |(d,y)::r,t,x,h=>by
  simp only[g07]at h;split at h;·simp_all
  exact mC _ (H08 h)
theorem i0f:∀ {L:FL} {t:Nat} {x:List (Nat×Bool)×S00},(t,x)∈L->∃ y,g07 L t=some y
 |(d,y)::r,t,x,h=>by
  simp only[g07];split;·exact⟨_,rfl⟩
  rename_i a;rcases List.mem_cons.1 h with e|h;·simp_all
  exact i0f h
theorem q0v{bs:List BE}{x:BE}(f:∀ y∈bs,y.j≠x.j){a:Nat}{b:BE}(h:r06 bs a=some b):r06 (x::bs) a=some b:=by
 simp only[r06];split;·rename_i e;obtain⟨c,d⟩:=q07 h;simp_all
 exact h
abbrev Asg:=Nat->List (Nat×Bool)×Bool×S00
structure m0m (ops:List Oper) (A:Asg) (L:FL) (bs:List BE) (k:Nat):Prop where
 p1:∀ t x,(t,x)∈L->∃ i oi,i<k/\ops[i]?=some oi/\oi.dst=some t/\(A i).1=x.1/\(A i).2.2=x.2
 p2:∀ i oi d,i<k->ops[i]?=some oi->oi.dst=some d->∃ x,g07 L d=some x
 p3:∀ i,i<k->i<ops.length->cB bs (A i).1=some (A i).2.1
 p4:∀ x∈bs,x.j<k/\(∃ o,ops[x.j]?=some o/\o.dst=some x.d)/\(A x.j).1=x.ch/\(A x.j).2.2 = .pu (.val (.bool x.e))
structure v0e (bs bs':List BE):Prop where
 c:∀ ch c,cB bs ch=some c->cB bs' ch=some c
 e:∀ j b,r06 bs j=some b->r06 bs' j=some b
theorem v0e.refl(bs:List BE):v0e bs bs:=⟨λ_ _ h=>h,λ_ _ h=>h⟩
theorem v0e.trans{a b c:List BE}(d:v0e a b)(f:v0e b c):v0e a c:=⟨λch x h=>f.c ch x (d.c ch x h),λg b h=>f.e g b (d.e g b h)⟩
def OpU(P:Program)(st:St)(h:Hp)(L:FL)(bs:List BE)(o:Oper)(ch:List (Nat×Bool))(c:Bool):S00->Prop
 | .pu av=>G0e P L bs ch o st=some av∨∀ h',Sub h h'->imp ch c (U0b L st h' ch o.op.operands.toList [] λfr=>J00 P o { st with fr:=fr } h' (u0w av { st with fr:=fr } h'))
 | .ef F=>(∀ v a b,Sub a b->F v a->F v b)/\∀ h',Sub h h'->imp ch c (U0b L st h' ch o.op.operands.toList [] λfr=>K0p P o { st with fr:=fr } h' (w0w { st with fr:=fr } h' F))
theorem K0w{d:Option Tmp}{ch:List (Nat×Bool)}{f:S00}{L:FL}{p:Nat×List (Nat×Bool)×S00}(h:p∈j0o d ch f L):(∃ s,d=some s/\p=(s,ch,f))∨p∈L:=by
 cases d with
 |none=>exact .inr h
 |some s =>rcases List.mem_cons.1 h with h|h;all_goals grind
theorem L0w{i:Nat}{d:Option Tmp}{ch:List (Nat×Bool)}{av:AV}{bs:List BE}{x:BE}(h:x∈k0o i d ch av bs):(∃ s e,d=some s/\av = .val (.bool e)/\x=⟨i,s,e,ch⟩)∨x∈bs:=by unfold k0o at h;grind
theorem M0w{i:Nat}{d:Option Tmp}{ch:List (Nat×Bool)}{av:AV}{bs:List BE}(f:∀ y∈bs,y.j<i):v0e bs (k0o i d ch av bs):=by
 unfold k0o;split
 ·split;·refine⟨λe c h=>n0s (λy a=>?_) h,λg b h=>q0v (λy a=>?_) h⟩<;>(grind)
  exact v0e.refl _
 exact v0e.refl _
theorem M0y(P:Program)(i:Nat)(L:FL)(bs:List BE)(st:St)(h:Hp)(K:St->Hp->Prop):evU P [] i L bs st h K=∀ h',Sub h h'->i0m h' L st.fr λfr=>K { st with fr:=fr } h':=by obtain⟨n,fr,bx,ow⟩:=st;rfl
theorem N0w(P:Program)(o:Oper)(l:List Oper)(i:Nat)(L:FL)(bs:List BE)(st:St)(h:Hp)(K:St->Hp->Prop)(a:evU P (o::l) i L bs st h K):
    ∃ ch c f,m02 bs o.guard=some ch/\cB bs ch=some c/\(OpU P st h L bs o ch c f/\∀ av,G0e P L bs ch o st=some av->f = .pu av)/\∃ k,k=(match f with
      | .pu av=>k0o i o.dst ch av bs
      | .ef _=>bs)/\evU P l (i+1) (j0o o.dst ch f L) k st h K:=by
  obtain⟨n,fr,bx,ow⟩:=st
  change (match m02 bs o.guard with
        |some ch=>match cB bs ch with
          |some c=>match G0e P L bs ch o ⟨n,fr,bx,ow⟩with
            |some av=>G06 av λav=>evU P l (i+1) (j0o o.dst ch (.pu av) L) (k0o i o.dst ch av bs) ⟨n,fr,bx,ow⟩ h K
            |none=>(∃ av,(∀ h',Sub h h'->imp ch c (U0b L ⟨n,fr,bx,ow⟩ h' ch o.op.operands.toList [] λfr=>J00 P o ⟨n,fr,bx,ow⟩ h' (u0w av ⟨n,fr,bx,ow⟩ h'))) /\
                  G06 av λav=>evU P l (i+1) (j0o o.dst ch (.pu av) L) (k0o i o.dst ch av bs) ⟨n,fr,bx,ow⟩ h K) ∨
                (∃ d:Value->Hp->Prop,(∀ v e b,Sub e b->d v e->d v b) /\
                  (∀ h',Sub h h'->imp ch c (U0b L ⟨n,fr,bx,ow⟩ h' ch o.op.operands.toList [] λfr=>K0p P o ⟨n,fr,bx,ow⟩ h' (w0w ⟨n,fr,bx,ow⟩ h' d))) /\
                  evU P l (i+1) (j0o o.dst ch (.ef d) L) bs ⟨n,fr,bx,ow⟩ h K)
          |none=>False
        |none=>False)at a
  split at a
  · rename_i ch j
    split at a
    · rename_i c g
      split at a
      · rename_i av q
        rw[p07]at a
        exact⟨ch,c,.pu av,j,g,⟨.inl q,λs h'=>oG⟩,_,rfl,a⟩
      · rename_i t
        have m:∀(f:S00) av,G0e P L bs ch o ⟨n,fr,bx,ow⟩=some av->f = .pu av:=λf av h'=>oG
        rcases a with⟨av,e,b⟩|⟨d,e,b,p⟩
        · rw[p07]at b
          exact⟨ch,c,.pu av,j,g,⟨.inr e,m _⟩,_,rfl,b⟩
        · exact⟨ch,c,.ef d,j,g,⟨⟨e,b⟩,m _⟩,_,rfl,p⟩
    · exact a.elim
  · exact a.elim
theorem i0k{P:Program}{ops:List Oper}{st:St}{h:Hp}{K:St->Hp->Prop}(am:∀(i a:Nat) (q R:Oper) (d:Nat),ops[i]?=some q->ops[a]?=some R->q.dst=some d->R.dst=some d->i=a):
  ∀(l:List Oper) (k:Nat) (L:FL) (bs:List BE) (s:Asg),(∀ a,l[a]?=ops[k+a]?)->k+l.length=ops.length->m0m ops s L bs k->evU P l k L bs st h K ->
   ∃(A:Asg) (M:FL) (z:List BE),(∀ i,i<k->A i=s i)/\v0e bs z/\m0m ops A M z ops.length /\
    (∀ a o,k<=a->ops[a]?=some o->∃ S E,m02 z o.guard=some (A a).1/\m0m ops A S E a/\v0e E z/\cB E (A a).1=some (A a).2.1/\(OpU P st h S E o (A a).1 (A a).2.1 (A a).2.2/\∀ av,G0e P S E (A a).1 o st=some av->(A a).2.2 = .pu av)) /\
    (∀ h',Sub h h'->i0m h' M st.fr λfr=>K { st with fr:=fr } h')
 | [],k,L,bs,s,W,ae,m,ad=>by
  have af:k=ops.length:=by simpa using ae
  grind[v0e.refl,M0y,List.getElem?_eq_some_iff]
 |o::l,k,L,bs,s,W,ae,m,ad=>by
  have Y:ops[k]?=some o:=by simpa using (W 0).symm
  have ar:∀ a,l[a]?=ops[k+1+a]?:=λa=>by have:=W (a+1);grind
  have af:k+1+l.length=ops.length:=oG
  obtain⟨ch,c,f,v,ac,au,V,ap,aq⟩:=N0w P o l k L bs st h K ad
  let D:Asg:=λi=>if i=k then(ch,c,f)else s i
  have N:D k=(ch,c,f):=by simp[D]
  have aa:∀ i,i<k->D i=s i:=λi n=>oG
  have az:∀ y∈bs,y.j<k:=λy ax=>(m.p4 y ax).1
  have J:v0e bs V:=by
   grind[M0w,v0e.refl]
  have aw:m0m ops D (j0o o.dst ch f L) V (k+1):=by
   refine⟨λt x g=>?_,λi q d n I Q=>?_,λi n X=>?_,λx g=>?_⟩
   ·rcases K0w g with⟨ai,ah,e⟩|g
    ·grind
    ·obtain⟨i,q,u,F,G,H,al⟩:=m.p1 t x g
     grind
   ·rcases Nat.lt_or_ge i k with C|C
    ·obtain⟨x,g⟩:=m.p2 i q d C I Q
     cases hd:o.dst with
     |none=>exact⟨x,g⟩
     |some ai=>exact i0f (x:=x) (mC _ (H08 g))
    ·have:i=k:=oM
     subst this
     rw[Y]at I;cases I
     rw[Q]
     exact i0f mS
   ·rcases Nat.lt_or_ge i k with C|C
    ·rw[aa i C];exact J.c _ _ (m.p3 i C X)
    ·have:i=k:=oM
     subst this
     rw[N];exact J.c _ _ ac
   ·subst ap
    cases f with
    |ef ay =>
     obtain⟨u,F,G,H⟩:=m.p4 x g
     grind
    |pu av =>
     rcases L0w g with⟨ai,e,ah,an,rfl⟩|g
     ·refine⟨nS _,⟨o,Y,ah⟩,by rw[N],?_⟩
      rw[N,an]
     ·obtain⟨u,F,G,H⟩:=m.p4 x g
      grind
  obtain⟨A,M,z,ab,T,aj,b4,ak⟩:=i0k am l (k+1) _ V D ar af aw aq
  have U:A k=(ch,c,f):=by rw[ab k (nS _),N]
  have O:∀ i,i<k->A i=s i:=λi n=>by rw[ab i (Nat.lt_succ_of_lt n),aa i n]
  refine⟨A,M,z,O,J.trans T,aj,λa R aA Z=>?_,ak⟩
  rcases Nat.lt_or_ge k a with ag|ag
  ·exact b4 a R ag Z
  ·have:a=k:=oM
   subst this
   rw[Y]at Z;cases Z
   refine⟨L,bs,?_,⟨λt x g=>?_,λi q d n I Q=>m.p2 i q d n I Q,λi n X=>?_,λx g=>?_⟩,J.trans T,by rw[U];exact ac,by rw[U];exact au⟩
   ·rw[U]
    cases hg:o.guard with
    |none=>rw[hg]at v;exact v
    |some p =>
     obtain⟨aB,w⟩:=p
     rw[hg]at v
     simp only[m02]at v ⊢
     split at v
     ·rename_i b ao
      rw[(J.trans T).e _ _ ao]
      exact v
     ·cases v
   ·obtain⟨i,q,u,F,G,H,al⟩:=m.p1 t x g
    grind
   ·rw[O i n];exact m.p3 i n X
   ·obtain⟨u,F,G,H⟩:=m.p4 x g
    exact⟨u,F,by rw[O _ u];exact G,by rw[O _ u];exact H⟩
section
variable {P:Program} {h0:Hp} {w0:World} {be:Nat->Nat} {oe:Nat->Value} {H:Hp} {st:St} {h:Hp} {a:Act} {w:World} {o:Oper} {K:AV->St->Hp->Prop} {Q:Exit->Act->World->Prop}
theorem b0q(i:Sim P h0 w0 be oe H st h a w){t n:Nat}{f:Array (Nat×Operand)}(m:o.op = .buildSlice t n f)(z:f.toList = [])(c:x0w P t n st h K):o.wp P a w (Nx P h0 w0 st be oe K a o.dst) Q:=by
 unfold x0w at c;split at c;rotate_left;·exact c.elim
 rename_i e u;split at c;rotate_left;·exact c.elim
 rename_i sz s k;have l:=Nat.eq_of_beq_eq_true k;subst l;have p:f = #[]:=oG;subst p;have v:wpS P (execOp a.eval o) h (λg h'=>∃ b,h b=none/\g = .value (.slice (some ⟨b,0,none⟩) 0 0)/\h'=h.set b (.cells #[] e (0,0))):=by unfold execOp;rw[m];refine p00 _ _ _ ?_;simp only[Instr.buildSlice,Q2,M7 (U01 u),k04 s,Nat.zero_mul,I3];rw[if_neg oM];simp only[I3,if_true,Instr.fill,Array.map_empty,Q2,newRow,newObj,wpS];exact λb d=>⟨b,d,rfl,by rw[show Array.range 0 = #[] from rfl,Array.map_empty]⟩
 obtain⟨g,h',A,q,⟨b,d,rfl,rfl⟩,j⟩:=u02 _ _ _ (y0c i) v;obtain⟨y,x⟩:=i.moved j;exact R9 q ⟨_,_,_,_,_,_,_,c b d,rfl,x,rfl,V8.refl _ _ _⟩
theorem c0q(l:Sim P h0 w0 be oe H st h a w){t:TypeId}{p q:Operand}{as:Array Operand}{R:Array TypeId}(L:o.op = .call { callee := .builtin .append,args:=as,argTypes:=R }) (F:as = #[p,q]) (N:R = #[t,t]) (d:y0w P t p q st h K):o.wp P a w (Nx P h0 w0 st be oe K a o.dst) Q:=by
 unfold y0w at d;split at d;rotate_left;·exact d.elim
 rename_i e aa;split at d;rotate_left;·exact d.elim
 rename_i sz by_ z Z S ac;split at d;rotate_left;·exact d.elim
 rename_i ad;obtain⟨i,v,C,ag,ai⟩:=h0f Z S ac;have y:=U01 aa;have ae:z.cells.size=i.size:=by rw[C];simpa using d06 _ _ ad
 have g:=l.rdO p;split at d;rotate_left;·exact d.elim
 rename_i m n Y;rw[Y]at g;have s:a.eval p = .slice (some ⟨m,n,none⟩) 0 0:=g;obtain⟨b,⟨M,W,J⟩,k⟩:=W08 l (Nat.succ_pos sz) d;have af:i.size=sz+1:=C;have ah:i.bytes=by_+1:=ag;rw[←C]at k;rw[←af]at J;rw[←ah]at M;have T:0<i.bytes:=oG;have am:b.length<=140737488355328:=Nat.le_trans (Nat.le_mul_of_pos_right _ T) M;have X:((0+b.length:Nat):Int)<=9223372036854775807:=oM;have I:=g03 b (λx A=>(k.1 x A).1);have O:=y0c l;by_cases hn:b = []
 ·have j:(Builtin.append_ #[t,t] o.type #[.slice (some ⟨m,n,none⟩) 0 0,a.eval q]).run P w = .ok (.slice (some ⟨m,n,none⟩) 0 0) w:=by
   subst hn;rcases k.2 with⟨D,c,f,G⟩|⟨c,f,_⟩;·rw[f];simp[Builtin.append_,run_underlying y,sizeOf,typeInfo,v,Builtin.lenOf,Builtin.firstCells,loadCells,loadCellsFrom,storeCells]
   rw[f];simp[Builtin.append_,run_underlying y,sizeOf,typeInfo,v,Builtin.lenOf,Builtin.firstCells,storeCells]
  rw[←s]at j;exact R9 (t06 L F N j) ⟨_,_,h,_,_,_,_,W hn,rfl,l,s,V8.refl _ _ _⟩
 rcases k.2 with⟨D,E,f,G⟩|⟨E,f,ab⟩;rotate_left;·exact absurd ab hn
 have an:0<b.length:=by grind
 have j:=run_append_grow (P:=P) w t o.type e i z y v ai ⟨m,n,none⟩ 0 0 [] oS (λao u V=>by simp at V) D b.length E b.flatten I G oM X (growslice_fits oM (by grind[s0a]));have al:=grownCap_ge w (0+b.length) 0 e;have U:grownCap w (0+b.length) 0 e<=maxLen:=grownCap_le_maxLen w _ 0 e (by unfold maxLen;omega);rw[←f,←s]at j;obtain⟨ak,aj⟩:=l.moved (V2.newD O (.cells ([].toArray++b.flatten.toArray++Builtin.zeroCells z.cells (grownCap w (0+b.length) 0 e-(0+b.length))) e (0,0)) rfl);refine R9 (t06 L F N j) ⟨_,_,_,_,_,_,_,J _ _ ⟨λx A=>k.1 x A,.inr ⟨w.heap.size,grownCap w (0+b.length) 0 e,_,?_,R05 O,rfl,oM,U,?_,?_⟩⟩,rfl,aj,rfl,V8.refl _ _ _⟩;·rw[Nat.zero_add]
 ·simp only[Array.size_append,List.size_toArray,I,size_zeroCells,ae,List.length_nil,←Nat.add_mul,Nat.zero_add];grind
 grind
theorem d0q(e:Sim P h0 w0 be oe H st h a w)(b:K0p P o st h K):o.wp P a w (Nx P h0 w0 st be oe K a o.dst) Q:=by
 unfold K0p at b;split at b;·grind[b0q,r03]
 ·rename_i as j d;split at b
  ·rename_i x y t i f g;split at b;·rename_i c;have:=Nat.eq_of_beq_eq_true c;subst this;exact c0q e d oG oG b
   exact b.elim
  exact b.elim
 grind[r03]
end
section
variable {P:Program} {h0:Hp} {w0:World} {be:Nat->Nat} {oe:Nat->Value} {H:Hp} {h:Hp} {a:Act} {w:World}
def A0o(st:St)(be:Nat->Nat)(oe:Nat->Value)(h:Hp)(bs:List BE)(x:List (Nat×Bool)×S00)(v:Value):Prop:=cB bs x.1=some true->d0a st be oe h x.2 v
theorem X04{L:FL}{st:St}{h:Hp}{bs:List BE}{ch:List (Nat×Bool)}{val:Nat->Value}{K:List (Nat×AV)->Prop}(d:cB bs ch=some true):∀ {l:List Operand} {acc:List (Nat×AV)},
  (∀ t,N2 st be oe (K3 acc t) (val t))->(∀ t,Operand.tmp t∈l->(∀ x,g07 L t=some x->A0o st be oe h bs x (val t))/\(g07 L t=none->N2 st be oe (K3 st.fr t) (val t))) ->
  U0b L st h ch l acc K->∃ fr,K fr/\∀ t,N2 st be oe (K3 fr t) (val t)
 | [],acc,c,b,a=>⟨acc,a,c⟩
 | .tmp t::r,acc,c,b,a=>by
  have j:∀ u,Operand.tmp u∈r->_:=λu i=>b u (mC _ i)
  have k:=b t mS
  have put:∀ av,N2 st be oe av (val t)->∀ u,N2 st be oe (K3 ((t,av)::acc) u) (val u):=λav g u=>by
   grind[l4]
  simp only[U0b]at a
  split at a
  ·rename_i o f e
   split at a
   ·rename_i m
    have hf:=k.1 _ e (S0d m d)
    cases f with
    |pu av=>exact X04 d (put av hf) j a
    |ef n=>exact X04 d (put (.val (val t)) rfl) j (a _ hf)
   ·exact a.elim
  ·rename_i e
   exact X04 d (put _ (k.2 e)) j a
 | .const v::r,acc,c,b,a=>X04 (l:=r) d c (λu i=>b u (mC _ i)) a
 | .global v::r,acc,c,b,a=>X04 (l:=r) d c (λu i=>b u (mC _ i)) a
 | .func v::r,acc,c,b,a=>X04 (l:=r) d c (λu i=>b u (mC _ i)) a
theorem G0m{st:St}{val:Nat->Value}{K:List (Nat×AV)->Prop}:∀ {L:FL} {fr:List (Nat×AV)},(∀ p∈L,p.2.1 = []->d0a st be oe h p.2.2 (val p.1)) -> (∀ t,(∀ x,(t,x) ∉ L)->N2 st be oe (K3 fr t) (val t))->i0m h L fr K->∃ fr,K fr/\∀ t,N2 st be oe (K3 fr t) (val t)
 | [],fr,b,c,a=>⟨fr,a,λt=>c t oS⟩
 |(d,ch,f)::r,fr,b,c,a=>by
  have step:∀ av,N2 st be oe av (val d)->i0m h r ((d,av)::fr) K->∃ fr,K fr/\∀ t,N2 st be oe (K3 fr t) (val t):=λav g a =>
   G0m (L:=r) (fr:=(d,av)::fr) (λp e=>b p (mC _ e)) (λt j=>by
    grind[l4]) a
  cases ch with
  |nil =>
   have hf:=b (d,[],f) mS rfl;cases f with
   |pu av=>exact step av hf a
   |ef i=>exact step (.val (val d)) rfl (a _ hf)
  |cons p q =>refine step .dead trivial ?_;cases f<;>exact a
theorem O0w{st:St}{L:FL}{bs:List BE}{ch:List (Nat×Bool)}{o:Oper}{av:AV}(c:G0e P L bs ch o st=some av)(z:cB bs ch=some true) (am:∀ t,(∀ x,g07 L t=some x->A0o st be oe h bs x (a.tmps.getD t undef))/\(g07 L t=none->N2 st be oe (K3 st.fr t) (a.tmps.getD t undef))∨Operand.tmp t ∉ o.op.operands) (az:∀ x∈bs,∀ y,g07 L x.d=some y->y=(x.ch,.pu (.val (.bool x.e)))) (ah:∀ x∈bs,r06 bs x.j=some x) (ax:∀ x∈bs,∃ y,g07 L x.d=some y) (U:∀ {fr:List (Nat×AV)},(∀ t,N2 st be oe (K3 fr t) (a.tmps.getD t undef))->Sim P h0 w0 be oe H { st with fr:=fr } h a w) {Q:Exit->Act->World->Prop} : o.wp P a w (λF l=>∃ v be' oe' D,F=a.put o.dst v/\(∃ fr,Sim P h0 w0 be' oe' D { st with fr:=fr } h a l)/\V8 st be oe st be' oe'/\N2 st be' oe' av v) Q:=by
 have I:Sim P h0 w0 be oe H { st with fr:=[] } h a w:=U (λt=>trivial);have rd:∀(x:Operand) (J:List (Nat×Bool)),cB bs J=some true->(∀ t,x = .tmp t->Operand.tmp t∈o.op.operands)->N2 st be oe (rdU L st J x) (a.eval x):=by
  intro x J af f;cases x with
  |tmp t =>
   have Z:=(am t).resolve_right (λC=>C (f t rfl));simp only[rdU];split
   ·rename_i au A e;split
    ·rename_i S;have:=Z.1 _ e (S0d S af);have g:N2 st be oe A (a.tmps.getD t undef):=this;have s:=I.rdA (N2.fr (st:=st) (fr:=[]) g);have p:rdA { st with fr:=[] } A=rdA st A:=by obtain⟨n,fr,bx,ow⟩:=st;cases A<;>rfl
     rw[p]at s;exact N2.fr (st := { st with fr:=[] }) (fr:=st.fr) s
    trivial
   ·trivial
   rename_i e;have g:=Z.2 e;have s:=I.rdA (N2.fr (st:=st) (fr:=[]) g);have p:rdA { st with fr:=[] } (K3 st.fr t)=rdA st (K3 st.fr t):=by obtain⟨n,fr,bx,ow⟩:=st;cases K3 fr t<;>rfl
   rw[p]at s;exact N2.fr (st := { st with fr:=[] }) (fr:=st.fr) s
  |const v=>exact rfl
  |global v=>trivial
  |func v=>exact rfl
 have done:∀ {v:Value},(∀ l,(execOp a.eval o).run P l = .ok (.value v) l ∨ ¬ Vis H l)->N2 st be oe av v->o.wp P a w (λF l=>∃ v be' oe' D,F=a.put o.dst v/\(∃ fr,Sim P h0 w0 be' oe' D { st with fr:=fr } h a l)/\V8 st be oe st be' oe'/\N2 st be' oe' av v) Q:=λ{v} m g =>
  R9 ((m w).resolve_right λC=>C I.mv.vis) ⟨v,be,oe,H,rfl,⟨[],I⟩,V8.refl _ _ _,g⟩
 unfold G0e at c;split at c;·rename_i x f;have g:=rd x ch z (λt e=>by rw[f];simp[Op.operands,e]);refine done (v:=a.eval x) (λl => .inl (by unfold execOp;rw[f];rfl)) ?_;revert c;cases m:rdU L st ch x<;>intro c<;>first|(cases c;done)|(cases c;rw[m]at g;exact g)
 ·rename_i x f;have g:=rd x ch z (λt e=>by rw[f];simp[Op.operands,e]);refine done (v:=a.eval x) (λl => .inl (by unfold execOp;rw[f];rfl)) ?_;revert c;cases m:rdU L st ch x<;>intro c<;>first|(cases c;done)|(cases c;rw[m]at g;exact g)
 ·rename_i t x f;have g:=rd x ch z (λt e=>by rw[f];simp[Op.operands,e]);split at c
  ·rename_i i off m;rw[m]at g;split at c
   ·rename_i cs ty C;have ao:∃ u,x = .tmp u:=by
     cases x with
     |tmp u=>exact⟨u,rfl⟩
     |const v=>simp[rdU,rdO]at m
     |global v=>simp[rdU,rdO]at m
     |func v=>simp[rdU,rdO]at m
    obtain⟨u,rfl⟩:=ao;have ag:J00 P o { st with fr:=[(u,.box i off)] } h λT st' h'=>T=av/\st' = { st with fr:=[(u,.box i off)] }/\h'=h:=by
     have ak:rdO { st with fr:=[(u,.box i off)] } (.tmp u) = .box i off:=by show rdA _ (K3 [(u,AV.box i off)] u)=_;rw[l4,if_pos rfl];simp only[rdA,C]
     simp only[J00,f,ak,C];grind[U0j,N08,a0o,J7]
    have s1:=U (fr:=[(u,.box i off)]) (λaA=>by
     rw[l4];split;·rename_i e;subst e;exact g
     trivial)
    refine Oper.wp_mono (λF l f=>?_) (r03 s1 ag);obtain⟨T,st',aw,v,be',oe',D,⟨K,p,ac⟩,ae,s2,s,G⟩:=f;rw[p,ac]at s2;rw[K,p]at s;rw[p]at G;exact⟨v,be',oe',D,ae,⟨_,s2⟩,⟨G.bl,G.be,G.sm⟩,N2.fr (st := { st with fr:=[(u,.box i off)] }) (fr:=st.fr) s⟩
   cases c
  cases c
 ·rename_i t x k f;have g:=rd x ch z (λt e=>by rw[f];simp[Op.operands,e]);split at c
  ·rename_i i off M m Y;rw[m]at g;cases c;refine done (v:=ptr (be i) (off+M)) (λl=>?_) ⟨g.1,rfl⟩;by_cases hvis:Vis H l;·exact .inl (R.run_of (R.exec_fieldAddr (H:=H) f Y g.2) l hvis)
   exact .inr hvis
  ·rename_i sl aq sz ar M m Y;rw[m]at g;cases c;obtain⟨b,aa,n,cp,K,p⟩:=g;refine done (v:=ptr b (aa+(aq.toNat*sz+ar)+M)) (λl=>?_) ⟨b,aa,n,cp,K,by simp[Nat.add_assoc]⟩;grind[Vis,R.run_of,R.exec_fieldAddr]
  cases c
 ·rename_i ab x y f;have g:=rd (.tmp ab) ch z (λt e=>by rw[f];cases e;simp[Op.operands]);split at c
  ·rename_i e q S aj;rw[S]at g;have ad:a.eval (.tmp ab) = .bool e:=g;split at c
   ·rename_i al;obtain⟨ai,ay⟩:=D0h aj;have W:=S0d al z;have X:q.e=e:=by grind[rdU,bool,Go.H.rdA]
    have V:=ah q ai;split at c
    ·rename_i bx by_ an ap;cases c;refine done (v := .bool (cond e bx by_)) (λl => .inl ?_) rfl;unfold execOp;rw[f];simp only[ad,Sem.run_bind,asBool,Sem.run_pure,Result.andThen_ok];cases e
     ·have O:cB bs ((q.j,false)::q.ch)=some true:=by rw[B08,V,W];simp[lit,X]
      have E:=rd y _ O (λt e=>by rw[f];simp[Op.operands,e]);rw[ap]at E;have N:a.eval y = .bool by_:=E;simp[N]
     have O:cB bs ((q.j,true)::q.ch)=some true:=by rw[B08,V,W];simp[lit,X]
     have E:=rd x _ O (λt e=>by rw[f];simp[Op.operands,e]);rw[an]at E;have N:a.eval x = .bool bx:=E;simp[N]
    cases c
   cases c
  cases c
 cases c
theorem Sim.untail{st:St}{t:List Own}(c:Sim P h0 w0 be oe H { st with ow:=st.ow++t } h a w)(hf:∀ u,N2 st be oe (K3 st.fr u) (a.tmps.getD u undef)) (m:∀ i cs ty,nth st.bx i=some (.live cs ty)->∃ vs,J2 st oe cs vs/\H (be i)=some (.cells vs.toArray ty (0,0))):Sim P h0 w0 be oe H st h a w:=by
 have up:∀ i o,nth st.ow i=some o->nth (st.ow++t) i=some o:=λi o b=>by grind[T08,List.getElem?_append_left,List.getElem?_eq_some_iff]
 refine⟨c.mv,c.sub,λi cs ty b=>⟨(c.box i cs ty b).1,m i cs ty b⟩,c.pub,λi j e sz by_ nn xs b=>c.own i j e sz by_ nn xs (up i _ b),λi j v b=>c.frz i j v (up i _ b),c.bb,
  λi d s1 e sz by_ nn xs s2 l p k n q g b f=>c.oo i d s1 e sz by_ nn xs s2 l p k n q g (up i _ b) (up d _ f),λi cs ty d s1 e sz by_ nn xs b f=>c.bo i cs ty d s1 e sz by_ nn xs b (up d _ f),c.dfr,c.siz,hf⟩
def j0f(P:Program)(h0:Hp)(w0:World)(ops:Array Oper)(st:St)(h:Hp)(A:Asg)(sk:Nat->Bool)(kp:List (Nat×Value))(c:Array Bool)(a:Act)(w:World):Prop :=
 ∃ be oe H h',Sub h h'/\Sim P h0 w0 be oe H { st with fr:=d6 ops.toList st.fr } h' a w/\(∀ p∈kp,a.tmps.getD p.1 undef=p.2) /\
  ∀ b o d,sk b=false->ops[b]?=some o->o.dst=some d->c.getD b false=true->((A b).2.1=true->d0a st be oe h' (A b).2.2 (a.tmps.getD d undef))/\((A b).2.1=false->a.tmps.getD d undef=undef)
theorem N0y{st st':St}(t:h0s st st'):∃ r,st' = { st with ow:=st.ow++r }:=by obtain⟨n,fr,bx,ow⟩:=st;obtain⟨g,b,a,h⟩:=st';obtain⟨c,d,e,r,f⟩:=t;grind
theorem O0y{b:Type}{l r:List b}{i:Nat}(a:i<l.length):nth (l++r) i=nth l i:=by rw[T08,T08,List.getElem?_append_left a]
theorem H0m{st:St}{r:List Own}{i a:Nat}(b:stamp st i=some a):stamp { st with ow:=st.ow++r } i=some a:=by grind[stamp,nth,O0y,W04]
theorem C0z{ops:Array Oper}{st:St}{A:Asg}{sk:Nat->Bool}{kp:List (Nat×Value)}{bi:FL}{al:List BE}{Y:Array Bool}{f:Nat}{o:Oper}{Q:Exit->Act->World->Prop} (bu:∀(i f:Nat) (m a6:Oper) (d:Nat),ops.toList[i]?=some m->ops.toList[f]?=some a6->m.dst=some d->a6.dst=some d->i=f) (an:∀ o∈ops.toList,∀ d,o.dst=some d->d<st.n) (bt:∀(k:Nat) (o:Oper),ops.toList[k]?=some o->∀ e∈o.after,Region.binds .any e=true->e.on<k) (aV:∀ o∈ops.toList,∀ t,Operand.tmp t∈o.op.operands->∀(i:Nat) (m:Oper),ops.toList[i]?=some m->m.dst=some t->∃ e∈o.after,Region.binds .any e=true/\e.on=i) (bH:∀ o∈ops.toList,∀ i w,o.guard=some (i,w)->X02 i o=true) (aw:m0m ops.toList A bi al ops.toList.length) (aS:∀ f o,ops.toList[f]?=some o->∃ U F,m02 al o.guard=some (A f).1/\m0m ops.toList A U F f/\v0e F al/\cB F (A f).1=some (A f).2.1/\(OpU P st h U F o (A f).1 (A f).2.1 (A f).2.2/\∀ av,G0e P U F (A f).1 o st=some av->(A f).2.2 = .pu av)) (cf:sk f=false) (ci:∀(i:Nat) (m:Oper) (d:Nat),ops.toList[i]?=some m->m.dst=some d->sk i=true->∀ E∈ops.toList,Operand.tmp d ∉ E.op.operands) (bR:∀ i,sk i=true->(A i).2.2 = .pu (.val undef)) (cg:∀ p∈kp,∃(i:Nat) (m:Oper),ops.toList[i]?=some m/\m.dst=some p.1/\sk i=true) (aX:ops[f]?=some o) (aZ:∀ e∈o.after,Region.binds .any e=true->Y.getD e.on false=true) (aj:j0f P h0 w0 ops st h A sk kp Y a w) : (Region.wanted o (yielded ops a.tmps)=true->o.wp P a w (j0f P h0 w0 ops st h A sk kp (Y.setIfInBounds f true)) Q) /\ (Region.wanted o (yielded ops a.tmps)=false->j0f P h0 w0 ops st h A sk kp (Y.setIfInBounds f true) (a.put o.dst undef) w):=by
 obtain⟨be,oe,H,h',aJ,af,keep,aB⟩:=aj;have ao:ops.toList[f]?=some o:=by simpa using aX
 have am:o∈ops.toList:=List.mem_of_getElem? ao;have aW:f<ops.toList.length:=(List.getElem?_eq_some_iff.1 ao).1;obtain⟨U,F,ad,X,bW,ax,M,_⟩:=aS f o ao;have ai:cB al (A f).1=some (A f).2.1:=aw.p3 f aW aW;have a2:Region.wanted o (yielded ops a.tmps)=(A f).2.1:=by
  unfold Region.wanted;cases hg:o.guard with
  |none =>
   rw[hg]at ad;cases hch':(A f).1 with
   |nil=>rw[hch']at ai;exact oJ ai
   |cons p q=>rw[hch']at ad;cases ad
  |some p =>
   obtain⟨i,aO⟩:=p;rw[hg]at ad;simp only[m02]at ad;split at ad
   ·rename_i b K;obtain⟨bL,rfl⟩:=q07 K;obtain⟨G,⟨E,C,O⟩,aq,ah⟩:=aw.p4 b bL;have aG:Y.getD b.j false=true:=by obtain⟨e,S,bz,ap⟩:=g04 (bH o am b.j aO hg);rw[←ap];exact aZ e S bz
    have bQ:sk b.j=false:=by
     cases e:sk b.j;·rfl
     rw[bR b.j e]at ah;cases ah
    have hf:=aB b.j E b.d bQ (by simpa using C) O aG;have aU:=aw.p3 b.j G G;rw[aq]at aU;have ae:b.d<a.tmps.size:=by rw[af.siz];exact an E (List.mem_of_getElem? C) b.d O
    have aL:a.tmps[b.d]?=some (if(A b.j).2.1=true then .bool b.e else undef):=by
     rw[Array.getElem?_eq_getElem ae];have bI:a.tmps.getD b.d undef=a.tmps[b.d]:=by simp[ae]
     cases L:(A b.j).2.1;·grind
     have:=hf.1 L;rw[ah,bI]at this;have J:a.tmps[b.d] = .bool b.e:=this;rw[J];rfl
    have aM:yielded ops a.tmps b.j=if(A b.j).2.1=true then some b.e else none:=by
     unfold yielded;have:ops[b.j]?=some E:=by simpa using C
     simp only[this,O,oB,aL];cases (A b.j).2.1<;>rfl
    have bD:(A f).1=(b.j,aO)::b.ch:=by grind
    rw[bD,B08,K,aU]at ai;simp only[Option.some.injEq]at ai;simp only[aM,←ai];cases (A b.j).2.1<;>cases aO<;>cases b.e<;>rfl
   cases ad
 have b3:∀ i m,ops.toList[i]?=some m->∀ aa,(A i).2.2 = .ef aa->∀ v I J,Sub I J->aa v I->aa v J:=λi m ay aa bv=>by obtain⟨b5,b8,_,_,_,_,aY,_⟩:=aS i m ay;rw[bv]at aY;exact aY.1
 have fin:∀ {fr:List (Nat×AV)} {ag:Act} {T:World} {R:Hp} {be':Nat->Nat} {oe':Nat->Value} {N:Hp} {v:Value},Sub h' R->ag=a.put o.dst v->Sim P h0 w0 be' oe' N { st with fr:=fr } R a T ->
   V8 st be oe st be' oe'->((A f).2.1=true->d0a st be' oe' R (A f).2.2 v)->((A f).2.1=false->v=undef)->j0f P h0 w0 ops st h A sk kp (Y.setIfInBounds f true) ag T:=by
  intro fr ag T R be' oe' N v a1 ac b0 ar aL bS
  subst ac
  have bq:V8 { st with fr:=d6 ops.toList st.fr } be oe { st with fr:=d6 ops.toList st.fr } be' oe':=⟨ar.bl,ar.be,ar.sm⟩
  have s1:Sim P h0 w0 be' oe' N { st with fr:=d6 ops.toList st.fr } R a T :=
   b0.refr (fr:=d6 ops.toList st.fr) λt=>N2.fr (st := { st with fr:=d6 ops.toList st.fr }) ((af.fr t).grow bq)
  have s2:Sim P h0 w0 be' oe' N { st with fr:=d6 ops.toList st.fr } R (a.put o.dst v) T:=by
   cases W:o.dst with
   |none=>exact s1
   |some d =>
    have aH:=s1.put (d:=d) (av := .dead) (v:=v) (an o am d W) trivial
    refine aH.refr (fr:=d6 ops.toList st.fr) λt=>?_
    have g:=aH.fr t
    grind[l4,x05]
  have ct:∀ d,o.dst≠some d->(a.put o.dst v).tmps.getD d undef=a.tmps.getD d undef:=λd W=>by
   cases aF:o.dst with
   |none=>rfl
   |some V=>simp[Act.put,Array.getElem?_setIfInBounds_ne (λe=>W (by rw[aF,e]):V≠d)]
  refine⟨be',oe',N,R,λb x K=>a1 b x (aJ b x K),s2,λp aH=>?_,λi m d aK I J aR=>?_⟩
  ·grind
  by_cases hij:f=i
  ·subst hij
   rw[aX]at I;cases I
   have ae:d<a.tmps.size:=by rw[af.siz];exact an o am d J
   have:(a.put o.dst v).tmps.getD d undef=v:=by
    rw[J]
    simp[Act.put,ae]
   rw[this]
   exact⟨aL,bS⟩
  ·have bK:Y.getD i false=true:=by rw[getD_set_ne false hij]at aR;exact aR
   have bN:∀ V,o.dst=some V->V≠d:=λV aF e=>by
    subst e
    exact hij (bu f i o m V ao (by simpa using I) aF J)
   have:(a.put o.dst v).tmps.getD d undef=a.tmps.getD d undef:=by
    cases W:o.dst with
    |none=>rfl
    |some V=>simp[Act.put,Array.getElem?_setIfInBounds_ne (bN V W)]
   rw[this]
   obtain⟨ak,bX⟩:=aB i m d aK I J bK
   refine⟨λL=>?_,bX⟩
   have ak:=ak L
   cases hA:(A i).2.2 with
   |pu av=>rw[hA]at ak;exact N2.grow ar ak
   |ef aa=>rw[hA]at ak;exact b3 i m (by simpa using I) aa hA _ _ _ a1 ak
 refine⟨λbV=>?_,λbU=>?_⟩;rotate_left
 ·have L:(A f).2.1=false:=by rw[←a2];exact bU
  exact fin (fr:=d6 ops.toList st.fr) (λ_ _ h=>h) rfl af (V8.refl _ _ _) (λh=>by rw[L]at h;cases h) (λ_=>rfl)
 have L:(A f).2.1=true:=by rw[←a2];exact bV
 rw[L]at ax M;have ce:cB al (A f).1=some true:=by rw[ai,L]
 have b2:∀ t x,g07 U t=some x->A0o st be oe h' F x (a.tmps.getD t undef)∨Operand.tmp t ∉ o.op.operands:=λt x s=>by
  by_cases D:Operand.tmp t∈o.op.operands
  ·refine .inl λbG=>?_;obtain⟨i,m,G,C,O,aq,ah⟩:=X.p1 t x (H08 s);obtain⟨e,S,K,ap⟩:=aV o am t D i m C O;have aG:Y.getD i false=true:=by rw[←ap];exact aZ e S K
   have bE:(A i).2.1=true:=by have I:=aw.p3 i (List.getElem?_eq_some_iff.1 C).1 (List.getElem?_eq_some_iff.1 C).1;rw[aq,bW.c _ _ bG]at I;exact(oJ I).symm
   have aK:sk i=false:=by grind
   have:=(aB i m t aK (by simpa using C) O aG).1 bE;rwa [ah]at this
  exact .inr D
 have bp:∀ t,Operand.tmp t∈o.op.operands->g07 U t=none->N2 st be oe (K3 st.fr t) (a.tmps.getD t undef):=λt D bO=>by
  have g:=af.fr t;have bM:K3 (d6 ops.toList st.fr) t=K3 st.fr t:=l04 λE bP W=>by
   obtain⟨i,aj,e⟩:=List.getElem_of_mem bP;have ay:ops.toList[i]?=some E:=by rw[List.getElem?_eq_getElem aj,e]
   obtain⟨bo,S,K,ap⟩:=aV o am t D i E ay W;have ae:=bt f o ao bo S K;rw[ap]at ae;obtain⟨x,s⟩:=X.p2 i E t ae ay W;rw[bO]at s;cases s
  rw[←bM];exact N2.fr (st := { st with fr:=d6 ops.toList st.fr }) (fr:=st.fr) g
 have a7:∀ t,Operand.tmp t∈o.op.operands->(∀ x,g07 U t=some x->A0o st be oe h' F x (a.tmps.getD t undef))/\(g07 U t=none->N2 st be oe (K3 st.fr t) (a.tmps.getD t undef)):=λt D =>
  ⟨λx s=>(b2 t x s).resolve_right λan=>an D,bp t D⟩
 have mk:∀ {fr:List (Nat×AV)},(∀ t,N2 st be oe (K3 fr t) (a.tmps.getD t undef))->Sim P h0 w0 be oe H { st with fr:=fr } h' a w:=λ{fr} g=>af.refr (fr:=fr) λt=>N2.fr (g t);cases hA:(A f).2.2 with
 |pu av =>
  rw[hA]at M;rcases M with M|M
  ·refine Oper.wp_mono (λag T s=>?_) (O0w (be:=be) (oe:=oe) (H:=H) (h:=h') M ax (λt=>?_) (λx s y aM=>?_) (λx s=>?_) (λx s=>?_) mk);·obtain⟨v,be',oe',N,ac,⟨fr,s2⟩,ab,C⟩:=s;exact fin (λ_ _ h=>h) ac s2 ab (λ_=>by rw[hA];exact C) (λh=>by rw[L]at h;cases h)
   ·grind
   ·obtain⟨G,⟨E,C,O⟩,aq,ah⟩:=X.p4 x s;obtain⟨i,m,a4,a5,cj,ck,cl⟩:=X.p1 x.d y (H08 aM);grind
   ·have aN:∀(l:List BE),x∈l->∃ b,r06 l x.j=some b:=by
     intro l;induction l with
     |nil=>intro h;cases h
     |cons z l a3 =>
      intro h;simp only[r06];split;·exact⟨_,rfl⟩
      grind[absurd,Nat.ne_of_beq_eq_false]
    obtain⟨b,K⟩:=aN F s;obtain⟨bB,bA⟩:=q07 K;obtain⟨_,⟨cm,az,aP⟩,aQ,aA⟩:=X.p4 b bB;obtain⟨_,⟨cn,bk,bm⟩,bn,b4⟩:=X.p4 x s;rw[bA]at az aQ aA;rw[bk]at az;cases az;rw[bm]at aP;rw[b4]at aA;have cb:x.d=b.d:=by simpa using aP
    have cc:x.ch=b.ch:=bn.symm.trans aQ;have cd:x.e=b.e:=by simpa using aA
    rw[K];obtain⟨ca,b7,be',b6⟩:=b;obtain⟨cz,cx,cy,cw⟩:=x;grind
   obtain⟨G,⟨E,C,O⟩,_,_⟩:=X.p4 x s;exact X.p2 x.j E x.d G C O
  obtain⟨fr,S,g⟩:=X04 (acc:=[]) (be:=be) (oe:=oe) (val:=λt=>a.tmps.getD t undef) ax (λt=>trivial) (λt D=>a7 t (by simpa using D)) (F0c (bs:=F) (M h' aJ) rfl);refine Oper.wp_mono (λag T s=>?_) (r03 (mk g) S);obtain⟨bj,st',R,v,be',oe',N,⟨rfl,rfl,rfl⟩,ac,s2,C,ab⟩:=s;exact fin (λ_ _ h=>h) ac s2 ⟨ab.bl,ab.be,ab.sm⟩ (λ_=>by rw[hA];exact N2.fr (st := { st with fr:=fr }) (fr:=st.fr) C) (λh=>by rw[L]at h;cases h)
 |ef aa =>
  rw[hA]at M;obtain⟨_,M⟩:=M;obtain⟨fr,S,g⟩:=X04 (acc:=[]) (be:=be) (oe:=oe) (val:=λt=>a.tmps.getD t undef) ax (λt=>trivial) (λt D=>a7 t (by simpa using D)) (F0c (bs:=F) (M h' aJ) rfl);refine Oper.wp_mono (λag T s=>?_) (d0q (mk g) S);obtain⟨bj,st',R,v,be',oe',N,bJ,ac,s2,C,ab⟩:=s;obtain⟨cq,J,⟨D,a4,a5⟩,bg,br⟩:=s06 s2 C bJ;obtain⟨r,rfl⟩:=N0y D;have au:V8 st be oe st be' oe':=by have aD:=ab.trans br;refine⟨aD.bl,aD.be,λi bf a0=>?_⟩;obtain⟨s1,a8,co,ba⟩:=aD.sm i bf a0;have bb:stamp { n:=st.n,fr:=fr,bx:=st.bx,ow:=st.ow++r } i=some bf:=H0m (st := { st with fr:=fr }) a0;grind
  have bC:∀ i cs ty,nth st.bx i=some (.live cs ty)->∃ vs,J2 { st with fr:=fr } oe' cs vs/\N (be' i)=some (.cells vs.toArray ty (0,0)):=λi cs ty aj=>by
   obtain⟨_,Z,a8,_⟩:=af.box i cs ty aj;obtain⟨_,vs,ba,bb⟩:=bg.box i cs ty aj;refine⟨vs,?_,bb⟩;have aN:∀(cs:List j7) (Z vs:List Value),J2 { st with fr:=d6 ops.toList st.fr } oe cs Z->J2 { n:=st.n,fr:=fr,bx:=st.bx,ow:=st.ow++r } oe' cs vs->J2 { st with fr:=fr } oe' cs vs:=by
    intro cs;induction cs with
    |nil=>intro Z vs _ g;cases vs with
     |nil=>trivial
     |cons v vs=>exact g.elim
    |cons c cs a3 =>
     intro Z vs aC G;cases Z with
     |nil=>exact aC.elim
     |cons cu Z =>
      cases vs with
      |nil=>exact G.elim
      |cons cv vs =>
       refine⟨?_,a3 Z vs aC.2 G.2⟩;cases c with
       |val x=>exact G.1
       |own k s1 =>obtain⟨bh,bc,_,_⟩:=aC.1;obtain⟨cr,bd,r3,bY⟩:=G.1;have bZ:stamp { n:=st.n,fr:=fr,bx:=st.bx,ow:=st.ow++r } k=some bh:=H0m (st := { st with fr:=fr }) bc;rw[bZ]at bd;cases bd;exact⟨bh,bc,r3,bY⟩
   exact aN cs Z vs a8 ba
  have b1:Sim P h0 w0 be' oe' N { st with fr:=fr } J a T:=Sim.untail (st := { st with fr:=fr }) (t:=r) bg (λu=>N2.grow (st := { st with fr:=fr }) (st' := { st with fr:=fr }) ⟨au.bl,au.be,au.sm⟩ (N2.fr (g u))) bC;exact fin (fr:=fr) a4 ac b1 au (λ_=>by rw[hA];exact a5) (λh=>by rw[L]at h;cases h)
theorem j0f.start{ops:Array Oper}{st:St}{A:Asg}{sk:Nat->Bool}(f:Sim P h0 w0 be oe H st h a w):j0f P h0 w0 ops st h A sk [] (Array.replicate ops.size false) a w:=by
 refine⟨be,oe,H,h,λ_ _ h=>h,f.refr (fr:=d6 ops.toList st.fr) λt=>?_,λp j=>(by cases j),λk o d _ c e b=>?_⟩
 ·by_cases hx:∃ o∈ops.toList,o.dst=some t;·obtain⟨o,c,e⟩:=hx;rw[x05 c e];trivial
  rw[l04 λo i g=>hx ⟨o,i,g⟩];exact f.fr t
 simp[Array.getElem?_replicate]at b;split at b<;>cases b
theorem L0t{ops:Array Oper}{st:St}{A:Asg}{sk:Nat->Bool}{kp:List (Nat×Value)}{q:FL}{F:List BE}{K:St->Hp->Prop}{C:Array Bool} (V:∀ i,sk i=true->(A i).2.2 = .pu (.val undef)) (aa:∀(i c:Nat) (b D:Oper) (d:Nat),ops.toList[i]?=some b->ops.toList[c]?=some D->b.dst=some d->D.dst=some d->i=c) (f:m0m ops.toList A q F ops.toList.length) (Q:∀ h',Sub h h'->i0m h' q st.fr λfr=>K { st with fr:=fr } h') (ad:∀ c,c<ops.size->C.getD c false=true) (j:j0f P h0 w0 ops st h A sk kp C a w):∃ be oe H h' fr,K { st with fr:=fr } h'/\Sim P h0 w0 be oe H { st with fr:=d6 ops.toList st.fr } h' a w/\(∀ p∈kp,a.tmps.getD p.1 undef=p.2) /\ ∀ t,(∀(i:Nat) (b:Oper),ops.toList[i]?=some b->b.dst=some t->sk i=false)->N2 st be oe (K3 fr t) (a.tmps.getD t undef):=by
 obtain⟨be,oe,H,h',U,Y,keep,Z⟩:=j;have O:∀ t,(∃(i:Nat) (b:Oper),ops.toList[i]?=some b/\b.dst=some t/\sk i=true) ∨ ¬ ∃(i:Nat) (b:Oper),ops.toList[i]?=some b/\b.dst=some t/\sk i=true:=λt=>Classical.em _;have l:∃ val:Nat->Value,∀ t,((∃(i:Nat) (b:Oper),ops.toList[i]?=some b/\b.dst=some t/\sk i=true)->val t=undef)/\((¬ ∃(i:Nat) (b:Oper),ops.toList[i]?=some b/\b.dst=some t/\sk i=true)->val t=a.tmps.getD t undef) :=
  Classical.axiomOfChoice (r:=λt v=>((∃(i:Nat) (b:Oper),ops.toList[i]?=some b/\b.dst=some t/\sk i=true)->v=undef)/\((¬ ∃(i:Nat) (b:Oper),ops.toList[i]?=some b/\b.dst=some t/\sk i=true)->v=a.tmps.getD t undef)) λt=>by
   rcases O t with h|h
   ·exact⟨undef,λ_=>rfl,λn=>absurd h n⟩
   grind
 obtain⟨val,l⟩:=l;obtain⟨fr,ac,g⟩:=G0m (st:=st) (be:=be) (oe:=oe) (val:=val) (λp T M=>by
  obtain⟨t,x⟩:=p;obtain⟨i,b,h0,G,I,J,L⟩:=f.p1 t x T;cases hsk:sk i with
  |true =>have e:=(l t).1 ⟨i,b,G,I,hsk⟩;have s:=V i hsk;rw[L]at s;show d0a st be oe h' x.2 (val t);rw[s,e];exact rfl
  |false =>
  have u : ¬ ∃(i:Nat) (b:Oper),ops.toList[i]?=some b/\b.dst=some t/\sk i=true:=λ⟨k,E,o,z,W⟩=>by grind
  have ab:(A i).2.1=true:=by have:=f.p3 i h0 h0;rw[J,show x.1 = [] from M]at this;exact(oJ this).symm
  grind) (λt y=>by
  have u : ¬ ∃(i:Nat) (b:Oper),ops.toList[i]?=some b/\b.dst=some t/\sk i=true:=λ⟨k,E,o,z,W⟩=>by obtain⟨x,m⟩:=f.p2 k E t (List.getElem?_eq_some_iff.1 o).1 o z;exact y x (H08 m)
  rw[(l t).2 u];have R:K3 (d6 ops.toList st.fr) t=K3 st.fr t:=l04 λX S N=>by obtain⟨i,j,e⟩:=List.getElem_of_mem S;obtain⟨x,m⟩:=f.p2 i X t j (by rw[List.getElem?_eq_getElem j,e]) N;exact y x (H08 m)
  have:=Y.fr t;rw[R]at this;exact N2.fr (st := { st with fr:=d6 ops.toList st.fr }) (fr:=st.fr) this) (Q h' U)
 grind
theorem u0b:∀ {l:List Oper},A0j l=true->∀ o∈l,∀ i w,o.guard=some (i,w)->X02 i o=true
 | [],h,o,a=>by cases a
 |y::r,h,o,a=>by
  simp only[A0j,Bool.and_eq_true]at h;rcases List.mem_cons.1 a with rfl|a;·grind
  exact u0b h.2 o a
theorem h0B{ops:Array Oper}{Q:Exit->Act->World->Prop}{Inv:Array Bool->Act->World->Prop}(hB:∀(k:Nat) (o:Oper),ops.toList[k]?=some o->∀ e∈o.after,Region.binds .any e=true->e.on<k)
  (hstep:∀ listed a w j o,ops[j]?=some o->(∀ e∈o.after,Region.binds .any e=true->listed.getD e.on false=true)->Inv listed a w ->
   (Region.wanted o (yielded ops a.tmps)=true->o.wp P a w (Inv (listed.setIfInBounds j true)) Q)/\(Region.wanted o (yielded ops a.tmps)=false->Inv (listed.setIfInBounds j true) (a.put o.dst undef) w))
  (hQ:∀ listed a w,(∀ j,j<ops.size->listed.getD j false=true)->Inv listed a w->Q .normal a w) :
  ∀(fuel:Nat) (listed:Array Bool) (a:Act) (w:World),listed.size=ops.size->listed.toList.count true+fuel=ops.size->Inv listed a w->wpAny P .any ops Q fuel listed a w
 |0,listed,a,w,hsz,hc,hi=>by
  have hall':∀ j,j<ops.size->listed.getD j false=true:=λj hj=>by
   have h1:∀ b∈listed.toList,true=b:=List.count_eq_length.1 (by grind)
   have hlt:j<listed.size:=by omega
   have:=h1 listed[j] (by simp)
   simp[hlt,←this]
  refine⟨?_,hQ listed a w hall' hi⟩
  simp_all[Region.ready,List.mem_cons_self,mem_ready,Array.getElem?_eq_some_iff]
 |fuel+1,listed,a,w,hsz,hc,hi=>by
  refine⟨λhr=>hQ listed a w (E0m hB hsz hr) hi,λj hj=>?_⟩
  obtain⟨h1,o,h2,h3⟩:=mem_ready.1 hj
  unfold wpOp
  simp only[h2]
  obtain⟨ht,hf⟩:=hstep listed a w j o h2 h3 hi
  have next:∀ a' w',Inv (listed.setIfInBounds j true) a' w'->wpAny P .any ops Q fuel (listed.setIfInBounds j true) a' w':=λa' w' hi'=>h0B hB hstep hQ fuel _ a' w' (by simpa using hsz) (by rw[count_set h1];omega) hi'
  cases hw:Region.wanted o (yielded ops a.tmps)with
  |true =>
   rw[if_pos rfl]
   exact .inl (Oper.wp_mono next (ht hw))
  |false =>
   grind
theorem D0z{ops:Array Oper}{Q:Exit->Act->World->Prop}{Inv:Array Bool->Act->World->Prop}(hB:∀(k:Nat) (o:Oper),ops.toList[k]?=some o->∀ e∈o.after,Region.binds .any e=true->e.on<k)
  (hstep:∀ listed a w j o,ops[j]?=some o->(∀ e∈o.after,Region.binds .any e=true->listed.getD e.on false=true)->Inv listed a w ->
   (Region.wanted o (yielded ops a.tmps)=true->o.wp P a w (Inv (listed.setIfInBounds j true)) Q)/\(Region.wanted o (yielded ops a.tmps)=false->Inv (listed.setIfInBounds j true) (a.put o.dst undef) w))
  (hQ:∀ listed a w,(∀ j,j<ops.size->listed.getD j false=true)->Inv listed a w->Q .normal a w) :
  ∀(l:List Oper) (k:Nat) (listed:Array Bool) (a:Act) (w:World),(∀ j,l[j]?=ops.toList[k+j]?)->k+l.length=ops.size->listed.size=ops.size->(∀ j,j<k->listed.getD j false=true)->Inv listed a w->wpList P ops Q l a w
 | [],k,listed,a,w,hl,hk,hsz,hp,hi=>hQ listed a w (λj hj=>hp j (by simp at hk;omega)) hi
 |o::l,k,listed,a,w,hl,hk,hsz,hp,hi=>by
  have ho:ops.toList[k]?=some o:=by simpa using (hl 0).symm
  have hl':∀ j,l[j]?=ops.toList[k+1+j]?:=λj=>by have:=hl (j+1);grind
  obtain⟨ht,hf⟩:=hstep listed a w k o (by simpa using ho) (λe he hb=>hp _ (hB k o ho e he hb)) hi
  have next:∀ a' w',Inv (listed.setIfInBounds k true) a' w'->wpList P ops Q l a' w':=λa' w' hi' =>
   D0z hB hstep hQ l (k+1) _ a' w' hl' (by grind) (by simpa using hsz) (λj hj=>by
    by_cases e:k=j
    ·subst e
     have:k<listed.size:=by grind
     simp[this]
    ·rw[getD_set_ne false e];exact hp j (by omega)) hi'
  unfold wpList
  cases hw:Region.wanted o (yielded ops a.tmps)with
  |true =>
   rw[if_pos rfl]
   exact .inl (Oper.wp_mono next (ht hw))
  |false =>
   grind
theorem e0q{ops:Array Oper}{st:St}{K:St->Hp->Prop}{Q:Exit->Act->World->Prop}(hb:G07 st.n ops.toList=true)(he:evU P ops.toList 0 [] [] st h K) (hQ:∀ a w st h be oe H,K st h->Sim P h0 w0 be oe H st h a w->Q .normal a w) : (∀ {be:Nat->Nat} {oe:Nat->Value} {H:Hp} {a:Act} {w:World},Sim P h0 w0 be oe H st h a w->wpAny P .any ops Q ops.size (Array.replicate ops.size false) a w) /\ (∀ {be:Nat->Nat} {oe:Nat->Value} {H:Hp} {a:Act} {w:World},Sim P h0 w0 be oe H st h a w->wpList P ops Q ops.toList a w):=by
 simp only[G07,A09,Bool.and_eq_true]at hb;obtain⟨⟨⟨b1,b2⟩,b3⟩,b4⟩:=hb;obtain⟨hn,hD⟩:=a09 b1;have hB:∀(k:Nat) (o:Oper),ops.toList[k]?=some o->∀ e∈o.after,Region.binds .any e=true->e.on<k:=λk o hk e he' hb=>by have:=b09 b2 k o hk e he' hb;omega
 have hdep:=s0b b3;have hgd:=u0b b4;obtain⟨A,Lf,Bf,_,_,hP,hall,hfin⟩:=i0k (ops:=ops.toList) hD ops.toList 0 [] [] (λ_=>([],true,.pu .dead)) (λj=>by simp) (by simp)
  ⟨λt x h=>(by cases h),λi oi d hi=>by omega,λi hi=>by omega,λx hx=>(by cases hx)⟩ he
 have step:∀ listed a w j o,ops[j]?=some o->(∀ e∈o.after,Region.binds .any e=true->listed.getD e.on false=true)->j0f P h0 w0 ops st h A (λ_=>false) [] listed a w ->
   (Region.wanted o (yielded ops a.tmps)=true->o.wp P a w (j0f P h0 w0 ops st h A (λ_=>false) [] (listed.setIfInBounds j true)) Q)/\(Region.wanted o (yielded ops a.tmps)=false->j0f P h0 w0 ops st h A (λ_=>false) [] (listed.setIfInBounds j true) (a.put o.dst undef) w) :=
  λlisted a w j o h1 h2 h3=>C0z hD hn hB hdep hgd hP (λj o ho=>hall j o (Nat.zero_le _) ho) rfl (λ_ _ _ _ _ h=>nomatch h) (λ_ h=>nomatch h) (λ_ hp=>nomatch hp) h1 h2 h3
 have done:∀ listed a w,(∀ j,j<ops.size->listed.getD j false=true)->j0f P h0 w0 ops st h A (λ_=>false) [] listed a w->Q .normal a w:=λlisted a w hl hi=>by obtain⟨be,oe,H,h',fr,hk,s,_,g⟩:=L0t (sk:=λ_=>false) (λ_ h=>nomatch h) hD hP hfin hl hi;exact hQ a w _ h' be oe H hk (s.refr (fr:=fr) λt=>N2.fr (g t λ_ _ _ _=>rfl))
 refine⟨λs=>?_,λs=>?_⟩;·exact h0B hB step done ops.size _ _ _ (by simp) (by simp[List.count_replicate]) (j0f.start s)
 exact D0z hB step done ops.toList 0 _ _ _ (λj=>by simp) (by simp) (by simp) (λj hj=>by omega) (j0f.start s)
end
def Q07(H:Hp):List (Nat×Obj)->Hp
 | []=>H
 |p::l=>(Q07 H l).set p.1 p.2
theorem s07{H:Hp}{b:Nat}:∀ {l:List (Nat×Obj)},(∀ p∈l,p.1≠b)->Q07 H l b=H b
 | [],_=>rfl
 |p::l,h=>by rw[Q07,Hp.set_other _ _ λe=>h p mS e.symm];exact s07 λq a=>h q (mC _ a)
theorem d09{H:Hp}:∀ {l:List (Nat×Obj)},(l.map λp=>p.1).Nodup->∀ {p:Nat×Obj},p∈l->Q07 H l p.1=some p.2
 | [],_,p,h=>nomatch h
 |q::l,a,p,h=>by
  rw[List.map_cons,List.nodup_cons]at a;rcases List.mem_cons.1 h with rfl|h;·exact Hp.set_same _ _ _
  rw[Q07,Hp.set_other _ _ λe=>a.1 (List.mem_map.2 ⟨p,h,e⟩)];exact d09 a.2 h
theorem H0c{H:Hp}{l:List (Nat×Obj)}(b:Nat):(∃ p∈l,p.1=b)∨∀ p∈l,p.1≠b:=by grind
theorem j0k{a H:Hp}{w1 w:World}{l:List (Nat×Obj)}(j:Vis (Q07 a l) w1)(g:∀ p∈l,a p.1=none/\p.1<w1.heap.size)(f:(l.map λp=>p.1).Nodup)(m:V2 a w1 H w): V2 (Q07 a l) w1 (Q07 H l) w:=by
 refine⟨m.os,m.tape,m.output,m.size,λb e i=>?_,λb o c=>?_,λb e=>?_,m.fz,m.dn⟩
 ·rcases H0c (H:=a) (l:=l) b with⟨p,d,rfl⟩|c;·grind[d09]
  rw[s07 c]at i;exact m.keep b e i
 ·rcases H0c (H:=a) (l:=l) b with⟨p,d,rfl⟩|h;·rw[d09 f d]at c;cases c;rw[m.keep p.1 (g p d).2 (g p d).1];exact j p.1 _ (d09 f d)
  rw[s07 h]at c;exact m.vis b o c
 rcases H0c (H:=a) (l:=l) b with⟨p,d,rfl⟩|h;·grind[d09]
 rw[s07 h]at e ⊢;exact m.fresh b e
section
variable {P:Program} {h0:Hp} {w0:World} {be:Nat->Nat} {oe:Nat->Value} {H:Hp} {h:Hp} {a:Act} {w:World}
theorem Sim.base{st:St}(b:Sim P h0 w0 be oe H st h a w){c:Hp}{w1 d:World}(m:V2 c w1 H d):Sim P c w1 be oe H st h a d :=
 ⟨m,b.sub,b.box,b.pub,b.own,b.frz,b.bb,b.oo,b.bo,b.dfr,b.siz,b.fr⟩
theorem Sim.more{st:St}(c:Sim P h0 w0 be oe H st h a w){l:List (Nat×Obj)}(u:∀ p∈l,H p.1=none){j:Hp}{w1:World}(m:V2 j w1 (Q07 H l) w):Sim P j w1 be oe (Q07 H l) st h a w:=by
 have keep:∀ b,H b≠none->Q07 H l b=H b:=λb d=>s07 λp v e=>d oG;refine⟨m,λb o d=>by rw[keep b (by rw[c.sub b o d];simp)];exact c.sub b o d,λi cs ty f=>?_,c.pub,λi k e sz by_ nn xs f=>?_,c.frz,c.bb,c.oo,c.bo,c.dfr,c.siz,c.fr⟩;·obtain⟨q,vs,s,t⟩:=c.box i cs ty f;grind
 refine(c.own i k e sz by_ nn xs f).keep λg n=>?_;obtain⟨x,_,_,_,y⟩:=(c.own i k e sz by_ nn xs f).block n;grind
theorem Sim.claim{st:St}(c:Sim P h0 w0 be oe H st h a w){cs:List j7}{vs:List Value}{t:TypeId}{b:Nat}(E:J2 st oe cs vs)(D:H b=some (.cells vs.toArray t (0,0)))(F:h b=none)
  (K:∀ i cs ty,nth st.bx i=some (.live cs ty)->be i≠b) (L:∀ i s e sz by_ nn xs g,nth st.ow i=some ⟨s,.live e sz by_ nn xs⟩->(oe i).ownBlock=some g->g≠b) :
  let be':=λj=>if j=st.bx.length then b else be j
  let st':St := { st with bx:=st.bx ++ [.live cs t] }
  Sim P h0 w0 be' oe H st' h a w/\V8 st be oe st' be' oe:=by
 intro be' st'
 have l:V8 st be oe st' be' oe:=by
  refine⟨by simp[st'],λi d=>?_,λi c G=>⟨c,G,Nat.le_refl _,λ_=>rfl⟩⟩
  grind
 have m:∀ i cs ty,nth st.bx i=some (.live cs ty)->be' i=be i:=λi cs ty d=>by simp[be',Nat.ne_of_lt (W04 d)]
 have k:∀ i x,nth st'.bx i=some x->(i=st.bx.length/\x = .live cs t)∨(i≠st.bx.length/\nth st.bx i=some x):=by
  grind[Q05]
 refine⟨⟨c.mv,c.sub,?_,?_,c.own,c.frz,?_,c.oo,?_,c.dfr,c.siz,λt=>(c.fr t).grow l⟩,l⟩
 ·intro i cs' ty d
  rcases k i _ d with⟨rfl,e⟩|⟨e,f⟩
  ·cases e
   exact⟨by simp[be',F],vs,E.grow l,by simp[be',D]⟩
  ·obtain⟨z,J,A,C⟩:=c.box i cs' ty f
   rw[m i cs' ty f]
   exact⟨z,J,A.grow l,C⟩
 ·intro i u d
  rcases k i _ d with⟨_,e⟩|⟨e,f⟩
  ·cases e
  ·simp[be',e,c.pub i u f]
 ·intro i j v I M N d o e
  rcases k i _ d with⟨rfl,n⟩|⟨n,f⟩<;>rcases k j _ o with⟨rfl,y⟩|⟨y,q⟩
  ·rfl
  ·grind
  ·grind
  ·rw[m i _ _ f,m j _ _ q]at e;exact c.bb i j _ _ _ _ f q e
 ·intro i v I j s e sz by_ nn xs d o p
  rcases k i _ d with⟨rfl,n⟩|⟨n,f⟩
  ·grind
  ·rw[m i _ _ f]at p;exact c.bo i _ _ j _ _ _ _ _ _ f o p
def t0g(a:Act)(d:Nat):Nat:=match a.tmps.getD d undef with
 | .pointer (some ⟨b,_,_⟩)=>b
 |_=>0
theorem D0a{a:Act}{d b:Nat}(e:a.tmps.getD d undef=ptr b 0):t0g a d=b:=by unfold t0g;rw[e];rfl
def I0B(P:Program)(H h:Hp)(a:Act)(n:Nat)(o:Oper):Prop:=R08 o=true->∃ d t z,o.op = .alloc t/\o.dst=some d/\d<n/\C03 P t=some z/\a.tmps.getD d undef=ptr (t0g a d) 0/\H (t0g a d)=some (.cells z.cells t (0,0))/\h (t0g a d)=none
def J0B(a:Act)(o c:Oper):Prop:=R08 o=true->R08 c=true->∀ d b,o.dst=some d->c.dst=some b->t0g a d≠t0g a b
theorem B0o{st:St}{h:Hp}{d:Nat}:r0c ⟨st,h,[],[]⟩ d=false:=rfl
theorem o0s{K:St->Hp->Prop}{fd:List (Nat×AV)}:∀(l:List Oper) (st:St) (be:Nat->Nat),Sim P h0 w0 be oe H { st with fr:=fd } h a w ->
  (∀ t,(∀ o∈l,R08 o=true->o.dst≠some t)->N2 st be oe (K3 st.fr t) (a.tmps.getD t undef))->(∀ o∈l,I0B P H h a st.n o)->l.Pairwise (J0B a) ->
  (∀ i cs ty,nth st.bx i=some (.live cs ty)->∀ o∈l,R08 o=true->∀ d,o.dst=some d->be i≠t0g a d) ->
  (∀ i k e sz by_ nn xs g,nth st.ow i=some ⟨k,.live e sz by_ nn xs⟩->(oe i).ownBlock=some g->∀ o∈l,R08 o=true->∀ d,o.dst=some d->g≠t0g a d) ->
  doA (o08 P) l st h K->∃ st' be',K st' h/\Sim P h0 w0 be' oe H st' h a w
 | [],st,be,x,q,_,_,_,_,j=>⟨st,be,j,x.refr (fr:=st.fr) λt=>N2.fr (st:=st) (q t λo p=>nomatch p)⟩
 |o::l,st,be,x,q,y,s,A,p,j=>by
  rw[List.pairwise_cons]at s
  have j:(match R08 o with
   |true=>o08 P o st h λst h=>doA (o08 P) l st h K
   |false=>doA (o08 P) l st h K):=j
  cases hal:R08 o with
  |false =>
   rw[hal]at j
   exact o0s l st be x (λt U=>q t λc b G=>by
    grind) (λc b=>y c (mC _ b)) s.2 (λi cs ty f c b=>A i cs ty f c (mC _ b)) (λi k e sz by_ nn xs g f m c b=>p i k e sz by_ nn xs g f m c (mC _ b)) j
  |true =>
   rw[hal]at j
   obtain⟨d,t,z,O,v,W,Q,R,C,S⟩:=y o mS hal
   simp only[o08,J00,O,Q,s0h,v,f0f,B0o]at j
   have L:Nat.blt d (st.withBx (st.bx ++ [.live (vals z.cells.toList) t])).n=true:=by
    grind
   simp only[L]at j
   obtain⟨n,fr,bx,ow⟩:=st
   have N:doA (o08 P) l ⟨n,(d,.box bx.length 0)::fr,bx ++ [.live (vals z.cells.toList) t],ow⟩ h K:=j
   have J:z.cells=z.cells.toList.toArray:=oS
   rw[J]at C
   obtain⟨s2,F⟩:=x.claim (J2.vals _ oe _) C S (λi cs ty f=>A i cs ty f o mS hal d v) (λi k e sz by_ nn xs g f m=>p i k e sz by_ nn xs g f m o mS hal d v)
   refine o0s l ⟨n,(d,.box bx.length 0)::fr,bx ++ [.live (vals z.cells.toList) t],ow⟩ _ s2 (λu V=>?_) (λc b=>y c (mC _ b)) s.2 (λi cs ty f c b I D M=>?_) (λi k e sz by_ nn xs g f m c b=>p i k e sz by_ nn xs g f m c (mC _ b)) N
   ·show N2 _ _ _ (K3 ((d,.box bx.length 0)::fr) u) _
    rw[l4]
    split
    ·rename_i e
     subst e
     refine⟨oS,?_⟩
     rw[R];simp
    ·rename_i e
     have E:=q u λc b G T=>by
      grind
     exact N2.fr (st:=⟨n,fd,bx ++ [.live (vals z.cells.toList) t],ow⟩) (N2.grow F (N2.fr (st:=⟨n,fr,bx,ow⟩) (fr:=fd) E))
   ·simp only[Q05]at f
    split at f
    ·rename_i e
     subst e
     simp only[if_pos]
     exact s.1 c b hal I d D v M
    grind
theorem H09{d:Nat}:∀ {l:List Operand},v0c d l=false->Operand.tmp d ∉ l
 | [],_,h=>nomatch h
 |x::r,a,h=>by
  rcases List.mem_cons.1 h with e|b;·subst e;simp[v0c]at a
  cases x<;>simp only[v0c,Bool.or_eq_false_iff]at a;·exact H09 a.2 b
  all_goals exact H09 a b
theorem F0i{d:Nat}:∀ {l:List Oper},h0o d l=false->∀ o∈l,Operand.tmp d ∉ o.op.operands
 | [],_,o,h=>nomatch h
 |y::r,a,o,h=>by
  simp only[h0o,Bool.or_eq_false_iff]at a;rcases List.mem_cons.1 h with rfl|h;·exact λb=>H09 a.1 (by simpa using b)
  exact F0i a.2 o h
theorem f0q{all:List Oper}:∀ {l:List Oper},okA P all l=true->∀ o∈l,R08 o=true->∃ t d z,o.op = .alloc t/\o.guard=none/\o.dst=some d/\C03 P t=some z/\∀ c∈all,Operand.tmp d ∉ c.op.operands
 | [],_,o,h,_=>nomatch h
 |y::r,a,o,h,b=>by
  simp only[okA,Bool.and_eq_true]at a;rcases List.mem_cons.1 h with rfl|h;·grind[R08,F0i]
  exact f0q a.2 o h b
theorem g0q{o:Oper}(h:R08 o=false):f03 o=o:=by grind[f03,R08]
theorem C00(o:Oper):(f03 o).dst=o.dst:=by unfold f03;split<;>rfl
theorem h0q(o:Oper):(f03 o).after=o.after:=by unfold f03;split<;>rfl
theorem i0q(o:Oper):(f03 o).guard=o.guard:=by unfold f03;split<;>rfl
theorem D00:∀(l:List Oper) (i:Nat),(L7 l)[i]?=(l[i]?).map f03
 | [],i=>by simp[L7]
 |o::r,0=>by simp[L7]
 |o::r,i+1=>by simp[L7,D00 r i]
theorem I0m:∀(l:List Oper),(L7 l).length=l.length
 | []=>rfl
 |o::r=>by simp[L7,I0m r]
theorem j0q{o:Oper}{d:Nat}(h:Operand.tmp d∈(f03 o).op.operands):Operand.tmp d∈o.op.operands:=by grind[R08,g0q,f03,Op.operands]
abbrev K0B:=List (Nat×Nat×Obj)
def skA(a:List Oper)(i:Nat):Bool:=match a[i]? with
 |some o=>R08 o
 |none=>false
def G0h(P:Program)(h0:Hp)(w0:World)(f:List Oper)(st:St)(h:Hp)(A:Asg)(i:Array Bool)(a:Act)(w:World):Prop :=
 ∃(c:K0B) (g:Hp) (w1:World),V2 h0 w0 (Q07 g (c.map λp=>p.2)) w1/\(∀ p∈c,g p.2.1=none/\p.2.1<w1.heap.size)/\((c.map λp=>p.2).map λp=>p.1).Nodup /\
  j0f P g w1 (L7 f).toArray st h A (skA f) (c.map λp=>(p.1,ptr p.2.1 0)) i a w /\
  (∀(e:Nat) (o:Oper) t d z,f[e]?=some o->o.op = .alloc t->o.dst=some d->C03 P t=some z->i.getD e false=true->∃ b,(d,b,Obj.cells z.cells t (0,0))∈c) /\
  ∀ p∈c,∃(e:Nat) (o:Oper),f[e]?=some o/\R08 o=true/\o.dst=some p.1/\i.getD e false=true
theorem G0h.start{f:List Oper}{st:St}{A:Asg}{N:Nat}(g:Sim P h0 w0 be oe H st h a w):G0h P h0 w0 f st h A (Array.replicate N false) a w:=by
 refine⟨[],H,w,g.mv,λp b=>(by cases b),oS,?_,λn o t d z _ _ _ _ e=>?_,λp b=>(by cases b)⟩
 ·have k:Sim P H w be oe H st h a w:=g.base (V2.refl g.mv.vis);refine⟨be,oe,H,h,λ_ _ h=>h,k.refr (fr:=d6 (L7 f) st.fr) λt=>?_,λp b=>(by cases b),λn o d _ i j c=>?_⟩
  ·by_cases hx:∃ o∈L7 f,o.dst=some t;·obtain⟨o,i,j⟩:=hx;rw[x05 i j];trivial
   rw[l04 λo m l=>hx ⟨o,m,l⟩];exact k.fr t
  simp[Array.getElem?_replicate]at c;split at c<;>cases c
 simp[Array.getElem?_replicate]at e;split at e<;>cases e
theorem E0z{f:List Oper}{st:St}{A:Asg}{ar:FL}{Y:List BE}{G:Array Bool}{j:Nat}{o:Oper}{Q:Exit->Act->World->Prop} (ac:∀(i j:Nat) (l ao:Oper) (d:Nat),(L7 f)[i]?=some l->(L7 f)[j]?=some ao->l.dst=some d->ao.dst=some d->i=j) (ad:∀ o∈L7 f,∀ d,o.dst=some d->d<st.n) (az:∀(k:Nat) (o:Oper),(L7 f)[k]?=some o->∀ e∈o.after,Region.binds .any e=true->e.on<k) (aG:∀ o∈L7 f,∀ t,Operand.tmp t∈o.op.operands->∀(i:Nat) (l:Oper),(L7 f)[i]?=some l->l.dst=some t->∃ e∈o.after,Region.binds .any e=true/\e.on=i) (aH:∀ o∈L7 f,∀ i w,o.guard=some (i,w)->X02 i o=true) (aA:m0m (L7 f) A ar Y (L7 f).length) (aC:∀ j o,(L7 f)[j]?=some o->∃ Z K,m02 Y o.guard=some (A j).1/\m0m (L7 f) A Z K j/\v0e K Y/\cB K (A j).1=some (A j).2.1/\(OpU P st h Z K o (A j).1 (A j).2.1 (A j).2.2/\∀ av,G0e P Z K (A j).1 o st=some av->(A j).2.2 = .pu av)) (aV:∀(i:Nat) (l:Oper) (d:Nat),(L7 f)[i]?=some l->l.dst=some d->skA f i=true->∀ af∈L7 f,Operand.tmp d ∉ af.op.operands) (aS:∀ i,skA f i=true->(A i).2.2 = .pu (.val undef)) (aB:∀ o∈f,R08 o=true->∃ t d z,o.op = .alloc t/\o.guard=none/\o.dst=some d/\C03 P t=some z/\∀ af∈f,Operand.tmp d ∉ af.op.operands) (a7:G.getD j true=false) (L:f[j]?=some o) (aQ:∀ e∈o.after,Region.binds .any e=true->G.getD e.on false=true) (aJ:G0h P h0 w0 f st h A G a w) : (Region.wanted o (yielded (L7 f).toArray a.tmps)=true->o.wp P a w (G0h P h0 w0 f st h A (G.setIfInBounds j true)) Q) /\ (Region.wanted o (yielded (L7 f).toArray a.tmps)=false->G0h P h0 w0 f st h A (G.setIfInBounds j true) (a.put o.dst undef) w):=by
 obtain⟨s,T,w1,ae,M,W,am,ai,ab⟩:=aJ;have aO:o∈f:=List.mem_of_getElem? L;have J:(L7 f)[j]?=some (f03 o):=by rw[D00,L];rfl
 have aM:G.getD j false=false:=by grind
 have aL:j<G.size:=by grind
 have ay:∀ p∈s,∃(i:Nat) (l:Oper),(L7 f)[i]?=some l/\l.dst=some p.1/\skA f i=true:=λp c=>by obtain⟨i,l,m,D,y,_⟩:=ab p c;exact⟨i,f03 l,by rw[D00,m];rfl,by rw[C00];exact y,by unfold skA;rw[m];exact D⟩
 cases hisa:R08 o
 ·have aK:=g0q hisa;rw[aK]at J;have aU:skA f j=false:=by unfold skA;rw[L];exact hisa
  have up:∀ aa E,j0f P T w1 (L7 f).toArray st h A (skA f) (s.map λp=>(p.1,ptr p.2.1 0)) (G.setIfInBounds j true) aa E->G0h P h0 w0 f st h A (G.setIfInBounds j true) aa E:=λaa E aZ=>by
   refine⟨s,T,w1,ae,M,W,aZ,λi l t d z m D y I R=>?_,λp c=>?_⟩
   ·by_cases e:j=i;·grind[R08]
    rw[getD_set_ne false e]at R;exact ai i l t d z m D y I R
   grind[getD_set_true]
  have ba:=C0z (P:=P) (h0:=T) (w0:=w1) (ops:=(L7 f).toArray) (Q:=Q) (sk:=skA f) (kp:=s.map λp=>(p.1,ptr p.2.1 0)) (by simpa using ac) (by simpa using ad) (by simpa using az) (by simpa using aG) (by simpa using aH) (by simpa using aA) (by simpa using aC) aU (by simpa using aV) aS (λp c=>by obtain⟨q,C,rfl⟩:=List.mem_map.1 c;simpa using ay q C) (by simpa using J) aQ am;grind[Oper.wp_mono]
 obtain⟨t,d,z,a0,a1,F,a2,a8⟩:=aB o aO hisa;refine⟨λ_=>?_,λN=>?_⟩;rotate_left;·unfold Region.wanted at N;rw[a1]at N;cases N
 obtain⟨be,oe,H,h',aR,S,keep,ax⟩:=am;have an:V2 h0 w0 (Q07 H (s.map λp=>p.2)) w:=ae.trans (j0k ae.vis (λp c=>by obtain⟨q,C,rfl⟩:=List.mem_map.1 c;exact M q C) W S.mv);have ah:∀ p∈s,H p.2.1=none:=λp c=>S.mv.none_of (M p c).2 (M p c).1;have N:wpS P (execOp a.eval o) (Q07 H (s.map λp=>p.2)) (λn ag=>∃ b,Q07 H (s.map λp=>p.2) b=none/\n = .value (ptr b 0)/\ag=(Q07 H (s.map λp=>p.2)).set b (.cells z.cells t (0,0))):=by unfold execOp;rw[a0];refine p00 _ _ _ ?_;simp only[Instr.alloc,newVar,newRow,newObj,Q2,n0g a2,I3,wpS];exact λb U=>⟨b,U,rfl,rfl⟩
 obtain⟨n,ag,E,aP,⟨b,U,rfl,rfl⟩,V⟩:=u02 _ _ _ an.vis N;refine R9 aP ?_;have ak:∀ p∈s,p.2.1≠b:=λp c e=>by have:=d09 (H:=H) W (List.mem_map.2 ⟨p,c,rfl⟩);rw[e,U]at this;cases this
 have aj:H b=none:=by rw[←U,s07];intro p c;obtain⟨q,C,rfl⟩:=List.mem_map.1 c;exact ak q C
 have aY:Vis H E:=λx a3 O=>by
  refine V.vis x a3 ?_;rw[Hp.set_other _ _ λe=>by subst e;rw[aj]at O;cases O];rw[s07];·exact O
  intro p c e;obtain⟨q,C,rfl⟩:=List.mem_map.1 c;rw[←e,ah q C]at O;cases O
 have aN:d<a.tmps.size:=by rw[S.siz];exact ad (f03 o) (List.mem_of_getElem? J) d (by rw[C00];exact F)
 have a6:(a.put o.dst (ptr b 0)).tmps.getD d undef=ptr b 0:=by rw[F];simp[Act.put,aN]
 have aq:∀ u,u≠d->(a.put o.dst (ptr b 0)).tmps.getD u undef=a.tmps.getD u undef:=λu aW=>by rw[F];simp[Act.put,Array.getElem?_setIfInBounds_ne (Ne.symm aW)]
 have a4:∀ p∈s,p.1≠d:=λp c e=>by obtain⟨i,l,m,D,y,I⟩:=ab p c;have:=ac i j (f03 l) (f03 o) d (by rw[D00,m];rfl) J (by rw[C00,y,e]) (by rw[C00];exact F);subst this;rw[aM]at I;cases I
 have s1:Sim P H E be oe H { st with fr:=d6 (L7 f) st.fr } h' a E:=(by simpa using S:Sim P T w1 be oe H { st with fr:=d6 (L7 f) st.fr } h' a w).base (V2.refl aY);have s2:Sim P H E be oe H { st with fr:=d6 (L7 f) st.fr } h' (a.put o.dst (ptr b 0)) E:=by
  have c:=s1.put (d:=d) (av := .dead) (v:=ptr b 0) (ad (f03 o) (List.mem_of_getElem? J) d (by rw[C00];exact F)) trivial;rw[F];refine c.refr (fr:=d6 (L7 f) st.fr) λu=>?_;have g:=c.fr u;rw[l4]at g;split at g;·rename_i e;subst e;rw[x05 (List.mem_of_getElem? J) (by rw[C00];exact F)];trivial
  exact g
 refine⟨(d,b,.cells z.cells t (0,0))::s,H,E,?_,λp c=>?_,?_,⟨be,oe,H,h',aR,by simpa using s2,λp c=>?_,λi l u X m D y=>?_⟩,λi l a5 aw z' m D y I R=>?_,λp c=>?_⟩;·exact an.trans V
 ·rcases List.mem_cons.1 c with rfl|c;·exact⟨aj,V.vis.lt (by rw[Hp.set_same];simp)⟩
  exact⟨ah p c,Nat.lt_of_lt_of_le (M p c).2 (Nat.le_trans S.mv.size V.size)⟩
 ·rw[List.map_cons,List.map_cons,List.nodup_cons];refine⟨λaF=>?_,W⟩;obtain⟨q,C,e⟩:=List.mem_map.1 aF;obtain⟨p,c,rfl⟩:=List.mem_map.1 C;exact ak p c e
 ·rw[List.map_cons]at c;rcases List.mem_cons.1 c with rfl|c;·exact a6
  obtain⟨q,C,rfl⟩:=List.mem_map.1 c;rw[aq _ (a4 q C)];exact keep _ c
 ·have al:j≠i:=λe=>by
   subst e;have ap:R08 o=false:=by unfold skA at X;rw[L]at X;exact X
   rw[hisa]at ap;cases ap
  rw[getD_set_ne false al]at y;have aX:u≠d:=λe=>by subst e;exact al (ac j i (f03 o) l u J (by simpa using m) (by rw[C00];exact F) D)
  rw[aq u aX];exact ax i l u X m D y
 ·by_cases e:j=i;·grind[List.mem_cons_self]
  rw[getD_set_ne false e]at R;obtain⟨au,aD⟩:=ai i l a5 aw z' m D y I R;exact⟨au,mC _ aD⟩
 rcases List.mem_cons.1 c with rfl|c;·exact⟨j,o,L,hisa,F,by simp[aL]⟩
 obtain⟨i,l,m,D,y,I⟩:=ab p c;exact⟨i,l,m,D,y,getD_set_true I⟩
theorem J0m{a m:Type}{f:a->m}:∀ {l:List a},(l.map f).Nodup->∀ {p q:a},p∈l->q∈l->f p=f q->p=q
 | [],_,p,q,h,_,_=>nomatch h
 |x::l,b,p,q,g,j,e=>by
  rw[List.map_cons,List.nodup_cons]at b;rcases List.mem_cons.1 g with c|i<;>rcases List.mem_cons.1 j with d|k;·rw[c,d]
  ·grind
  ·grind
  exact J0m b.2 i k e
theorem P0y{c:List Oper}{st:St}{A:Asg}{U:FL}{ad:List BE}{K:St->Hp->Prop}{aa:Array Bool} (W:∀(i j:Nat) (M ac:Oper) (d:Nat),(L7 c)[i]?=some M->(L7 c)[j]?=some ac->M.dst=some d->ac.dst=some d->i=j) (ao:∀ o∈L7 c,∀ d,o.dst=some d->d<st.n) (aq:∀ i,skA c i=true->(A i).2.2 = .pu (.val undef)) (ak:∀ o∈c,R08 o=true->∃ t d z,o.op = .alloc t/\o.guard=none/\o.dst=some d/\C03 P t=some z/\∀ av∈c,Operand.tmp d ∉ av.op.operands) (ai:m0m (L7 c) A U ad (L7 c).length) (al:∀ h',Sub h h'->i0m h' U st.fr λfr=>doA (o08 P) c { st with fr:=fr } h' K) (Y:∀ j,j<c.length->aa.getD j false=true) (y:G0h P h0 w0 c st h A aa a w):∃ st' h' be oe H,K st' h'/\Sim P h0 w0 be oe H st' h' a w:=by
 obtain⟨N,aD,w1,ab,Z,S,ar,ah,aF⟩:=y;obtain⟨be,oe,H,h',fr,an,E,keep,g⟩:=L0t (K:=λst h=>doA (o08 P) c st h K) (ops:=(L7 c).toArray) aq (by simpa using W) (by simpa using ai) al (λj s=>Y j (by simpa [I0m] using s)) ar;have au:V2 h0 w0 (Q07 H (N.map λp=>p.2)) w:=ab.trans (j0k ab.vis (λp J=>by grind) S E.mv);have Q:∀ p∈N,H p.2.1=none:=λp J=>E.mv.none_of (Z p J).2 (Z p J).1;have ay:=E.more (l:=N.map λp=>p.2) (λp J=>by grind) au;have F:∀ o∈c,R08 o=true->∃ t d z b,o.op = .alloc t/\o.dst=some d/\C03 P t=some z/\(d,b,Obj.cells z.cells t (0,0))∈N/\a.tmps.getD d undef=ptr b 0:=λo u q=>by obtain⟨t,d,z,C,m,D,k,v⟩:=ak o u q;obtain⟨j,s⟩:=List.getElem?_of_mem u;obtain⟨b,I⟩:=ah j o t d z s C D k (Y j (List.getElem?_eq_some_iff.1 s).1);exact⟨t,d,z,b,C,D,k,I,keep _ (List.mem_map.2 ⟨_,I,rfl⟩)⟩
 have ap:∀ b,H b=none->h' b=none:=λb I=>by
  cases e:h' b with
  |none=>rfl
  |some o=>rw[E.sub b o e]at I;cases I
 refine(o0s (K:=K) (fd:=d6 (L7 c).toArray.toList st.fr) c { st with fr:=fr } be ay (λt aH=>?_) (λo u q=>?_) ?_ (λi cs ty y o u q d x=>?_) (λi az e sz by_ nn xs aC y am o u q d x=>?_) an).elim λst' L=>L.elim λbe' L=>⟨st',h',be',oe,_,L.1,L.2⟩
 ·refine N2.fr (st:=st) (fr:=fr) (g t λi M O T=>?_);have O:(L7 c)[i]?=some M:=by simpa using O
  rw[D00]at O;grind[R08,skA,absurd,C00,List.mem_of_getElem?]
 ·obtain⟨t,d,z,b,C,m,D,k,v⟩:=F o u q;have R:=D0a v;obtain⟨j,s⟩:=List.getElem?_of_mem u;refine⟨d,t,z,C,m,ao (f03 o) (List.mem_of_getElem? (i:=j) (by rw[D00,s];rfl)) d (by rw[C00];exact m),D,by rw[R];exact v,by rw[R];exact d09 S (List.mem_map.2 ⟨_,k,rfl⟩),by rw[R];exact ap b (Q _ k)⟩
 ·rw[List.pairwise_iff_getElem];intro i j y s aG q aj d ae x X e;obtain⟨t,V,z,b,C,m,D,k,v⟩:=F _ (List.getElem_mem y) q;obtain⟨aK,aB,z',aA,O,T,aJ,aw,ax⟩:=F _ (List.getElem_mem s) aj;rw[m]at x;cases x;rw[T]at X;cases X;rw[D0a v,D0a ax]at e;subst e;have:=J0m (f:=λp:Nat×Nat×Obj=>p.2.1) (by have:=S;rw[List.map_map]at this;exact this) k aw rfl;have ag:d=ae:=congrArg Prod.fst this;subst ag;have:=W i j (f03 c[i]) (f03 c[j]) d (by rw[D00,List.getElem?_eq_getElem y];rfl) (by rw[D00,List.getElem?_eq_getElem s];rfl) (by rw[C00];exact m) (by rw[C00];exact T);omega
 ·obtain⟨t,V,z,b,C,m,D,k,v⟩:=F o u q;rw[m]at x;cases x;rw[D0a v];intro e;obtain⟨_,vs,_,G⟩:=E.box i cs ty y;rw[e,Q _ k]at G;cases G
 obtain⟨t,V,z,b,C,m,D,k,v⟩:=F o u q;rw[m]at x;cases x;rw[D0a v];intro af;obtain⟨_,_,_,_,G⟩:=(E.own i az e sz by_ nn xs y).block am;rw[af,Q _ k]at G;cases G
theorem t0A{ops:Array Oper}{Q:Exit->Act->World->Prop}{Inv:Array Bool->Act->World->Prop}(hB:∀(k:Nat) (o:Oper),ops.toList[k]?=some o->∀ e∈o.after,Region.binds .any e=true->e.on<k)
  (hstep:∀ listed a w j o,listed.size=ops.size->listed.getD j true=false->ops[j]?=some o->(∀ e∈o.after,Region.binds .any e=true->listed.getD e.on false=true)->Inv listed a w ->
   (Region.wanted o (yielded ops a.tmps)=true->o.wp P a w (Inv (listed.setIfInBounds j true)) Q)/\(Region.wanted o (yielded ops a.tmps)=false->Inv (listed.setIfInBounds j true) (a.put o.dst undef) w))
  (hQ:∀ listed a w,(∀ j,j<ops.size->listed.getD j false=true)->Inv listed a w->Q .normal a w) :
  ∀(fuel:Nat) (listed:Array Bool) (a:Act) (w:World),listed.size=ops.size->listed.toList.count true+fuel=ops.size->Inv listed a w->wpAny P .any ops Q fuel listed a w
 |0,listed,a,w,hsz,hc,hi=>by
  have hall':∀ j,j<ops.size->listed.getD j false=true:=λj hj=>by
   have h1:∀ b∈listed.toList,true=b:=List.count_eq_length.1 (by grind)
   have hlt:j<listed.size:=by omega
   have:=h1 listed[j] (by simp)
   simp[hlt,←this]
  refine⟨?_,hQ listed a w hall' hi⟩
  cases hr:Region.ready .any ops listed with
  |nil=>rfl
  |cons j r =>
   grind[Region.ready,List.mem_cons_self,mem_ready,Array.getElem?_eq_some_iff]
 |fuel+1,listed,a,w,hsz,hc,hi=>by
  refine⟨λhr=>hQ listed a w (E0m hB hsz hr) hi,λj hj=>?_⟩
  obtain⟨h1,o,h2,h3⟩:=mem_ready.1 hj
  unfold wpOp
  simp only[h2]
  obtain⟨ht,hf⟩:=hstep listed a w j o hsz h1 h2 h3 hi
  have next:∀ a' w',Inv (listed.setIfInBounds j true) a' w'->wpAny P .any ops Q fuel (listed.setIfInBounds j true) a' w':=λa' w' hi'=>t0A hB hstep hQ fuel _ a' w' (by simpa using hsz) (by rw[count_set h1];omega) hi'
  cases hw:Region.wanted o (yielded ops a.tmps)with
  |true =>
   rw[if_pos rfl]
   exact .inl (Oper.wp_mono next (ht hw))
  |false =>
   grind
theorem H0h{x:Nat}:∀ {l:List Nat},i0s x l=true↔x∈l
 | []=>by simp[i0s]
 |y::r=>by simp only[i0s,Bool.or_eq_true,List.mem_cons,H0h (l:=r)];simp_all
theorem K0m{ops:List Oper}{i:Nat}:∀ {l:List Nat},b0g ops i l=true->∃ a o,a∈l/\ops[a]?=some o/\X02 i o=true
 | [],h=>by cases h
 |a::r,h=>by
  simp only[b0g,Bool.or_eq_true]at h;rcases h with h|h;·grind[T08,List.mem_cons_self]
  obtain⟨d,o,b,c⟩:=K0m h;grind
theorem k0f{ops:List Oper}{G:Nat->Prop}(b:∀ i a o,G a->ops[a]?=some o->X02 i o=true->G i):∀(n:Nat) (acc:List Nat),(∀ a∈acc,G a)->∀ i∈x0m ops n acc,G i
 |0,acc,h=>h
 |n+1,acc,h=>by
  unfold x0m;split;·rename_i c;obtain⟨a,o,d,e,f⟩:=K0m c;exact k0f b n _ λi g=>by grind
  exact k0f b n acc h
theorem l0f{d:Nat}:∀ {l:List Oper},I0e d l=false->∀ o∈l,o.dst≠some d
 | [],_,o,h=>nomatch h
 |y::r,a,o,h=>by
  simp only[I0e,Bool.or_eq_false_iff]at a;rcases List.mem_cons.1 h with rfl|h;·intro b;simp_all
  exact l0f a.2 o h
theorem e0a{b:List Nat}{t:Nat}:∀ {l:List Oper} {k:Nat},S08 b t l k=true->∀(i:Nat) (o:Oper),l[i]?=some o->o.dst=some t->k+i∈b
 | [],k,_,i,o,h,_=>by simp at h
 |y::r,k,a,i,o,h,c=>by
  simp only[S08,Bool.and_eq_true]at a;cases i with
  |zero =>simp_all[H0h]
  |succ i =>have:=e0a a.2 i o (by simpa using h) c;grind
theorem Q0e{i d:Nat}:∀ {l:List Oper},u0a i d l=true->∀ o∈l,Operand.tmp d∈o.op.operands->X02 i o=true
 | [],_,o,h,_=>nomatch h
 |y::r,b,o,h,c=>by
  simp only[u0a,Bool.and_eq_true,Bool.or_eq_true]at b;rcases List.mem_cons.1 h with rfl|h
  ·rcases b.1 with a|a
   ·have e:v0c d o.op.operands.toList=false:=by simpa using a
    exact absurd (show Operand.tmp d∈o.op.operands.toList by simpa using c) (H09 e)
   exact a
  exact Q0e b.2 o h c
theorem k0k:∀ {l:List Oper},L0p l=true->∀ o∈l,W0f o.op=false
 | [],_,o,h=>nomatch h
 |y::r,a,o,h=>by
  simp only[L0p,Bool.and_eq_true]at a;rcases List.mem_cons.1 h with rfl|h;·simpa using a.1
  exact k0k a.2 o h
def u06(o:Oper)(f:Operand->Value):Option Value:=match o.op with
 | .extract x k=>match f x with
  | .tuple vs=>vs[k]?
  |_=>none
 | .move x=>some (f x)
 | .assign x=>some (f x)
 | .pick c x y=>match f c with
  | .bool q=>some (if q=true then f x else f y)
  |_=>none
 |_=>none
theorem I08{x:Operand}{a b:Act}(h:∀ t∈w0h x,a.tmps.getD t undef=b.tmps.getD t undef):a.eval x=b.eval x:=by
 cases x with
 |tmp t=>exact h t (List.mem_singleton.2 rfl)
 |const v=>rfl
 |global g=>rfl
 |func f=>rfl
theorem R07{o:Oper}{a:List Nat}(h:H0e o=some a):o.guard=none/\((∃ x k,o.op = .extract x k/\a=w0h x)∨(∃ x,o.op = .move x/\a=w0h x)∨(∃ x,o.op = .assign x/\a=w0h x)∨∃ c x y,o.op = .pick c x y/\a=w0h c++(w0h x++w0h y)):=by
 unfold H0e at h;split at h;·cases h
 rename_i b;refine⟨b,?_⟩;split at h;·rename_i x k e;cases h;exact .inl ⟨x,k,e,rfl⟩
 ·rename_i x e;cases h;exact .inr (.inl ⟨x,e,rfl⟩)
 ·rename_i x e;cases h;exact .inr (.inr (.inl ⟨x,e,rfl⟩))
 ·rename_i c x y e;cases h;exact .inr (.inr (.inr ⟨c,x,y,e,rfl⟩))
 cases h
theorem I0c{o:Oper}{g:List Nat}{a b:Act}(h:H0e o=some g)(e:∀ t∈g,a.tmps.getD t undef=b.tmps.getD t undef):u06 o a.eval=u06 o b.eval:=by
 obtain⟨_,⟨x,k,d,rfl⟩|⟨x,d,rfl⟩|⟨x,d,rfl⟩|⟨c,x,y,d,rfl⟩⟩:=R07 h;·unfold u06;rw[d];simp only[I08 e]
 ·unfold u06;rw[d];simp only[I08 e]
 ·unfold u06;rw[d];simp only[I08 e]
 unfold u06;rw[d];simp only[I08 (x:=c) λt f=>e t (List.mem_append_left _ f),I08 (x:=x) λt f=>e t (List.mem_append_right _ (List.mem_append_left _ f)),I08 (x:=y) λt f=>e t (List.mem_append_right _ (List.mem_append_right _ f))]
theorem l0k{o:Oper}{f:List Nat}{a:Act}{v:Value}(h:H0e o=some f)(b:u06 o a.eval=some v)(w:World):(execOp a.eval o).run P w = .ok (.value v) w:=by
 obtain⟨_,⟨x,k,e,_⟩|⟨x,e,_⟩|⟨x,e,_⟩|⟨c,x,y,e,_⟩⟩:=R07 h
 ·unfold u06 at b;rw[e]at b;simp only at b;split at b;·rename_i vs d;unfold execOp;rw[e];simp only[Instr.extract,d,b];rfl
  cases b
 ·unfold u06 at b;rw[e]at b;cases b;unfold execOp;rw[e];rfl
 ·unfold u06 at b;rw[e]at b;cases b;unfold execOp;rw[e];rfl
 unfold u06 at b;rw[e]at b;simp only at b;split at b;·rename_i q d;cases b;unfold execOp;rw[e];simp only[d,asBool];cases q<;>rfl
 cases b
theorem Q0y{o:Oper}{g:List Nat}{a:Act}{w:World}{N:Act->World->Prop}(h:H0e o=some g)(b:o.wp P a w N λ_ _ _=>False):∃ v,u06 o a.eval=some v/\N (a.put o.dst v) w:=by
 obtain⟨_,⟨x,k,e,_⟩|⟨x,e,_⟩|⟨x,e,_⟩|⟨c,x,y,e,_⟩⟩:=R07 h
 ·cases hx:u06 o a.eval with
  |some v =>refine⟨v,rfl,?_⟩;unfold Oper.wp at b;rw[l0k h hx w]at b;exact b
  |none =>
   exfalso;unfold u06 at hx;rw[e]at hx;simp only at hx;unfold Oper.wp execOp at b;rw[e]at b;simp only[Instr.extract]at b;split at hx;·rename_i vs f;rw[f]at b;simp only[hx]at b;exact b
   rename_i d;generalize a.eval x=z at b d;cases z<;>first|exact b|exact absurd rfl (d _)
 ·refine⟨_,by unfold u06;rw[e],?_⟩;unfold Oper.wp execOp at b;rw[e]at b;exact b
 ·refine⟨_,by unfold u06;rw[e],?_⟩;unfold Oper.wp execOp at b;rw[e]at b;exact b
 cases hx:u06 o a.eval with
 |some v =>refine⟨v,rfl,?_⟩;unfold Oper.wp at b;rw[l0k h hx w]at b;exact b
 |none =>
  exfalso;unfold u06 at hx;rw[e]at hx;simp only at hx;unfold Oper.wp execOp at b;rw[e]at b;simp only at b;split at hx;·cases hx
  rename_i d;generalize a.eval c=z at b d;cases z<;>first|exact b|exact absurd rfl (d _)
def m0k(as a:Act)(D:Nat->Prop):Prop:=as.tmps.size=a.tmps.size/\as.defers=a.defers/\∀ d,¬ D d->as.tmps.getD d undef=a.tmps.getD d undef
theorem S07(a:Act)(d u:Nat)(v:Value):(a.put (some d) v).tmps.getD u undef=if d=u/\d<a.tmps.size then v else a.tmps.getD u undef:=by by_cases e:d=u;all_goals simp_all[Act.put,if_neg,Array.getElem?_setIfInBounds_ne]
theorem m0k.put{as a:Act}{b:Nat->Prop}(l:m0k as a b)(d:Option Nat)(v:Value):m0k (as.put d v) (a.put d v) b:=by
 cases d with
 |none=>exact l
 |some d =>refine⟨by simp[Act.put,l.1],l.2.1,λu c=>?_⟩;rw[S07,S07,l.1,l.2.2 u c]
theorem R0y{o:Oper}{as a:Act}{w:World}{k:Nat->Prop}{N:Act->World->Prop}{Q:Exit->Act->World->Prop}(l:m0k as a k)(q:W0f o.op=false)(y:∀ d,Operand.tmp d∈o.op.operands -> ¬ k d) (i:o.wp P as w N λ_ _ _=>False):o.wp P a w (λm j=>∃ g,N g j/\m0k g m k/\(∃ v,g=as.put o.dst v∨∃ x,g = { as with defers:=x }.put o.dst v)/\∃ v,m=a.put o.dst v∨∃ x,m = { a with defers:=x }.put o.dst v) Q:=by
 have t:execOp as.eval o=execOp a.eval o:=execOp_congr o (λcs b e=>by rw[e]at q;cases q) λx z=>by
  cases x with
  |tmp d=>exact l.2.2 d (y d z)
  |_=>rfl
 unfold Oper.wp at *;rw[t]at i;generalize (execOp a.eval o).run P w=r at i;have fin:∀(v:Value) (j:World),N (as.put o.dst v) j->∃ g,N g j/\m0k g (a.put o.dst v) k/\(∃ v,g=as.put o.dst v∨∃ x,g = { as with defers:=x }.put o.dst v)/\∃ s,a.put o.dst v=a.put o.dst s∨∃ x,a.put o.dst v = { a with defers:=x }.put o.dst s :=
  λv j h=>⟨_,h,l.put o.dst v,⟨v,.inl rfl⟩,v,.inl rfl⟩
 cases r with
 |ok n j =>
  cases n with
  |value v=>exact fin v j i
  |skip=>exact fin undef j i
  |defer d =>refine⟨_,i,m0k.put (as := { as with defers:=d::as.defers }) (a := { a with defers:=d::a.defers }) ⟨l.1,by simp[l.2.1],l.2.2⟩ o.dst undef,⟨_,.inr ⟨_,rfl⟩⟩,_,.inr ⟨_,rfl⟩⟩
  |enter f args =>
   refine Calls.mono i λe p h=>?_;cases e with
   |returned v=>exact fin v p h
   |panicked c=>exact h.elim
   |outgrown=>obtain⟨_,_,h⟩:=h;exact h.elim
  |row row args=>exact Rows.mono i λv p h=>fin v p h
  |_=>exact i.elim
 |halt u j=>cases u<;>exact i.elim
theorem Sim.like{st:St}{as a:Act}{h0:Hp}{w0:World}{be:Nat->Nat}{oe:Nat->Value}{H h:Hp}{w:World}(b:Sim P h0 w0 be oe H st h as w){c:Nat->Prop}(l:m0k as a c)(e:∀ d,¬ c d):Sim P h0 w0 be oe H st h a w :=
 ⟨b.mv,b.sub,b.box,b.pub,b.own,b.frz,b.bb,b.oo,b.bo,by rw[←l.2.1];exact b.dfr,by rw[←l.1];exact b.siz,λt=>by rw[←l.2.2 t (e t)];exact b.fr t⟩
theorem L0m:∀ {l:List Oper} {k:Nat},z0w k l=true->(∀ o∈l,o.guard=none)/\∀(i:Nat) (o:Oper),l[i+1]?=some o->X02 (k+i) o=true
 | [],k,h=>⟨λo b=>(nomatch b),λi o a=>(nomatch a)⟩
 | [x],k,h=>by rw[z0w]at h;grind
 |x::y::r,k,h=>by
  rw[z0w]at h;simp only[Bool.and_eq_true]at h;obtain⟨c,d⟩:=L0m (l:=y::r) h.2;refine⟨λo b=>?_,λi o a=>?_⟩;·grind
  cases i with
  |zero=>grind
  |succ i =>grind
theorem k0q{o:Oper}{st:St}{K:St->Hp->Prop}{Q:Exit->Act->World->Prop}(p:Sim P h0 w0 be oe H st h a w)(k:o08 P o st h K): o.wp P a w (λf j=>∃ st' h' be' oe' e,K st' h'/\Sim P h0 w0 be' oe' e st' h' f j) Q:=by refine Oper.wp_mono (λf j n=>?_) (r03 p k);obtain⟨av,st',h',v,be',oe',e,l,rfl,q,g,s⟩:=n;obtain⟨A,t,u,y,z⟩:=r07 (ops := #[o]) (i:=0) (rs:=⟨st',h',[],[]⟩) (ch:=[]) (c:=true) (v:=v) q ⟨(λx b=>nomatch b),(λx b=>nomatch b),(λd ch av m=>nomatch m)⟩ (by rfl) rfl (λ_=>g) (λh=>by cases h) l;grind
theorem u0g{c d:List Oper}{a:List Nat}:∀ {l:List Oper} {k:Nat},B0j c d a l k=true->∀(i:Nat) (o:Oper),l[i]?=some o->i0s (k+i) a=true∨D0t c d a (k+i) o=true
 | [],k,_,i,o,h=>by simp at h
 |y::r,k,b,i,o,h=>by
  simp only[B0j,Bool.and_eq_true,Bool.or_eq_true]at b;cases i with
  |zero=>grind
  |succ i =>have:=u0g b.2 i o (by simpa using h);grind
theorem n0k{c d:List Oper}{b:List Nat}:∀ {e:List Nat},C0t c d b e=true->∀ t∈e,I0e t d=false/\S08 b t c 0=true
 | [],_,t,h=>by cases h
 |x::r,a,t,h=>by
  simp only[C0t,Bool.and_eq_true,Bool.not_eq_true']at a;rcases List.mem_cons.1 h with rfl|h;·exact a.1
  exact n0k a.2 t h
theorem p0s{c a:List Oper}{b:List Nat}{i:Nat}{o:Oper}(h:D0t c a b i o=true):∃ e d,H0e o=some e/\o.dst=some d/\I0e d a=false/\(∀ t∈e,I0e t a=false/\S08 b t c 0=true)/\u0a i d a=true:=by
 unfold D0t at h;split at h;·rename_i t d f g;simp only[Bool.and_eq_true,Bool.not_eq_true']at h;exact⟨t,d,f,g,h.1.1,n0k h.1.2,h.2⟩
 cases h
theorem r0v{ops:Array Oper}{m:Nat}{st:St}{K:St->Hp->Prop}{Q:Exit->Act->World->Prop}(hb:okZ P st.n m ops.toList=true)(he:evT P (o08 P) m ops.toList st h K) (hQ:∀ a w st h be oe H,K st h->Sim P h0 w0 be oe H st h a w->Q .normal a w) (s:Sim P h0 w0 be oe H st h a w):wpAny P .any ops Q ops.size (Array.replicate ops.size false) a w:=by
 simp only[okZ,G07,A09,Bool.and_eq_true,Bool.or_eq_true]at hb;obtain⟨⟨⟨⟨⟨⟨⟨b1,b2⟩,b3⟩,b4⟩,b5⟩,b6⟩,b7⟩,b8⟩:=hb;generalize hpre:ops.toList.take m=pre at b1 b2 b3 b4 b5 b8;obtain⟨hn,hD⟩:=a09 b1;have hB:∀(k:Nat) (o:Oper),(L7 pre)[k]?=some o->∀ e∈o.after,Region.binds .any e=true->e.on<k:=λk o hk e he' hb=>by have:=b09 b2 k o hk e he' hb;omega
 have hdep:=s0b b3;have hgd:=u0b b4;have hal:=f0q b5;have hBB:∀(k:Nat) (o:Oper),ops.toList[k]?=some o->∀ e∈o.after,Region.binds .any e=true->e.on<k:=λk o hk e he' hb=>by have:=b09 b6 k o hk e he' hb;omega
 obtain⟨sq1,sq2⟩:=L0m b7;unfold evT at he;rw[hpre]at he;obtain⟨A,Lf,Bf,_,_,hP,hall,hfin⟩:=i0k (ops:=L7 pre) hD (L7 pre) 0 [] [] (λ_=>([],true,.pu .dead)) (λj=>by simp) (by simp)
  ⟨λt x h=>(by cases h),λi oi d hi=>by omega,λi hi=>by omega,λx hx=>(by cases hx)⟩ he
 have hpl:pre.length=min m ops.size:=by rw[←hpre];simp
 have hpg:∀ j,j<m->ops.toList[j]?=pre[j]?:=λj hj=>by rw[←hpre,List.getElem?_take,if_pos hj]
 have hdg:∀ j,(ops.toList.drop m)[j]?=ops.toList[m+j]?:=λj=>List.getElem?_drop;have hsr:∀(i:Nat) (oi:Oper) (d:Nat),(L7 pre)[i]?=some oi->oi.dst=some d->skA pre i=true->∀ o'∈L7 pre,Operand.tmp d ∉ o'.op.operands:=λi oi d q1 q2 q3 o' ho' hc=>by
  rw[D00]at q1;unfold skA at q3;cases e:pre[i]? with
  |none=>rw[e]at q1;cases q1
  |some o0 =>
   rw[e]at q1 q3;cases q1;obtain⟨t,d1,z,k1,k2,k3,k4,k5⟩:=hal o0 (List.mem_of_getElem? e) q3;rw[C00,k3]at q2;cases q2;obtain⟨j,hj⟩:=List.getElem?_of_mem ho';rw[D00]at hj;cases e2:pre[j]? with
   |none=>rw[e2]at hj;cases hj
   |some o1 =>rw[e2]at hj;cases hj;exact k5 o1 (List.mem_of_getElem? e2) (j0q hc)
 have hsb:∀ i,skA pre i=true->(A i).2.2 = .pu (.val undef):=λi q3=>by
  unfold skA at q3;cases e:pre[i]? with
  |none=>rw[e]at q3;cases q3
  |some o0 =>rw[e]at q3;obtain⟨t,d1,z,k1,k2,k3,k4,k5⟩:=hal o0 (List.mem_of_getElem? e) q3;obtain⟨Lj,bj,_,_,_,_,_,hu⟩:=hall i (f03 o0) (Nat.zero_le _) (by rw[D00,e];rfl);refine hu _ ?_;unfold f03;rw[k1];rfl
 let Rest:Nat->Act->World->Prop:=λk a w=>∃ st' h' be oe H,doT (o08 P) (ops.toList.drop k) st' h' K/\Sim P h0 w0 be oe H st' h' a w
 let ml:=x0m ops.toList m [m]
 let Dl:Array Bool->Nat->Prop:=λlisted u=>∃(i:Nat) (o:Oper),pre[i]?=some o/\listed.getD i false=false/\o.dst=some u
 let Lat:Array Bool->Act->Act->Prop:=λlisted as a=>∀(i:Nat) (o:Oper) (t:List Nat) (d:Nat),pre[i]?=some o->listed.getD i false=false->H0e o=some t->o.dst=some d->u06 o a.eval=some (as.tmps.getD d undef)
 let Inv:Array Bool->Act->World->Prop:=λlisted a w=>(∀(j:Nat) (o:Oper),ops[j]?=some o->listed.getD j false=true->∀ e∈o.after,Region.binds .any e=true->listed.getD e.on false=true) /\
  (((∀ k,m<=k->listed.getD k false=false)/\G0h P h0 w0 pre st h A listed a w)∨∃ k as,m<k/\k<=ops.size/\(∀ i,i<k->listed.getD i false=true∨(i<m/\i ∉ ml))/\(∀ i,k<=i->listed.getD i false=false)/\Rest k as w/\m0k as a (Dl listed)/\Lat listed as a)
 have lateOf:m<ops.size->∀(i:Nat) (o:Oper),pre[i]?=some o->i ∉ ml->∃ t d,H0e o=some t/\o.dst=some d/\I0e d (ops.toList.drop m)=false/\(∀ x∈t,I0e x (ops.toList.drop m)=false/\S08 ml x pre 0=true)/\u0a i d (ops.toList.drop m)=true:=λhm i o hi hml=>by
  rcases b8 with h|h
  ·exfalso;have:ops.toList.drop m = []:=by
    cases e:ops.toList.drop m with
    |nil=>rfl
    |cons x r=>rw[e]at h;cases h
   have:=List.drop_eq_nil_iff.1 this;simp at this;omega
  have:=u0g h.1 i o hi;rw[Nat.zero_add]at this;rcases this with h1|h1;·exact absurd (H0h.1 h1) hml
  exact p0s h1
 have noselT:m<ops.size->L0p (ops.toList.drop m)=true:=λhm=>by
  rcases b8 with h|h
  ·exfalso;have:ops.toList.drop m = []:=by
    cases e:ops.toList.drop m with
    |nil=>rfl
    |cons x r=>rw[e]at h;cases h
   have:=List.drop_eq_nil_iff.1 this;simp at this;omega
  exact h.2
 have preD:∀(i j:Nat) (oi oj:Oper) (d:Nat),pre[i]?=some oi->pre[j]?=some oj->oi.dst=some d->oj.dst=some d->i=j:=λi j oi oj d h1 h2 h3 h4 =>
  hD i j (f03 oi) (f03 oj) d (by rw[D00,h1];rfl) (by rw[D00,h2];rfl) (by rw[C00];exact h3) (by rw[C00];exact h4)
 have preN:∀(i:Nat) (o:Oper) (d:Nat),pre[i]?=some o->o.dst=some d->d<st.n:=λi o d h1 h2 =>
  hn (f03 o) (List.mem_of_getElem? (i:=i) (by rw[D00,h1];rfl)) d (by rw[C00];exact h2)
 have unl:∀ {listed:Array Bool} {j:Nat},listed.getD j true=false->listed.getD j false=false/\j<listed.size:=λ{listed j} hj=>by
  rcases Nat.lt_or_ge j listed.size with h|h;·simp[h]at hj ⊢;exact hj
  simp[Array.getElem?_eq_none h]at hj
 have allpre:∀ {listed:Array Bool} {a:Act} {w:World},(∀ j,j<pre.length->listed.getD j false=true)->G0h P h0 w0 pre st h A listed a w->Rest m a w:=λ{listed a w} hl hi =>
  P0y (K:=λst h=>doT (o08 P) (ops.toList.drop m) st h K) hD hn hsb hal hP hfin hl hi
 have tail:∀ {Q:Exit->Act->World->Prop} {k:Nat} {o:Oper} {a:Act} {w:World},ops[k]?=some o->Rest k a w->o.wp P a w (Rest (k+1)) Q:=λ{Q k o a w} ho hr=>by
  obtain⟨st',h',be,oe,H,hd,s'⟩:=hr;have hk:k<ops.toList.length:=by simpa using (Array.getElem?_eq_some_iff.1 ho).1
  have e:ops.toList.drop k=o::ops.toList.drop (k+1):=by
   rw[List.drop_eq_getElem_cons hk];congr 1;have:ops.toList[k]?=some o:=by simpa using ho
   rw[List.getElem?_eq_getElem hk]at this;exact oJ this
  rw[e]at hd;exact k0q s' hd
 have virt:m<ops.size->∀ {listed:Array Bool} {a:Act} {w:World},listed.size=ops.size->(∀ i,i<m->i∈ml->listed.getD i false=true)->G0h P h0 w0 pre st h A listed a w ->
   ∀ k,k<=pre.length->∃ l2 as,l2.size=ops.size/\(∀ i,i<k->l2.getD i false=true)/\(∀ i,k<=i->l2.getD i false=listed.getD i false)/\G0h P h0 w0 pre st h A l2 as w /\
    m0k as a (λu=>∃(i:Nat) (o:Oper),i<k/\pre[i]?=some o/\listed.getD i false=false/\o.dst=some u) /\
    ∀(i:Nat) (o:Oper) (t:List Nat) (d:Nat),i<k->pre[i]?=some o->listed.getD i false=false->H0e o=some t->o.dst=some d->u06 o a.eval=some (as.tmps.getD d undef):=by
  intro hmN listed a w hsz hml hA k
  induction k with
  |zero=>exact λ_=>⟨listed,a,hsz,λi hi=>by omega,λi _=>rfl,hA,⟨rfl,rfl,λ_ _=>rfl⟩,λi o t d hi=>by omega⟩
  |succ k ih =>
   intro hk
   obtain⟨l2,as,z1,z2,z3,z4,z5,z6⟩:=ih (by omega)
   cases hlk:listed.getD k false with
   |true =>
    refine⟨l2,as,z1,λi hi=>?_,λi hi=>z3 i (by omega),z4,⟨z5.1,z5.2.1,λu hu=>z5.2.2 u λ⟨i,o,q1,q2⟩=>hu ⟨i,o,by omega,q2⟩⟩,λi o t d hi q1 q2 q3 q4=>?_⟩
    ·by_cases e:i=k
     ·subst e;rw[z3 i (Nat.le_refl _)];exact hlk
     ·exact z2 i (by omega)
    ·have:i≠k:=λe=>by subst e;rw[hlk]at q2;cases q2
     exact z6 i o t d (by omega) q1 q2 q3 q4
   |false =>
    obtain⟨o,ho⟩:∃ o,pre[k]?=some o:=⟨pre[k],List.getElem?_eq_getElem (by omega)⟩
    have hkm:k<m:=by omega
    have hkml:k ∉ ml:=λh=>by rw[hml k hkm h]at hlk;cases hlk
    obtain⟨t,d,y1,y2,y3,y5,y6⟩:=lateOf hmN k o ho hkml
    have hg:=(R07 y1).1
    have hl2k:l2.getD k false=false:=by rw[z3 k (Nat.le_refl _)];exact hlk
    have hks:k<l2.size:=by rw[z1];omega
    have hun2:l2.getD k true=false:=by
     simp[hks]at hl2k ⊢;exact hl2k
    have hoL:ops.toList[k]?=some o:=by rw[hpg k hkm];exact ho
    have st1:=(E0z (Q:=λ_ _ _=>False) hD hn hB hdep hgd hP (λj o ho=>hall j o (Nat.zero_le _) ho) hsr hsb hal hun2 ho (λe he1 he2=>z2 e.on (hBB k o hoL e he1 he2)) z4).1 (by unfold Region.wanted;rw[hg])
    obtain⟨v,v1,v2⟩:=Q0y y1 st1
    have hasz:as.tmps.size=st.n:=by
     obtain⟨_,_,_,_,_,_,iu,_,_⟩:=z4
     obtain⟨_,_,_,_,_,s,_⟩:=iu
     exact s.siz
    have htne:∀ x∈t,¬ ∃(i:Nat) (o:Oper),i<k/\pre[i]?=some o/\listed.getD i false=false/\o.dst=some x:=λx hx ⟨i,o',q1,q2,q3,q4⟩=>by
     have:=e0a (y5 x hx).2 i o' q2 q4
     rw[Nat.zero_add]at this
     rw[hml i (by omega) this]at q3;cases q3
    rw[I0c y1 λx hx=>z5.2.2 x (htne x hx)]at v1
    rw[y2]at v2
    refine⟨l2.setIfInBounds k true,as.put (some d) v,by simpa using z1,λi hi=>?_,λi hi=>?_,v2,⟨by simp[Act.put,z5.1],z5.2.1,λu hu=>?_⟩,λi o' t' d' hi q1 q2 q3 q4=>?_⟩
    ·by_cases e:k=i
     ·subst e;simp[hks]
     ·rw[getD_set_ne false e];exact z2 i (by omega)
    ·rw[getD_set_ne false (by omega)];exact z3 i (by omega)
    ·rw[S07,if_neg λe=>hu ⟨k,o,by omega,ho,hlk,by rw[y2,e.1]⟩]
     exact z5.2.2 u λ⟨i,o',q1,q2⟩=>hu ⟨i,o',by omega,q2⟩
    ·rw[S07]
     by_cases e:i=k
     ·subst e
      rw[ho]at q1;cases q1
      rw[y1]at q3;cases q3
      rw[y2]at q4;cases q4
      rw[if_pos ⟨rfl,by rw[hasz];exact preN i o d ho y2⟩]
      exact v1
     ·rw[if_neg λh=>e (preD i k o' o d' q1 ho q4 (by rw[y2,h.1]))]
      exact z6 i o' t' d' (by omega) q1 q2 q3 q4
 refine t0A (Inv:=Inv) hBB (λlisted a w j o hsz hun ho hrd hi=>?_) (λlisted a w hl hi=>?_) ops.size _ a w (by simp) (by simp[List.count_replicate]) ⟨λj o _ h=>?_,.inl ⟨λk _=>?_,G0h.start s⟩⟩;rotate_left 2;·simp[Array.getElem?_replicate]at h;split at h<;>cases h
 ·simp[Array.getElem?_replicate];split<;>simp
 rotate_left 1
 ·rcases hi.2 with⟨hm,hA⟩|⟨k,as,k1,k2,k3,k4,hr,lk,lt⟩
  ·have hms:ops.size<=m:=by
    rcases Nat.lt_or_ge m ops.size with h|h;·have:=hm m (Nat.le_refl _);rw[hl m h]at this;cases this
    exact h
   obtain⟨st',h',be,oe,H,hd,s'⟩:=allpre (λj hj=>hl j (by omega)) hA;rw[List.drop_eq_nil_of_le (by simpa using hms)]at hd;exact hQ a w st' h' be oe H hd s'
  have hk:k=ops.size:=by
   rcases Nat.lt_or_ge k ops.size with h|h;·have:=k4 k (Nat.le_refl _);rw[hl k h]at this;cases this
   omega
  subst hk;obtain⟨st',h',be,oe,H,hd,s'⟩:=hr;rw[List.drop_eq_nil_of_le (by simp)]at hd;refine hQ a w st' h' be oe H hd (s'.like lk λu ⟨i,o,q1,q2,q3⟩=>?_);have:=(List.getElem?_eq_some_iff.1 q1).1;rw[hl i (by omega)]at q2;cases q2
 obtain⟨hcl,hi⟩:=hi;obtain⟨hjf,hjs⟩:=unl hun;have hcl':∀(i:Nat) (oi:Oper),ops[i]?=some oi->(listed.setIfInBounds j true).getD i false=true->∀ e∈oi.after,Region.binds .any e=true->(listed.setIfInBounds j true).getD e.on false=true:=λi oi h1 h2 e he1 he2=>by
  by_cases hij:j=i;·subst hij;rw[ho]at h1;cases h1;exact getD_set_true (hrd e he1 he2)
  rw[getD_set_ne false hij]at h2;exact getD_set_true (hcl i oi h1 h2 e he1 he2)
 have hoL:ops.toList[j]?=some o:=by simpa using ho
 have hjlt:j<ops.size:=(Array.getElem?_eq_some_iff.1 ho).1;by_cases hjm:j<m
 ·rcases hi with⟨hm,hA⟩|⟨k,as,k1,k2,k3,k4,hr,lk,lt⟩
  ·have hop:pre[j]?=some o:=by rw[←hpg j hjm];exact hoL
   have st1:=E0z (Q:=Q) hD hn hB hdep hgd hP (λj o ho=>hall j o (Nat.zero_le _) ho) hsr hsb hal hun hop hrd hA;have hyd:Region.wanted o (yielded ops a.tmps)=Region.wanted o (yielded (L7 pre).toArray a.tmps):=by
    unfold Region.wanted;cases hg:o.guard with
    |none=>rfl
    |some p =>
     obtain⟨i,wv⟩:=p;obtain⟨e,he1,he2,he3⟩:=g04 (hgd (f03 o) (List.mem_of_getElem? (i:=j) (by rw[D00,hop];rfl)) i wv (by rw[i0q];exact hg));rw[h0q]at he1;have hlt:=hBB j o hoL e he1 he2;rw[he3]at hlt;have hig:=hpg i (by omega);have:yielded ops a.tmps i=yielded (L7 pre).toArray a.tmps i:=by
      unfold yielded;have e1:ops[i]?=pre[i]?:=by rw[←hig];simp
      have e2:(L7 pre).toArray[i]?=(pre[i]?).map f03:=by simp[D00]
      rw[e1,e2];cases pre[i]? with
      |none=>rfl
      |some o0=>simp[C00]
     simp only[this]
   rw[hyd];have up:∀ a' w',G0h P h0 w0 pre st h A (listed.setIfInBounds j true) a' w'->Inv (listed.setIfInBounds j true) a' w':=λa' w' hx=>⟨hcl',.inl ⟨λk hk=>by rw[getD_set_ne false (by omega)];exact hm k hk,hx⟩⟩;exact⟨λhw=>Oper.wp_mono up (st1.1 hw),λhw=>up _ _ (st1.2 hw)⟩
  have hop:pre[j]?=some o:=by rw[←hpg j hjm];exact hoL
  have hjml:j ∉ ml:=by
   rcases k3 j (by omega)with h|h;·rw[hjf]at h;cases h
   exact h.2
  obtain⟨t,d,y1,y2,y3,y5,y6⟩:=lateOf (by omega) j o hop hjml;have hg:=(R07 y1).1;refine⟨λ_=>?_,λhw=>by unfold Region.wanted at hw;rw[hg]at hw;cases hw⟩;unfold Oper.wp;rw[l0k y1 (lt j o t d hop hjf y1 y2) w];refine⟨hcl',.inr ⟨k,as,k1,k2,λi hi=>?_,λi hi=>?_,hr,⟨by rw[y2];simp[Act.put,lk.1],by rw[y2];exact lk.2.1,λu hu=>?_⟩,λi o' t' d' q1 q2 q3 q4=>?_⟩⟩
  ·rcases k3 i hi with h|h;·exact .inl (getD_set_true h)
   exact .inr h
  ·rw[getD_set_ne false (by omega)];exact k4 i hi
  ·rw[y2,S07];by_cases e:d=u
   ·subst e;by_cases hlt:d<a.tmps.size;·rw[if_pos ⟨rfl,hlt⟩]
    rw[if_neg λh=>hlt h.2];have e1:∀(x:Act),¬ d<x.tmps.size->x.tmps.getD d undef=undef:=λx hx=>by simp[Array.getElem?_eq_none (Nat.le_of_not_lt hx)]
    rw[e1 a hlt,e1 as (by rw[lk.1];exact hlt)]
   rw[if_neg λh=>e h.1];refine lk.2.2 u λ⟨i,o',q1,q2,q3⟩=>?_;by_cases e2:j=i;·subst e2;rw[hop]at q1;cases q1;rw[y2]at q3;cases q3;exact e rfl
   exact hu ⟨i,o',q1,by rw[getD_set_ne false e2];exact q2,q3⟩
  have e2:j≠i:=λe2=>by subst e2;simp[hjs]at q2
  rw[getD_set_ne false e2]at q2;have hi':=(List.getElem?_eq_some_iff.1 q1).1;have himl:i ∉ ml:=by
   rcases k3 i (by omega)with h|h;·rw[q2]at h;cases h
   exact h.2
  obtain⟨t2,d2,x1,x2,x3,x5,x6⟩:=lateOf (by omega) i o' q1 himl;rw[q3]at x1;cases x1;rw[←lt i o' t' d' q1 q2 q3 q4];refine I0c q3 λx hx=>?_;rw[y2,S07,if_neg λh=>?_];have:=e0a (x5 x hx).2 j o hop (by rw[y2,h.1]);rw[Nat.zero_add]at this;exact hjml this
 have hg:o.guard=none:=sq1 o (List.mem_of_getElem? (i:=j-m) (by rw[hdg];rw[show m+(j-m)=j by omega];exact hoL));have prev:m<j->listed.getD (j-1) false=true:=λhlt=>by have:=sq2 (j-m-1) o (by rw[hdg];rw[show m+(j-m-1+1)=j by omega];exact hoL);obtain⟨e,he1,he2,he3⟩:=g04 this;have:=hrd e he1 he2;rw[he3,show m+(j-m-1)=j-1 by omega]at this;exact this
 refine⟨λ_=>?_,λhw=>by unfold Region.wanted at hw;rw[hg]at hw;cases hw⟩;have hmt:o∈ops.toList.drop m:=List.mem_of_getElem? (i:=j-m) (by rw[hdg,show m+(j-m)=j by omega];exact hoL);have go:∀ as,(∀ i,i<j->listed.getD i false=true∨(i<m/\i ∉ ml))->(∀ i,j<=i->listed.getD i false=false)->Rest j as w->m0k as a (Dl listed)->Lat listed as a->o.wp P a w (Inv (listed.setIfInBounds j true)) Q:=λas q1 q2 hr lk lt=>by
  have hjD:∀ u,Dl (listed.setIfInBounds j true) u↔Dl listed u:=λu=>by
   constructor;·rintro⟨i,o',p1,p2,p3⟩;have:=(List.getElem?_eq_some_iff.1 p1).1;rw[getD_set_ne false (by omega)]at p2;exact⟨i,o',p1,p2,p3⟩
   rintro⟨i,o',p1,p2,p3⟩;have:=(List.getElem?_eq_some_iff.1 p1).1;exact⟨i,o',p1,by rw[getD_set_ne false (by omega)];exact p2,p3⟩
  have lateU:∀(i:Nat) (o':Oper),pre[i]?=some o'->listed.getD i false=false->i ∉ ml:=λi o' p1 p2=>by
   have:=(List.getElem?_eq_some_iff.1 p1).1;rcases q1 i (by omega)with h|h;·rw[p2]at h;cases h
   exact h.2
  refine Oper.wp_mono (λa' w' hx=>?_) (R0y (Q:=Q) lk (k0k (noselT (by omega)) o hmt) (λu hu ⟨i,o',p1,p2,p3⟩=>?_) (tail (Q:=λ_ _ _=>False) ho hr))
  ·obtain⟨as',hr',lk',⟨v1,hv1⟩,v2,hv2⟩:=hx;have e1:∀ u,o.dst≠some u->as'.tmps.getD u undef=as.tmps.getD u undef:=λu hu=>by
    cases hd:o.dst with
    |none =>rw[hd]at hv1;rcases hv1 with h|⟨x,h⟩<;>rw[h]<;>rfl
    |some d =>rw[hd]at hv1 hu;rcases hv1 with h|⟨x,h⟩<;>rw[h,S07,if_neg λh=>hu (by rw[h.1])]
   have e2:∀ u,o.dst≠some u->a'.tmps.getD u undef=a.tmps.getD u undef:=λu hu=>by
    cases hd:o.dst with
    |none =>rw[hd]at hv2;rcases hv2 with h|⟨x,h⟩<;>rw[h]<;>rfl
    |some d =>rw[hd]at hv2 hu;rcases hv2 with h|⟨x,h⟩<;>rw[h,S07,if_neg λh=>hu (by rw[h.1])]
   refine⟨hcl',.inr ⟨j+1,as',by omega,by omega,λi hi=>?_,λi hi=>?_,hr',⟨lk'.1,lk'.2.1,λu hu=>lk'.2.2 u λh=>hu ((hjD u).2 h)⟩,λi o' t d p1 p2 p3 p4=>?_⟩⟩
   ·by_cases e:j=i;·subst e;left;simp[hjs]
    rw[getD_set_ne false e];exact q1 i (by omega)
   ·rw[getD_set_ne false (by omega)];exact q2 i (by omega)
   have hi':=(List.getElem?_eq_some_iff.1 p1).1;rw[getD_set_ne false (by omega)]at p2;obtain⟨t2,d2,x1,x2,x3,x5,x6⟩:=lateOf (by omega) i o' p1 (lateU i o' p1 p2);rw[p3]at x1;cases x1;rw[p4]at x2;cases x2;rw[e1 d (l0f x3 o hmt),I0c p3 λx hx=>e2 x (l0f (x5 x hx).1 o hmt)];exact lt i o' t d p1 p2 p3 p4
  obtain⟨t2,d2,x1,x2,x3,x5,x6⟩:=lateOf (by omega) i o' p1 (lateU i o' p1 p2);rw[p3]at x2;cases x2;obtain⟨e,he1,he2,he3⟩:=g04 (Q0e x6 o hmt hu);have:=hrd e he1 he2;rw[he3,p2]at this;cases this
 rcases hi with⟨hm,hA⟩|⟨k,as,k1,k2,k3,k4,hr,lk,lt⟩
 ·have hjm':j=m:=by
   rcases Nat.lt_or_ge m j with h|h;·have:=prev h;rw[hm (j-1) (by omega)]at this;cases this
   omega
  subst hjm';have hml:∀ i,i<j->i∈ml->listed.getD i false=true:=λi hi hmi=>by
   have:=k0f (G:=λi=>i=j∨listed.getD i false=true) (ops:=ops.toList) (λi' j' o' hG ho' he'=>?_) j [j] (λx hx => .inl (by simpa using hx)) i hmi
   ·rcases this with h|h;·omega
    exact h
   obtain⟨e,he1,he2,he3⟩:=g04 he';rw[←he3];right;rcases hG with rfl|hG;·rw[hoL]at ho';cases ho';exact hrd e he1 he2
   exact hcl j' o' (by simpa using ho') hG e he1 he2
  obtain⟨l2,as,z1,z2,z3,z4,z5,z6⟩:=virt hjlt (by assumption) hml hA pre.length (Nat.le_refl _);refine go as (λi hi=>?_) hm (allpre (λi hi=>z2 i hi) z4) ⟨z5.1,z5.2.1,λu hu=>z5.2.2 u λ⟨i,o',p1,p2⟩=>hu ⟨i,o',p2⟩⟩ (λi o' t d p1 p2 p3 p4=>z6 i o' t d (List.getElem?_eq_some_iff.1 p1).1 p1 p2 p3 p4);by_cases h:i∈ml;·exact .inl (hml i hi h)
  exact .inr ⟨hi,h⟩
 have hjk:j=k:=by
  have h1:k<=j:=by
   rcases Nat.lt_or_ge j k with h|h
   ·rcases k3 j h with h2|h2;·rw[hjf]at h2;cases h2
    omega
   exact h
  rcases Nat.lt_or_ge k j with h|h;·have:=prev (by omega);rw[k4 (j-1) (by omega)]at this;cases this
  omega
 subst hjk;exact go as k3 k4 hr lk lt
end
section
variable {P:Program} {h0:Hp} {w0:World} {be:Nat->Nat} {oe:Nat->Value} {H:Hp} {h:Hp} {a:Act} {w:World}
structure T0d (P:Program) (st:St) (ops:List Oper) (k:Nat) (L:List (Nat×S00)) (E:List (Nat×Oper)):Prop where
 key:∀ t f,Z5 L t=some f->∃(i:Nat) (oi:Oper),i<k/\ops[i]?=some oi/\oi.dst=some t
 each:∀(j:Nat) (o:Oper),j<k->ops[j]?=some o->o.guard=none/\((j,o)∈E∨((∀ p∈E,p.1≠j)/\∃ av,E0e P L o st=some av/\∀ d,o.dst=some d->Z5 L d=some (.pu av)))
 eff:∀ p∈E,p.1<k/\ops[p.1]?=some p.2/\∀ d,p.2.dst=some d->∃ F,Z5 L d=some (.ef F)
 nd:(E.map λp=>p.1).Nodup
theorem T0d.add{st:St}{ops:List Oper}{k:Nat}{L:List (Nat×S00)}{w C:List (Nat×Oper)}{o:Oper}{f:S00} (H:∀(i b:Nat) (m c:Oper) (d:Nat),ops[i]?=some m->ops[b]?=some c->m.dst=some d->c.dst=some d->i=b) (J:∀(b:Nat) (o:Oper) (t i:Nat) (m:Oper),ops[b]?=some o->Operand.tmp t∈o.op.operands->ops[i]?=some m->m.dst=some t->i<b) (s:T0d P st ops k L w) (u:ops[k]?=some o) (K:o.guard=none) (A:(C=w/\∃ av,f = .pu av/\E0e P L o st=some av)∨(C=w ++ [(k,o)]/\∃ n,f = .ef n)):T0d P st ops (k+1) (t0h o.dst f L) C:=by
 have no:∀ d,o.dst=some d->Z5 L d=none:=λd j=>by
  cases h:Z5 L d with
  |none=>rfl
  |some g =>obtain⟨i,m,F,z,D⟩:=s.key d g h;have:=H i k m o d z u D j;omega
 have val:∀ t,Z5 (t0h o.dst f L) t=if o.dst=some t then some f else Z5 L t:=λt=>by
  cases j:o.dst with
  |none=>simp[t0h]
  |some d =>show Z5 ((d,f)::L) t=_;rw[c09];simp only[Option.some.injEq]
 have up:∀ t g,Z5 L t=some g->Z5 (t0h o.dst f L) t=some g:=λt g l=>by
  rw[val];split;·rename_i e;rw[no t e]at l;cases l
  exact l
 have E:∀(b:Nat) (c:Oper),b<=k->ops[b]?=some c->E0e P L c st=E0e P (t0h o.dst f L) c st:=λb c M v=>Y0p λt l=>by
  rw[val];split;·rename_i e;have:=J b c t k o v l u e;omega
  rfl
 have lt:∀ p∈w,p.1<k:=λp a=>(s.eff p a).1;refine⟨λt g l=>?_,λb c M v=>?_,λp a=>?_,?_⟩
 ·rw[val]at l;split at l;·rename_i e;exact⟨k,o,oM,u,e⟩
  obtain⟨i,m,F,z⟩:=s.key t g l;exact⟨i,m,oM,z⟩
 ·rcases Nat.lt_or_ge b k with h|h
  ·obtain⟨Q,q⟩:=s.each b c h v;refine⟨Q,?_⟩;rcases q with q|⟨q,av,R,S⟩
   ·left;rcases A with⟨rfl,_⟩|⟨rfl,_⟩;·exact q
    exact List.mem_append_left _ q
   right;refine⟨λp a=>?_,av,by rw[←E b c oM v];exact R,λd j=>up d _ (S d j)⟩;rcases A with⟨rfl,_⟩|⟨rfl,_⟩;·exact q p a
   rcases List.mem_append.1 a with a|a;·exact q p a
   simp at a;subst a;simp;omega
  have:b=k:=oM;subst this;rw[u]at v;cases v;refine⟨K,?_⟩;rcases A with⟨rfl,av,rfl,a⟩|⟨rfl,n,rfl⟩;·right;exact⟨λp a=>by have:=lt p a;omega,av,by rw[←E b o (Nat.le_refl _) u];exact a,λd j=>by rw[val,if_pos j]⟩
  left;simp
 ·have G:p∈w->p.1<k+1/\ops[p.1]?=some p.2/\∀ d,p.2.dst=some d->∃ n,Z5 (t0h o.dst f L) d=some (.ef n):=λa=>by obtain⟨F,z,D⟩:=s.eff p a;exact⟨oM,z,λd j=>by obtain⟨n,I⟩:=D d j;exact⟨n,up d _ I⟩⟩
  rcases A with⟨rfl,_⟩|⟨rfl,n,rfl⟩;·exact G a
  rcases List.mem_append.1 a with a|a;·exact G a
  simp at a;subst a;exact⟨oS,u,λd j=>⟨n,by rw[val,if_pos j]⟩⟩
 rcases A with⟨rfl,_⟩|⟨rfl,_⟩;·exact s.nd
 rw[List.map_append,List.nodup_append];refine⟨s.nd,oS,λx N y O e=>?_⟩;obtain⟨p,a,rfl⟩:=List.mem_map.1 N;have:=lt p a;simp at O;omega
theorem J0c{ops:List Oper}{st:St}{K:List (Nat×S00)->List (Nat×Oper)->Prop}
  (f:∀(i a:Nat) (e v:Oper) (d:Nat),ops[i]?=some e->ops[a]?=some v->e.dst=some d->v.dst=some d->i=a)
  (g:∀(a:Nat) (o:Oper) (t i:Nat) (e:Oper),ops[a]?=some o->Operand.tmp t∈o.op.operands->ops[i]?=some e->e.dst=some t->i<a) :
  ∀(l:List Oper) (k:Nat) (L:List (Nat×S00)) (c:List (Nat×Oper)),(∀ a,l[a]?=ops[k+a]?)->T0d P st ops k L c->u0c P st l k L c K->∃ u n m,ops.length<=u/\K n m/\T0d P st ops u n m
 | [],k,L,c,h,j,b=>⟨k,L,c,by have:=h 0;simpa using this,b,j⟩
 |o::l,k,L,c,h,j,b=>by
  have s:ops[k]?=some o:=by simpa using (h 0).symm
  have q:∀ a,l[a]?=ops[k+1+a]?:=λa=>by have:=h (a+1);simpa [Nat.add_assoc,Nat.add_comm 1 a] using this
  simp only[u0c]at b
  split at b
  ·exact b.elim
  ·rename_i p
   split at b
   ·rename_i av w
    rw[p07]at b
    exact J0c f g l (k+1) _ _ q (j.add f g s p (.inl ⟨rfl,av,rfl,w⟩)) b
   ·exact J0c f g l (k+1) _ _ q (j.add f g s p (.inr ⟨rfl,_,rfl⟩)) b
theorem S0y{rd:List Nat}{N:Nat×List Nat}{m n:Nat}{fr:List (Nat×AV)}{bx:List BSt}{ow:List Own}{L:List (Nat×S00)}{h:Hp}{K:St->Hp->Prop}{b:Nat}{o:Oper}{A B:List (Nat×Oper)}(f:∀ y∈A++B,X02 y.1 o=false)
  (d:g0m rd N P (m+1) (A++(b,o)::B) L ⟨n,fr,bx,ow⟩ h K):y0i L fr o.op.operands.toList [] λe=>J00 P o ⟨n,e,bx,ow⟩ h λav st' h'=>match st' with
  |⟨_,_,a,c⟩=>B0z (v0w N b o) rd bx a/\G06 av λav=>D03 a λa=>D03 c λc=>g0m rd N P m (A++B) (t0h o.dst (.pu av) L) ⟨n,fr,a,c⟩ h' K:=by
 simp only[g0m]at d
 exact K0t (C:=[]) (x:=(b,o)) (by simpa using f) d
def u0A(P:Program)(h0:Hp)(w0:World)(ops:Array Oper)(n:Nat)(fr:List (Nat×AV))(e:List BSt)(g:List Own)(c:List (Nat×Oper))(b:List (Nat×S00))(K:St->Hp->Prop)(f:Array Bool)(a:Act)(w:World):Prop :=
 ∃(r:List (Nat×Oper)) (L:List (Nat×S00)) (bx:List BSt) (ow:List Own) (h:Hp) (be:Nat->Nat) (oe:Nat->Value) (H:Hp),(r.map λp=>p.1).Nodup/\(∀ p∈r,p∈c/\f.getD p.1 true=false)/\(∀ p∈c,p∈r∨f.getD p.1 false=true) /\
  (F0e bx (j06 b ⟨n,fr,e,g⟩ ops.toList)=F0e e (j06 b ⟨n,fr,e,g⟩ ops.toList)∨∀ k,k<ops.size->f.getD k false=true∨k∈u0h c)/\Sim P h0 w0 be oe H ⟨n,d6 ops.toList fr,bx,ow⟩ h a w /\
  g0m (j06 b ⟨n,fr,e,g⟩ ops.toList) (ops.size,u0h c) P (h0m r) r L ⟨n,fr,bx,ow⟩ h K /\
  (∀ t,(Z5 b t=none->Z5 L t=none)/\∀ av,Z5 b t=some (.pu av)->Z5 L t=some (.pu av)) /\
  ∀(i:Nat) (o:Oper) (d:Nat),ops[i]?=some o->o.dst=some d->f.getD i false=true->∃ av,Z5 L d=some (.pu av)/\N2 ⟨n,fr,bx,ow⟩ be oe av (a.tmps.getD d undef)
theorem i0B{ops:Array Oper}{n aP:Nat}{fr:List (Nat×AV)}{M:List BSt}{aa:List Own}{D:List (Nat×Oper)}{T:List (Nat×S00)}{K:St->Hp->Prop}{Q:Exit->Act->World->Prop}{s:Array Bool}{b:Nat}{o:Oper} (aA:∀(i b:Nat) (j aQ:Oper) (d:Nat),ops.toList[i]?=some j->ops.toList[b]?=some aQ->j.dst=some d->aQ.dst=some d->i=b) (aM:∀ o∈ops.toList,∀ d,o.dst=some d->d<n) (aw:T0d P ⟨n,fr,M,aa⟩ ops.toList aP T D) (bp:ops.toList.length<=aP) (a4:s.getD b true=false) (ar:ops[b]?=some o) (bh:s.size=ops.size) (aF:∀ t,Operand.tmp t∈o.op.operands->∀(i:Nat) (j:Oper),ops.toList[i]?=some j->j.dst=some t->s.getD i false=true) (aH:∀ e∈o.after,Region.binds .any e=true->s.getD e.on false=true) (ap:u0A P h0 w0 ops n fr M aa D T K s a w):o.guard=none/\o.wp P a w (u0A P h0 w0 ops n fr M aa D T K (s.setIfInBounds b true)) Q:=by
 obtain⟨r,L,bx,ow,h',be,oe,H,Y,Z,aG,aC,R,O,U,af⟩:=ap;have ab:ops.toList[b]?=some o:=by simpa using ar
 have aj:o∈ops.toList:=List.mem_of_getElem? ab;have ai:b<ops.toList.length:=(List.getElem?_eq_some_iff.1 ab).1;have aL:b<s.size:=by simpa [bh] using ai
 have aK:=y0o a4;have bm:(∀ p∈D,p.1≠b) -> ¬ ∀ k,k<ops.size->s.getD k false=true∨k∈u0h D:=λa5 e=>by
  rcases e b (by simpa using ai)with c|c;·rw[aK]at c;cases c
  obtain⟨p,l,F⟩:=a0q c;exact a5 p l F
 have up:(∀ k,k<ops.size->s.getD k false=true∨k∈u0h D)->∀ k,k<ops.size->(s.setIfInBounds b true).getD k false=true∨k∈u0h D:=λe k X=>(e k X).imp (λh=>getD_set_true h) id;obtain⟨a3,a8⟩:=aw.each b o oM ab;refine⟨a3,?_⟩;have aW:∀ t,Z5 L t≠none->∃(i:Nat) (j:Oper),ops.toList[i]?=some j/\j.dst=some t:=λt q=>by
  cases h0':Z5 T t with
  |none=>exact absurd ((U t).1 h0') q
  |some f=>obtain⟨i,j,_,m,N⟩:=aw.key t f h0';exact⟨i,j,m,N⟩
 have frame:∀ t,(∀ ad∈ops.toList,ad.dst≠some t)->N2 ⟨n,fr,bx,ow⟩ be oe (K3 fr t) (a.tmps.getD t undef):=λt q=>by have g:=R.fr t;change N2 _ be oe (K3 (d6 ops.toList fr) t) _ at g;rw[l04 q]at g;exact N2.fr (st:=⟨n,d6 ops.toList fr,bx,ow⟩) (fr:=fr) g
 have au:∀ t,Operand.tmp t∈o.op.operands->(∀ av,Z5 L t=some (.pu av)->N2 ⟨n,fr,bx,ow⟩ be oe av (a.tmps.getD t undef))/\(Z5 L t=none->N2 ⟨n,fr,bx,ow⟩ be oe (K3 fr t) (a.tmps.getD t undef)):=λt q=>by
  refine⟨λav aB=>?_,λbb=>frame t λad bc C=>?_⟩;·obtain⟨i,j,c,m⟩:=aW t (by rw[aB];simp);obtain⟨J,u,F⟩:=af i j t (by simpa using c) m (aF t q i j c m);rw[aB]at u;cases u;exact F
  obtain⟨i,ap,e⟩:=List.getElem_of_mem bc;have c:ops.toList[i]?=some ad:=by rw[List.getElem?_eq_getElem ap,e]
  obtain⟨J,u,_⟩:=af i ad t (by simpa using c) C (aF t q i ad c C);rw[bb]at u;cases u
 have ac:∀ i,i≠b->∀ d,(s.setIfInBounds b true).getD i d=s.getD i d:=λi z d=>getD_set_ne d (Ne.symm z);have aR:∀ {E:List BSt} {G:List Own} {W:Hp} {be':Nat->Nat} {oe':Nat->Value} {S:Hp} {v:Value} {ae:World},Sim P h0 w0 be' oe' S ⟨n,d6 ops.toList fr,E,G⟩ W a ae->Sim P h0 w0 be' oe' S ⟨n,d6 ops.toList fr,E,G⟩ W (a.put o.dst v) ae:=by
  intro E G W be' oe' S v ae s1;cases C:o.dst with
  |none=>exact s1
  |some d =>
   have l:=s1.put (d:=d) (av := .dead) (v:=v) (aM o aj d C) trivial;refine l.refr (fr:=d6 ops.toList fr) λt=>?_;have g:=l.fr t;change N2 _ _ _ (K3 ((d,.dead)::d6 ops.toList fr) t) _ at g;rw[l4]at g;split at g;·rename_i e;subst e;rw[x05 aj C];trivial
   exact g
 have aU:∀(v:Value) (i:Nat) (j:Oper) (d:Nat),ops[i]?=some j->j.dst=some d->i≠b->(a.put o.dst v).tmps.getD d undef=a.tmps.getD d undef:=λv i j d c m z=>by
  cases C:o.dst with
  |none=>rfl
  |some ax =>
   have aq:ax≠d:=λe=>by subst e;exact z (aA i b j o ax (by simpa using c) ab m C)
   simp[Act.put,Array.getElem?_setIfInBounds_ne aq]
 have aV:∀(v:Value) (d:Nat),o.dst=some d->(a.put o.dst v).tmps.getD d undef=v:=λv d C=>by
  have ai:d<a.tmps.size:=by rw[R.siz];exact aM o aj d C
  rw[C];simp[Act.put,ai]
 have keep:∀ p∈D,p∈r∨(s.setIfInBounds b true).getD p.1 false=true:=λp l=>(aG p l).imp id λh=>getD_set_true h;rcases a8 with aJ|⟨aN,av,bd,a0⟩
 ·have a6:(b,o)∈r:=(aG _ aJ).resolve_right λc=>by rw[aK]at c;cases c
  obtain⟨A,B,rfl⟩:=List.append_of_mem a6;have aq:∀ p∈A++B,p.1≠b:=λp l e=>by
   rw[List.map_append,List.map_cons,List.nodup_append,List.nodup_cons]at Y;rcases List.mem_append.1 l with l|l;·exact Y.2.2 _ (List.mem_map.2 ⟨p,l,rfl⟩) b oS e
   exact Y.2.1.1 (List.mem_map.2 ⟨p,l,e⟩)
  have bf:∀ y∈A++B,X02 y.1 o=false:=λy ak=>by
   cases hc:X02 y.1 o;·rfl
   obtain⟨e,an,ao,a2⟩:=g04 hc;have ag:=aH e an ao;have am:=y0o (Z y (by rcases List.mem_append.1 ak with ak|ak<;>simp[ak])).2;rw[a2,am]at ag;cases ag
  rw[z0o,show(A++(b,o)::B).length=h0m (A++B)+1 by rw[z0o];simp;omega]at O;have O:=S0y bf O;obtain⟨az,O,ag⟩:=l06 (acc:=[]) (st:=⟨n,fr,bx,ow⟩) (stX:=⟨n,fr,bx,ow⟩) (be:=be) (oe:=oe) (val:=λt=>a.tmps.getD t undef) (λt=>trivial) (λt q=>au t (by simpa using q)) O;have bj:Sim P h0 w0 be oe H ⟨n,az,bx,ow⟩ h' a w:=R.refr (fr:=az) λt=>N2.fr (st:=⟨n,fr,bx,ow⟩) (fr:=d6 ops.toList fr) (ag t);refine Oper.wp_mono (λbo ae bi=>?_) (r03 bj O);obtain⟨J,⟨I,ay,E,G⟩,W,v,be',oe',S,X,rfl,s2,am,V⟩:=bi;obtain⟨aO,X⟩:=X;rw[p07,u05,u05]at X;have ba:I=n:=by have u:a.tmps.size=I:=s2.siz;have F:a.tmps.size=n:=R.siz;omega
  subst ba;have aX:V8 ⟨I,fr,bx,ow⟩ be oe ⟨I,fr,E,G⟩ be' oe':=⟨V.bl,V.be,V.sm⟩;have aY:V8 ⟨I,d6 ops.toList fr,bx,ow⟩ be oe ⟨I,d6 ops.toList fr,E,G⟩ be' oe':=⟨V.bl,V.be,V.sm⟩;have bk:Sim P h0 w0 be' oe' S ⟨I,d6 ops.toList fr,E,G⟩ W a ae :=
   s2.refr (fr:=d6 ops.toList fr) λt=>N2.fr (st:=⟨I,d6 ops.toList fr,E,G⟩) (fr:=ay) ((R.fr t).grow aY)
  have val:∀ t,Z5 (t0h o.dst (.pu J) L) t=if o.dst=some t then some (.pu J)else Z5 L t:=λt=>by
   cases C:o.dst with
   |none=>simp[t0h]
   |some d =>show Z5 ((d,.pu J)::L) t=_;rw[c09];simp only[Option.some.injEq]
  refine⟨A++B,t0h o.dst (.pu J) L,E,G,W,be',oe',S,?_,λp l=>?_,λp l=>?_,?_,aR bk,X,λt=>?_,λi j d c m N=>?_⟩;·rw[List.map_append,List.map_cons]at Y;rw[List.map_append];exact Y.sublist ((List.sublist_cons_self _ _).append_left _)
  ·rw[ac _ (aq p l)];exact Z p (by rcases List.mem_append.1 l with l|l<;>simp[l])
  ·rcases keep p l with g|g
   ·rcases List.mem_append.1 g with g|g;·exact .inl (List.mem_append_left _ g)
    rcases List.mem_cons.1 g with rfl|g;·right;simp[aL]
    exact .inl (List.mem_append_right _ g)
   exact .inr g
  ·cases hl:v0w (ops.size,u0h D) b o;·rw[hl]at aO;exact aC.imp (λe=>aO.trans e) up
   right;intro k a7;by_cases hkj:k=b;·subst hkj;left;simp[aL]
   rw[ac k hkj];rcases P0e (show w0c (u0h D) ops.size b o=true from hl) k a7 hkj with⟨e,an,ao,rfl⟩|Z;·exact .inl (aH e an ao)
   exact .inr Z
  ·rw[val];split;·rename_i q;obtain⟨_,_,ah⟩:=aw.eff (b,o) aJ;obtain⟨bn,ah⟩:=ah t q;exact⟨λe=>(by rw[ah]at e;cases e),λav e=>(by rw[ah]at e;cases e)⟩
   exact U t
  by_cases z:i=b;·subst z;rw[ar]at c;cases c;exact⟨J,by rw[val,if_pos m],by rw[aV v d m];exact N2.fr (st:=⟨I,ay,E,G⟩) (fr:=fr) am⟩
  rw[ac _ z]at N;obtain⟨al,u,F⟩:=af i j d c m N;have a1:o.dst≠some d:=λe=>z (aA i b j o d (by simpa using c) ab m e);exact⟨al,by rw[val,if_neg a1];exact u,by rw[aU v i j d c m z];exact F.grow aX⟩
 have aD:F0e bx (j06 T ⟨n,fr,M,aa⟩ ops.toList)=F0e M (j06 T ⟨n,fr,M,aa⟩ ops.toList):=aC.resolve_right (bm aN);have aS:∀ {av:AV} {x:Value},N2 ⟨n,fr,bx,ow⟩ be oe av x->N2 ⟨n,d6 ops.toList fr,bx,ow⟩ be oe av x:=λg=>N2.fr (st:=⟨n,fr,bx,ow⟩) (fr:=d6 ops.toList fr) g;obtain⟨v,bg,aZ⟩:=p0v (st:=⟨n,fr,M,aa⟩) (stX:=⟨n,d6 ops.toList fr,bx,ow⟩) R (λbq x i off u F=>F0m aD (h0k u F aj)) bd (λt q=>⟨λav e=>aS ((au t q).1 av ((U t).2 av e)),λe=>aS ((au t q).2 ((U t).1 e))⟩);refine R9 bg ?_;refine⟨r,L,bx,ow,h',be,oe,H,Y,λp l=>?_,keep,.inl aD,aR R,O,U,λi j d c m N=>?_⟩;·rw[ac _ (aN p (Z p l).1)];exact Z p l
 by_cases z:i=b;·subst z;rw[ar]at c;cases c;exact⟨av,(U d).2 av (a0 d m),by rw[aV v d m];exact N2.fr (st:=⟨n,d6 ops.toList fr,bx,ow⟩) (fr:=fr) aZ⟩
 rw[ac _ z]at N;obtain⟨al,u,F⟩:=af i j d c m N;exact⟨al,u,by rw[aU v i j d c m z];exact F⟩
theorem s0v{ops:Array Oper}{st:St}{K:St->Hp->Prop}{Q:Exit->Act->World->Prop}(y:Sim P h0 w0 be oe H st h a w)(s:A09 st.n ops.toList=true) (ad:u0c P st ops.toList 0 [] [] λL j=>g0m (j06 L st ops.toList) (ops.size,u0h j) P (h0m j) j L st h K) (ac:∀ a w st h be oe H,K st h->Sim P h0 w0 be oe H st h a w->Q .normal a w):wpAny P .any ops Q ops.size (Array.replicate ops.size false) a w:=by
 simp only[A09,Bool.and_eq_true]at s;obtain⟨⟨V,W⟩,X⟩:=s;obtain⟨am,N⟩:=a09 V;have M:∀(k:Nat) (o:Oper),ops.toList[k]?=some o->∀ e∈o.after,Region.binds .any e=true->e.on<k:=λk o aj e G s=>by have:=b09 W k o aj e G s;omega
 have O:=s0b X;obtain⟨az,E,j,ak,z,D⟩:=J0c (ops:=ops.toList) N (λu o t i x l m q ab=>by obtain⟨e,G,s,rfl⟩:=O o (List.mem_of_getElem? l) t m i x q ab;exact M u o l e G s) ops.toList 0 [] [] (λu=>oS) ⟨λt f h=>(by cases h),λu o S=>oM,λp c=>(by cases c),oS⟩ ad;obtain⟨n,fr,bx,ow⟩:=st;have lt:∀ p∈j,p.1<ops.size:=λp c=>by have:=(List.getElem?_eq_some_iff.1 (D.eff p c).2.1).1;simpa using this
 refine t0A (Inv:=u0A P h0 w0 ops n fr bx ow j E K) M (λaw a w u o aq S A R b=>?_) (λaw a w I b=>?_) ops.size _ a w oS (by simp[List.count_replicate]) ?_
 ·obtain⟨ag,au⟩:=i0B (Q:=Q) N am D ak S A aq (λt ar i x ah ai=>by obtain⟨e,ae,af,rfl⟩:=O o (List.mem_of_getElem? (i:=u) (by simpa using A)) t ar i x ah ai;exact R e ae af) R b;have:Region.wanted o (yielded ops a.tmps)=true:=by unfold Region.wanted;rw[ag]
  exact⟨λ_=>au,λh=>by rw[this]at h;cases h⟩
 ·obtain⟨r,L,bx,ax,h',be,oe,H,_,ao,_,_,y,z,T,J⟩:=b;have ap:r = []:=by
   cases r with
   |nil=>rfl
   |cons p aA =>obtain⟨Z,aa⟩:=ao p mS;have:=I p.1 (lt p Z);rw[y0o aa]at this;cases this
  subst ap;simp only[h0m,g0m,u05]at z;refine ac a w _ h' be oe H z (y.refr (fr:=f0s L fr) λt=>?_);rw[F0h];cases hL:Z5 L t with
  |none =>
   have al:∀ C∈ops.toList,C.dst≠some t:=λC an F=>by
    obtain⟨i,b,e⟩:=List.getElem_of_mem an;have l:ops[i]?=some C:=by rw[←e];simp at b ⊢
    obtain⟨U,v,_⟩:=J i C t l F (I i (by simpa using b));rw[hL]at v;cases v
   have g:=y.fr t;change N2 _ be oe (K3 (d6 ops.toList fr) t) _ at g;rw[l04 al]at g;exact g
  |some f =>
   cases f with
   |ef ay=>trivial
   |pu av =>
    cases h0':Z5 E t with
    |none=>rw[(T t).1 h0']at hL;cases hL
    |some f =>obtain⟨i,x,_,m,q⟩:=D.key t f h0';have b:=(List.getElem?_eq_some_iff.1 m).1;obtain⟨U,v,Y⟩:=J i x t (by simpa using m) q (I i (by simpa using b));rw[hL]at v;cases v;exact N2.fr (st:=⟨n,fr,bx,ax⟩) (fr:=d6 ops.toList fr) Y
 refine⟨j,E,bx,ow,h,be,oe,H,D.nd,λp c=>⟨c,by simp[lt p c]⟩,λp c => .inl c,.inl rfl,y.refr (fr:=d6 ops.toList fr) λt=>?_,z,λt=>⟨id,λav=>id⟩,λu o d l m q=>?_⟩
 ·by_cases hx:∃ o∈ops.toList,o.dst=some t;·obtain⟨o,l,m⟩:=hx;rw[x05 l m];trivial
  rw[l04 λo A F=>hx ⟨o,A,F⟩];exact y.fr t
 simp[Array.getElem?_replicate]at q;split at q<;>cases q
end
section
variable {P:Program} {h0:Hp} {w0:World} {Q:Exit->Act->World->Prop} {ops:Array Oper} {K:RS->Prop}
theorem l0q{be:Nat->Nat}{oe:Nat->Value}{H:Hp}{rs:RS}{a:Act}{w:World}{o:Oper}{i:Nat}{e:RS->Prop}(f:Sim P h0 w0 be oe H rs.st rs.h a w)(r:E0c ops be oe rs a i)(m:ops[i]?=some o) {ch:List (Nat×Bool)} {c:Bool} (j:m02 rs.bs o.guard=some ch) (d:cB rs.bs ch=some c) (k:evG P o ch c rs λav=>f0f o.dst i ch av rs e) : ∃ v b,e b/\E0c ops be oe b (a.put o.dst v) (i+1)/\Sim P h0 w0 be oe H b.st b.h (a.put o.dst v) w/\Region.wanted o (yielded ops a.tmps)=c /\ (c=true->∀ g,CW H w g->o.quietAt P a (CW H w) g v)/\(c=false->v=undef):=by
 obtain⟨av,l,n⟩:=o0v f r d k;have p:=D0m r j d;cases c;·obtain⟨b,q,_,s,t⟩:=r07 (v:=undef) f r m d (λh=>by cases h) (λ_=>rfl) l;grind
 grind[r07]
theorem K0c{be:Nat->Nat}{oe:Nat->Value}{H:Hp}{rs:RS}{a:Act}{w:World}{i:Nat}{ch:List (Nat×Bool)}(c:Sim P h0 w0 be oe H rs.st rs.h a w)(r:E0c ops be oe rs a i)(d:cB rs.bs ch=some true): ∀ l,Sim P h0 w0 be oe H { rs.st with fr:=H0p rs ch l } rs.h a w
 | []=>c
 | .tmp t::l=>by
  have b:=K0c c r d l;have j:∀ f g,V8 { rs.st with fr:=f } be oe { rs.st with fr:=g } be oe:=λ_ _=>⟨Nat.le_refl _,λ_ _=>rfl,λi c h=>⟨c,h,Nat.le_refl _,λ_=>rfl⟩⟩;refine⟨b.mv,b.sub,λi cs ty p=>?_,b.pub,b.own,b.frz,b.bb,b.oo,b.bo,b.dfr,b.siz,λk=>?_⟩;·obtain⟨m,vs,n,o⟩:=b.box i cs ty p;exact⟨m,vs,n.grow (j _ _),o⟩
  show N2 _ be oe (K3 ((t,rdG rs ch (.tmp t))::H0p rs ch l) k) _;rw[l4];by_cases e:t=k;·subst e;rw[if_pos rfl];obtain⟨q,g,e⟩:=s0g c r d (.tmp t);rw[e];exact(c.rdA g).grow (j rs.st.fr _)
  rw[if_neg e];exact(b.fr k).grow (j _ _)
 | .const _::l=>K0c c r d l
 | .global _::l=>K0c c r d l
 | .func _::l=>K0c c r d l
theorem v06(q:∀ rs a w be oe H,K rs->Sim P h0 w0 be oe H rs.st rs.h a w->Q .normal a w):∀(l:List Oper) (i:Nat) (rs:RS) (a:Act) (w:World) (be:Nat->Nat) (oe:Nat->Value) (H:Hp), (∀ n,l[n]?=ops[i+n]?)->Sim P h0 w0 be oe H rs.st rs.h a w->E0c ops be oe rs a i->T0b P l i rs K->wpList P ops Q l a w
 | [],i,rs,a,w,be,oe,H,_,p,_,b=>q rs a w be oe H b p
 |o::l,i,rs,a,w,be,oe,H,J,p,r,b=>by
  have E:ops[i]?=some o:=by simpa using (J 0).symm
  have u:∀ n,l[n]?=ops[i+1+n]?:=λn=>by have:=J (n+1);grind
  have N:∀ ch c,m02 rs.bs o.guard=some ch->cB rs.bs ch=some c->(evG P o ch c rs λav=>f0f o.dst i ch av rs λrs=>T0b P l (i+1) rs K)->wpList P ops Q (o::l) a w:=by
   intro ch c s d b;obtain⟨v,k,f,L,j,y,R,x⟩:=l0q p r E s d b;unfold wpList;rw[y];cases c;·rw[if_neg oS,←x rfl];exact v06 q l (i+1) k _ w be oe H u j L f
   rw[if_pos rfl];refine .inl (Oper.wp_of_quiet (C:=CW H w) (K:=λD=>D=a.put o.dst v) (V2.refl p.mv.vis) (λD A m e=>?_) ⟨v,R rfl,rfl⟩);subst e;exact v06 q l (i+1) k _ A be oe H u (j.still (hf:=H) (λ_ _ h=>h) m) L f
  have M:∀ ch c,m02 rs.bs o.guard=some ch->cB rs.bs ch=some c->((c=true->J00 P o { rs.st with fr:=H0p rs ch o.op.operands.toList } rs.h λav st h=>f0f o.dst i ch av { rs with st:=st,h:=h } λrs=>T0b P l (i+1) rs K) /\
    (c=false->f0f o.dst i ch (.val (.bool false)) rs λrs=>T0b P l (i+1) rs K))->wpList P ops Q (o::l) a w:=by
   intro ch c s d b
   have y:=D0m r s d
   unfold wpList
   rw[y]
   cases c with
   |false =>
    rw[if_neg oS]
    obtain⟨k,f,_,j,z⟩:=r07 (v:=undef) p r E d (λh=>by cases h) (λ_=>rfl) (b.2 rfl)
    exact v06 q l (i+1) k _ w be oe H u z j f
   |true =>
    rw[if_pos rfl]
    refine .inl (Oper.wp_mono (λD A x=>?_) (r03 (Q:=Q) (K0c p r d o.op.operands.toList) (b.1 rfl)))
    obtain⟨av,st',h',v,be',oe',F,G,rfl,I,g,t⟩:=x
    obtain⟨k,f,_,j,z⟩:=r07 (rs := { rs with st:=st',h:=h' }) (ch:=ch) (c:=true) (v:=v) I (r.grow (⟨t.1,t.2,t.3⟩:V8 rs.st be oe st' be' oe')) E d (λ_=>g) (λh=>by cases h) G
    exact v06 q l (i+1) k _ A be' oe' F u z j f
  simp only[T0b]at b;split at b
  ·rename_i O S;have y:Region.wanted o (yielded ops a.tmps)=true:=by unfold Region.wanted;rw[O]
   unfold wpList;rw[if_pos y];refine .inl (Oper.wp_mono (λD A x=>?_) (r03 (Q:=Q) p b));obtain⟨av,st',h',v,be',oe',F,G,rfl,I,g,t⟩:=x;obtain⟨k,f,_,j,z⟩:=r07 (rs := { rs with st:=st',h:=h' }) (ch:=[]) (c:=true) (v:=v) I (r.grow t) E rfl (λ_=>g) (λh=>by cases h) G;exact v06 q l (i+1) k _ A be' oe' F u z j f
  split at b
  ·rename_i ch s;split at b
   ·rename_i c d;split at b;·exact N ch c s d b
    exact M ch c s d b
   exact b.elim
  exact b.elim
theorem M0m{be:Nat->Nat}{oe:Nat->Value}{H:Hp}{w:World}(g:∀ rs a w be oe H,K rs->Sim P h0 w0 be oe H rs.st rs.h a w->Q .normal a w):∀(l:List Oper) (i:Nat) (rs:RS) (a:Act), (∀ d,l[d]?=ops[i+d]?)->Sim P h0 w0 be oe H rs.st rs.h a w->E0c ops be oe rs a i->evQ P l i rs K->wpQuiet P ops (CW H w) (λk=>∀ e,CW H w e->Q .normal k e) l a
 | [],i,rs,a,_,f,_,b=>λe m=>g rs a e be oe H b (f.still (hf:=H) (λ_ _ h=>h) m)
 |o::l,i,rs,a,j,f,r,b=>by
  have s:ops[i]?=some o:=by simpa using (j 0).symm
  have q:∀ d,l[d]?=ops[i+1+d]?:=λd=>by have:=j (d+1);grind
  simp only[evQ]at b;split at b
  ·rename_i ch p;split at b
   ·rename_i c n;obtain⟨v,C,y,z,A,u,t,D⟩:=l0q f r s p n b;have x:=M0m g l (i+1) C _ q A z y;unfold wpQuiet;rw[u];cases c;·grind
    rw[if_pos rfl];exact⟨v,t rfl,x⟩
   exact b.elim
  exact b.elim
theorem E0c.init{be:Nat->Nat}{oe:Nat->Value}{st:St}{h:Hp}{a:Act}:E0c ops be oe ⟨st,h,[],[]⟩ a 0 :=
 ⟨(λx b=>nomatch b),(λx b=>nomatch b),(λd ch av c=>nomatch c)⟩
def q0s(P:Program)(h0:Hp)(w0:World)(Q:Ex->St->Hp->Prop):Exit->Act->World->Prop
 | .normal,a,w=>∃ st h be oe H,Q .normal st h/\Sim P h0 w0 be oe H st h a w
 | .exit i,a,w=>∃ st h be oe H,Q (.exit i) st h/\Sim P h0 w0 be oe H st h a w
 | .ret,a,w=>∃ st h be oe H,Q .ret st h/\Sim P h0 w0 be oe H st h a w
 |_,_,_=>False
variable {be:Nat->Nat} {oe:Nat->Value} {H:Hp} {st:St} {h:Hp} {a:Act} {w:World}
theorem C0o{Q:Ex->St->Hp->Prop}{id:Nat}{d:Bool}(b:Sim P h0 w0 be oe H st h a w)(c:ev P (.region id ops d) Q st h):(Code.region id ops d).wp P (q0s P h0 w0 Q) a w:=by
 cases d
 ·simp only[ev]at c;split at c;·exact wp_region_list ((e0q (h0:=h0) (w0:=w0) c.1 c.2 λa w st h be oe H e b=>⟨st,h,be,oe,H,e,b⟩).2 b)
  exact wp_region_list (v06 (K:=λrs=>Q .normal rs.st rs.h) (λrs a w be oe H e b=>⟨rs.st,rs.h,be,oe,H,e,b⟩) _ 0 ⟨st,h,[],[]⟩ a w be oe H (λi=>oS) b E0c.init c)
 rcases c with⟨⟨f,g⟩,c⟩|c|c|⟨⟨f,g⟩,c⟩|⟨m,⟨f,g⟩,c⟩;·refine wp_region_quiet (C:=CW H w) f g (V2.drawn b.mv.vis _ (by first|exact Nat.le_succ _|exact Nat.le_add_right _ _|exact Nat.le_refl _)) ?_;exact M0m (K:=λrs=>Q .normal rs.st rs.h) (λrs a w be oe H e b=>⟨rs.st,rs.h,be,oe,H,e,b⟩) _ 0 ⟨st,h,[],[]⟩ a (λi=>oS) b E0c.init c
 ·exact c.elim
 ·obtain⟨⟨f,g⟩,c⟩:=c;exact wp_region_any f (s0v (b.still (hf:=H) (λ_ _ h=>h) (V2.drawn b.mv.vis _ oG)) g c λa w st h be oe H e b=>⟨st,h,be,oe,H,e,b⟩)
 ·exact wp_region_any f ((e0q (h0:=h0) (w0:=w0) g c λa w st h be oe H e b=>⟨st,h,be,oe,H,e,b⟩).1 (b.still (hf:=H) (λ_ _ h=>h) (V2.drawn b.mv.vis _ (by first|exact Nat.le_succ _|exact Nat.le_add_right _ _|exact Nat.le_refl _))))
 exact wp_region_any f (r0v g c (λa w st h be oe H e b=>⟨st,h,be,oe,H,e,b⟩) (b.still (hf:=H) (λ_ _ h=>h) (V2.drawn b.mv.vis _ (by first|exact Nat.le_succ _|exact Nat.le_add_right _ _|exact Nat.le_refl _))))
end
theorem T07(x:Nat):∀ l:List Nat,u0e x l=true↔x∈l
 | []=>by simp[u0e]
 |y::r=>by
  simp only[u0e];cases h:Nat.beq x y;·simp[T07 x r,Nat.ne_of_beq_eq_false h]
  simp_all
theorem v0b{x:Nat}{l:List Nat}(h:u0e x l=false):x ∉ l:=λa=>by grind[T07]
theorem N0m:∀(l:List Nat) (K:List Nat->Prop),x0h l K=K l
 | [],K=>rfl
 |x::r,K=>by simp only[x0h,N0m r]
theorem v0g:∀(n:Nat) {K:List Value->Prop},d0g n K->∀ vs:List Value,vs.length=n->K vs
 |0,K,h,vs,a=>by rw[List.length_eq_zero_iff.1 a];exact h
 |n+1,K,h,[],a=>by cases a
 |n+1,K,h,v::vs,a=>v0g n (h v) vs (by simpa using a)
theorem w0g:∀(n:Nat) {K:List (LV)->Prop},e0g n K->∀ os:List (LV),os.length=n->K os
 |0,K,h,vs,a=>by rw[List.length_eq_zero_iff.1 a];exact h
 |n+1,K,h,[],a=>by cases a
 |n+1,K,h,v::vs,a=>w0g n (h v) vs (by simpa using a)
theorem m0f{c:Type}:∀(a b:List c) (K:List c->List c->Prop),x0c a.length (a++b) K=K a b
 | [],b,K=>rfl
 |x::a,b,K=>by simp only[List.length_cons,List.cons_append,x0c,m0f a b]
theorem I0h(e:St):∀(l:List Nat) {K:List Value->Prop},F0y l e K->∃ vs,vs.length=l.length/\K vs /\ ∀ acc t,(K3 (y0h l vs acc) t=K3 acc t/\t ∉ l)∨(∃ v,K3 (y0h l vs acc) t = .val v/\rdA e (K3 e.fr t) = .val v)
 | [],K,h=>⟨[],rfl,h,λacc t => .inl ⟨rfl,oS⟩⟩
 |b::r,K,h=>by
  simp only[F0y]at h;split at h
  ·rename_i v i;obtain⟨vs,c,d,f⟩:=I0h e r h;refine⟨v::vs,by simp[c],d,λacc t=>?_⟩;rcases f ((b,.val v)::acc) t with⟨a,g⟩|a
   ·by_cases e':b=t;·simp_all[y0h,l4,if_true]
    simp_all[y0h,l4,if_neg,Ne.symm]
   exact .inr a
  exact h.elim
def e09(B:Nat->Nat->Prop):List j7->Prop
 | []=>True
 | .val _::r=>e09 B r
 | .own i k::r=>B i k/\e09 B r
def ShC(e:St):List j7->List j7->Prop
 | [],[]=>True
 | .val _::r,.val _::c=>ShC e r c
 | .own i _::r,.own a d::c=>i=a/\(∃ b,rdA e (.own a d) = .own a b)/\ShC e r c
 |_,_=>False
def EqC(e:St):List j7->List j7->Prop
 | [],[]=>True
 | .val v::r,.val f::c=>v=f/\EqC e r c
 | .own i _::r,.own a d::c=>i=a/\(∃ b,rdA e (.own a d) = .own a b)/\EqC e r c
 |_,_=>False
theorem EqC.sh{e:St}:∀ {cs cs':List j7},EqC e cs cs'->ShC e cs cs'
 | [],[],_=>trivial
 | .val _::r,.val _::a,h=>EqC.sh (cs:=r) (cs':=a) h.2
 | .own i _::r,.own b c::a,h=>⟨h.1,h.2.1,EqC.sh (cs:=r) (cs':=a) h.2.2⟩
 | [],_::_,h=>h.elim
 | .val _::_,[],h=>h.elim
 | .own _ _::_,[],h=>h.elim
 | .val _::_,.own _ _::_,h=>h.elim
 | .own _ _::_,.val _::_,h=>h.elim
theorem x0g{e:St}{i k a b:Nat}(h:rdA e (.own i k) = .own a b):a=i/\b=k:=by grind[rdA]
theorem w0b{g e:St}:∀(cs cs':List j7),y0a g e cs cs'=true->ShC e cs cs'
 | [],[],_=>trivial
 | .val _::r,.val _::c,h=>w0b r c h
 | .own i _::r,.own j k::c,h=>by
  simp only[y0a]at h;split at h;·rename_i a b f d;obtain⟨rfl,_⟩:=x0g d;exact⟨Nat.eq_of_beq_eq_true f,⟨_,d⟩,w0b r c h⟩
  cases h
 | [],_::_,h=>by cases h
 | .val _::_,[],h=>by cases h
 | .own _ _::_,[],h=>by cases h
 | .val _::_,.own _ _::_,h=>by cases h
 | .own _ _::_,.val _::_,h=>by cases h
theorem J0h(e:St):∀(cs cs':List j7),ShC e cs cs'->∀ {K:List Value->Prop},O0p cs' e K->∃ vs,K vs/\∃ a,(∀(f:List Value) (c:List j7->List Value->Prop),H07 cs (vs++f) c=c a f)/\EqC e a cs' /\ (∀ B,e09 B cs->e09 B a)
 | [],[],_,K,h=>⟨[],h,[],λ_ _=>rfl,trivial,λ_ h=>h⟩
 | .val _::r,.val v::m,b,K,h=>by obtain⟨vs,g,a,n,j,l⟩:=J0h e r m b (K:=λvs=>K (v::vs)) h;exact⟨v::vs,g,.val v::a,λf c=>by grind[H07],⟨rfl,j⟩,λB d=>l B d⟩
 | .own i k::r,.own o p::m,b,K,h=>by obtain⟨vs,g,a,n,j,l⟩:=J0h e r m b.2.2 (K:=K) h;exact⟨vs,g,.own i k::a,λf c=>by simp only[H07,n],⟨b.1,b.2.1,j⟩,λB d=>⟨d.1,l B d.2⟩⟩
 | [],_::_,h,_,_=>h.elim
 | .val _::_,[],h,_,_=>h.elim
 | .own _ _::_,[],h,_,_=>h.elim
 | .val _::_,.own _ _::_,h,_,_=>h.elim
 | .own _ _::_,.val _::_,h,_,_=>h.elim
theorem K0h(e:St):∀(cs:List j7) {K:List Value->Prop},O0p cs e K->∃ vs,K vs/\∀(b:List Value) (a:List j7->List Value->Prop),H07 cs (vs++b) a=a cs b
 | [],K,h=>⟨[],h,λ_ _=>rfl⟩
 | .val v::r,K,h=>by obtain⟨vs,c,d⟩:=K0h e r (K:=λvs=>K (v::vs)) h;grind[H07]
 | .own i k::r,K,h=>by obtain⟨vs,c,d⟩:=K0h e r (K:=K) h;grind[H07]
theorem O0m{a:Type}(l:List a)(i:Nat)(x:a)(h:nth l i=some x):p03 l i x=l:=by grind[T08,List.getElem?_eq_some_iff,i0g,List.set_getElem_self]
theorem M0t(e:St):∀(is:List Nat) {K:List Value->Prop},X0j is e K->∃ ws,K ws/\∀ a,v0a is ws e.bx a=a e.bx
 | [],K,h=>⟨[],h,λ_=>rfl⟩
 |i::r,K,h=>by
  simp only[X0j]at h;split at h;·rename_i cs ty g;obtain⟨vs,b,c⟩:=K0h e cs h;obtain⟨ws,d,f⟩:=M0t e r b;grind[v0a,O0m]
  exact h.elim
theorem N0t(e:St):∀(is:List Nat) {K:List (LV)->Prop},y0m is e K->∃ os,os.length=is.length/\K os/\∀ a,w0a is os e.ow a=a e.ow
 | [],K,h=>⟨[],rfl,h,λ_=>rfl⟩
 |i::r,K,h=>by
  simp only[y0m]at h;split at h;·rename_i g ty sz by_ nn xs f;obtain⟨ws,b,c,d⟩:=N0t e r h;grind[w0a,O0m]
  exact h.elim
theorem O0t(e:St):∀(is:List Nat) (bx:List BSt),(∀ i∈is,∃ cs ty cs',nth bx i=some (.live cs ty)/\nth e.bx i=some (.live cs' ty)/\ShC e cs cs')->∀ {K:List Value->Prop},X0j is e K ->
  ∃ ws,K ws/\∃ c,(∀ f,v0a is ws bx f=f c)/\c.length=bx.length/\(∀ i,i ∉ is->nth c i=nth bx i) /\
   (∀ i∈is,∃ d ty cs',nth c i=some (.live d ty)/\nth e.bx i=some (.live cs' ty)/\EqC e d cs') /\
   (∀ B,(∀ i cs ty,nth bx i=some (.live cs ty)->e09 B cs)->(∀ i cs ty,nth c i=some (.live cs ty)->e09 B cs))
 | [],bx,_,K,h=>⟨[],h,bx,λ_=>rfl,rfl,λ_ _=>rfl,oS,λ_ h=>h⟩
 |i::r,bx,s,K,h=>by
  obtain⟨cs,ty,cs',p,g,q⟩:=s i mS
  simp only[X0j,g]at h
  obtain⟨vs,u,d,C,m,D⟩:=J0h e cs cs' q h
  have j:=W04 p
  have t:∀ a∈r,∃ k o l,nth (p03 bx i (.live d ty)) a=some (.live k o)/\nth e.bx a=some (.live l o)/\ShC e k l:=λa b=>by
   rw[E9 _ _ _ j]
   by_cases ej:a=i
   ·subst ej
    rw[if_pos rfl]
    exact⟨d,ty,cs',rfl,g,m.sh⟩
   grind
  obtain⟨ws,v,c,E,w,n,x,y⟩:=O0t e r _ t u
  refine⟨vs++ws,v,c,λf=>by grind[v0a],by rw[w,B09],λa b=>?_,λa b=>?_,λB A=>y B λa z F b=>?_⟩
  ·simp only[List.mem_cons,not_or]at b
   rw[n a b.2,E9 _ _ _ j,if_neg b.1]
  ·by_cases hr:a∈r
   ·exact x a hr
   ·rcases List.mem_cons.1 b with rfl|b
    ·refine⟨d,ty,cs',?_,g,m⟩
     rw[n a hr,E9 _ _ _ j,if_pos rfl]
    ·exact absurd b hr
  grind[E9]
theorem P0t(j:St):∀(is:List Nat) (ow:List Own),(∀ i∈is,∃ g e sz by_ nn k d b xs,nth ow i=some ⟨g,.live e sz by_ nn k⟩/\nth j.ow i=some ⟨d,.live e sz by_ b xs⟩/\(nn=true->b=true)) ->
  ∀ {K:List (LV)->Prop},y0m is j K->∃ os,os.length=is.length/\K os/\∃ f,(∀ l,w0a is os ow l=l f)/\(∀ i,i ∉ is->nth f i=nth ow i) /\
   (∀ i∈is,∃ g e sz by_ nn d b xs,nth f i=some ⟨g,.live e sz by_ nn xs⟩/\nth j.ow i=some ⟨d,.live e sz by_ b xs⟩/\(nn=true->b=true)) /\
   (∀ i,(nth f i).map (·.stamp)=(nth ow i).map (·.stamp))
 | [],ow,_,K,h=>⟨[],rfl,h,ow,λ_=>rfl,λ_ _=>rfl,oS,λ_=>rfl⟩
 |i::r,ow,w,K,h=>by
  obtain⟨g,e,sz,by_,nn,k,d,b,xs,p,q,v⟩:=w i mS
  simp only[y0m,q]at h
  have m:=W04 p
  have x:∀ a∈r,∃ D o u n t k d b E,nth (p03 ow i ⟨g,.live e sz by_ nn xs⟩) a=some ⟨D,.live o u n t k⟩/\nth j.ow a=some ⟨d,.live o u n b E⟩/\(t=true->b=true):=λa c=>by
   rw[E9 _ _ _ m]
   grind
  obtain⟨os,y,z,f,A,s,C,F⟩:=P0t j r _ x h
  refine⟨xs::os,by simp[y],z,f,λl=>by simp only[w0a,p,A],λa c=>?_,λa c=>?_,λa=>?_⟩
  ·simp only[List.mem_cons,not_or]at c
   rw[s a c.2,E9 _ _ _ m,if_neg c.1]
  ·by_cases hr:a∈r
   ·exact C a hr
   ·rcases List.mem_cons.1 c with rfl|c
    ·refine⟨g,e,sz,by_,nn,d,b,xs,?_,q,v⟩
     rw[s a hr,E9 _ _ _ m,if_pos rfl]
    ·exact absurd c hr
  grind[E9]
theorem L0c{A:Ann}{m e:St}:∀(i:Nat) (bx c:List BSt),z0h A m e i bx c->∀ k b,nth bx k=some b -> (i+k∈A.boxes/\∃ cs ty cs',b = .live cs ty/\nth c k=some (.live cs' ty)/\ShC e cs cs')∨(i+k ∉ A.boxes/\nth c k=some b/\l0s A.owns b=true)
 |i,[],_,_,k,b,a=>by cases k<;>cases a
 |i,x::r,[],h,_,_,_=>by cases h
 |i,x::r,y::f,h,k,b,a=>by
  simp only[z0h]at h;split at h
  ·rename_i d;split at h
   ·rename_i cs ty cs' n;split at h
    ·rename_i g j;have:=Nat.eq_of_beq_eq_true g;subst this;cases k with
     |zero=>cases a;exact .inl ⟨(T07 _ _).1 d,cs,ty,cs',rfl,rfl,w0b _ _ j⟩
     |succ k=>have:=L0c (i+1) r f h k b a;rwa [show i+1+k=i+(k+1) from oM]at this
    exact h.elim
   exact h.elim
  rename_i d;split at h
  ·rename_i l;obtain⟨rfl,h⟩:=h;cases k with
   |zero=>cases a;exact .inr ⟨v0b d,rfl,l⟩
   |succ k=>have:=L0c (i+1) r f h k b a;rwa [show i+1+k=i+(k+1) from oM]at this
  exact h.elim
theorem M0c{A:Ann}:∀(i:Nat) (ow f:List Own),A0h A i ow f->∀ k b,nth ow k=some b -> (i+k∈A.owns/\∃ g e sz by_ nn n j d xs,b=⟨g,.live e sz by_ nn n⟩/\nth f k=some ⟨j,.live e sz by_ d xs⟩/\(nn=true->d=true)/\(i+k∈A.kept->g=j))∨(i+k ∉ A.owns/\nth f k=some b)
 |i,[],_,_,k,b,a=>by cases k<;>cases a
 |i,x::r,[],h,_,_,_=>by cases h
 |i,x::r,y::m,h,k,b,a=>by
  simp only[A0h]at h;split at h
  ·rename_i c;split at h
   ·rename_i g e sz by_ nn n j u v t d xs;split at h
    ·rename_i o p q s l;have:=Nat.eq_of_beq_eq_true o;subst this;have:=Nat.eq_of_beq_eq_true p;subst this;have:=Nat.eq_of_beq_eq_true q;subst this;cases k with
     |zero=>cases a;exact .inl ⟨(T07 _ _).1 c,_,_,_,_,_,_,_,_,_,rfl,rfl,(λh=>by subst h;exact s),λh=>by rw[show u0e i A.kept=true from(T07 _ _).2 h]at l;exact Nat.eq_of_beq_eq_true l⟩
     |succ k=>have:=M0c (i+1) r m h k b a;rwa [show i+1+k=i+(k+1) from oM]at this
    exact h.elim
   exact h.elim
  rename_i c;obtain⟨rfl,h⟩:=h;cases k with
  |zero=>cases a;exact .inr ⟨v0b c,rfl⟩
  |succ k=>have:=M0c (i+1) r m h k b a;rwa [show i+1+k=i+(k+1) from oM]at this
def y0g(A:Ann)(st:St):AV->Prop
 | .val _ | .hel _ _ _ _ | .dead=>True
 | .agg cs=>E0t cs=true
 | .box i _=>i<st.bx.length
 | .own i k=>(i ∉ A.owns∨i∈A.kept)/\stamp st i=some k
 | .oel _ _ _ _ _=>False
theorem Q0t{st:St}{av:AV}{i off:Nat}(h:rdA st av = .box i off):i<st.bx.length:=by
 cases av with
 |box j o =>simp only[rdA]at h;split at h;all_goals simp_all[W04]
 |own j k =>grind[rdA]
 |oel j s idx sz k =>grind[rdA]
 |_=>cases h
theorem L0h{st:St}{av:AV}{i k:Nat}(h:rdA st av = .own i k):stamp st i=some k:=by grind[k0b,stamp]
theorem n0f(A:Ann)(ds:List Nat)(st:St):∀(l:List (Nat×AV)) {K:List (Nat×AV)->Prop},x0a A ds st l K->∃ a,K a/\∀ t,t ∉ ds -> K3 a t = .dead∨(K3 a t=rdA st (K3 l t)/\y0g A st (K3 a t))
 | [],K,h=>⟨[],h,λt _ => .inl rfl⟩
 |(j,av)::r,K,h=>by
  have put:∀ f,(f = .dead∨(f=rdA st av/\y0g A st f))->(x0a A (j::ds) st r λl=>K ((j,f)::l))->∃ a,K a/\∀ t,t ∉ ds ->
    K3 a t = .dead∨(K3 a t=rdA st (K3 ((j,av)::r) t)/\y0g A st (K3 a t)):=by
   intro f q h
   obtain⟨a,c,d⟩:=n0f A (j::ds) st r h
   refine⟨_,c,λt m=>?_⟩
   rw[l4,l4]
   by_cases e:j=t
   ·rw[if_pos e,if_pos e];exact q
   ·rw[if_neg e,if_neg e];exact d t λg=>by
     rcases List.mem_cons.1 g with k|k
     ·exact e k.symm
     ·exact m k
  simp only[x0a]at h;split at h;·rename_i g;obtain⟨a,c,d⟩:=n0f A ds st r h;refine⟨a,c,λt m=>?_⟩;rw[l4,if_neg (λe=>m (by rw[←e];exact(T07 _ _).1 g))];exact d t m
  split at h
  ·rename_i i k b;split at h;·exact put _ (.inl rfl) h
   rename_i g;refine put _ (.inr ⟨b.symm,?_,L0h b⟩) h;cases c:u0e i A.owns;·exact .inl (v0b c)
   cases d:u0e i A.kept;·exact absurd d (g c)
   exact .inr ((T07 _ _).1 d)
  ·exact put _ (.inl rfl) h
  ·rename_i cs b;split at h;·rename_i s;exact put _ (.inr ⟨b.symm,s⟩) h
   exact put _ (.inl rfl) h
  rename_i c d p;refine put _ (.inr ⟨rfl,?_⟩) h;cases b:rdA st av with
  |own i k=>exact absurd b (c i k)
  |oel i n idx sz k=>exact absurd b (d i n idx sz k)
  |agg cs=>exact absurd b (p cs)
  |box i o=>exact Q0t b
  |val v=>trivial
  |hel n idx sz k=>trivial
  |dead=>trivial
def m0q(st:St)(t:Nat)(av:AV):Prop :=
 av = .dead∨(∃ i k,av = .own i k/\stamp st i=some k/\rdA st (K3 st.fr t) = .own i k)∨(∃ i o,av = .box i o/\i<st.bx.length/\rdA st (K3 st.fr t) = .box i o)
theorem o0f(A:Ann)(st:St):∀(l:List Nat) (acc:List (Nat×AV)) {K:List (Nat×AV)->Prop},J0e A st l acc K->(∀ p∈acc,m0q st p.1 p.2) -> ∃ a,K a/\(∀ p∈a,p.1∈l∨p∈acc)/\(∀ p∈a,m0q st p.1 p.2)/\(∀ t∈l,t ∉ A.vars->∃ av,(t,av)∈a)/\(∀ p∈acc,p∈a)
 | [],acc,K,h,f=>⟨acc,h,λp c => .inr c,f,oS,λ_ h=>h⟩
 |d::r,acc,K,h,f=>by
  have put:∀ e,m0q st d e->J0e A st r ((d,e)::acc) K->∃ a,K a/\(∀ p∈a,p.1∈d::r∨p∈acc)/\(∀ p∈a,m0q st p.1 p.2)/\(∀ t∈d::r,t ∉ A.vars->∃ av,(t,av)∈a)/\(∀ p∈acc,p∈a):=by intro e s h;obtain⟨a,g,j,m,q,n⟩:=o0f A st r _ h (λp c=>by grind);grind
  simp only[J0e]at h;split at h;·rename_i u;obtain⟨a,g,j,m,q,n⟩:=o0f A st r _ h f;refine⟨a,g,λp c=>(j p c).imp (mC _) id,m,λt v w=>?_,n⟩;grind[absurd,T07]
  split at h;·rename_i i k b;exact put _ (.inr (.inl ⟨i,k,rfl,L0h b,b⟩)) h
  ·rename_i i o b;exact put _ (.inr (.inr ⟨i,o,rfl,Q0t b,b⟩)) h
  exact put _ (.inl rfl) h
theorem o0k:∀(b a:List (Nat×AV)) (t:Nat),(∃ av,(t,av)∈b/\K3 (b++a) t=av)∨((∀ av,(t,av) ∉ b)/\K3 (b++a) t=K3 a t)
 | [],a,t => .inr ⟨oS,rfl⟩
 |(f,av)::r,a,t=>by
  simp only[List.cons_append];rw[l4];by_cases e:f=t;·grind
  rw[if_neg e];rcases o0k r a t with⟨g,c,d⟩|⟨c,d⟩;all_goals grind
theorem p0k{c e:St}:∀(b:List (Nat×AV)),z0i c e b=true->∀ t av,(t,av)∈b->(∀ i k,av = .own i k->∃ a,rdA e (K3 e.fr t) = .own i a)/\(∀ i o,av = .box i o->rdA e (K3 e.fr t) = .box i o)
 | [],_,t,av,h=>by cases h
 |(f,x)::r,g,t,av,h=>by
  have d:z0i c e r=true/\(∀ i k,x = .own i k->∃ a,rdA e (K3 e.fr f) = .own i a)/\(∀ i o,x = .box i o->rdA e (K3 e.fr f) = .box i o):=by simp only[z0i]at g;grind[Nat.eq_of_beq_eq_true,absurd]
  rcases List.mem_cons.1 h with h|h;·cases h;exact d.2
  exact p0k r d.1 t av h
theorem p0f{fr:List (Nat×AV)}:∀(a:List (Nat×AV)),z0m fr a=i0v a->∀ t,K3 a t = .dead∨K3 fr t=K3 a t
 | [],_,t => .inl rfl
 |(b,av)::r,h,t=>by
  rw[l4];simp only[z0m,i0v]at h;cases hd:k0s av
  ·rw[hd]at h;simp only[List.cons.injEq]at h;by_cases e:b=t;·grind
   rw[if_neg e];exact p0f r h.2 t
  rw[hd]at h;by_cases e:b=t;·rw[if_pos e];left;cases av<;>first|rfl|cases hd
  rw[if_neg e];exact p0f r h t
theorem M0h{e l:St}{be:Nat->Nat}{oe:Nat->Value}:∀ {d cs':List j7} {vs:List Value},EqC e d cs'->e09 (λj k=>∃ c,stamp l j=some c/\k<=c) d->J2 e oe cs' vs->J2 l oe d vs
 | [],[],[],_,_,_=>trivial
 | .val v::r,.val q::o,x::vs,h,a,g=>⟨by rw[show x=q from g.1,h.1];rfl,M0h (be:=be) h.2 a g.2⟩
 | .own i k::r,.own j s::o,x::vs,h,a,g=>by obtain⟨n,⟨b,f⟩,h⟩:=h;subst n;obtain⟨⟨c,s1,s2⟩,a⟩:=a;refine⟨⟨c,s1,s2,λ_=>?_⟩,M0h (be:=be) h a g.2⟩;obtain⟨_,m⟩:=x0g f;subst m;obtain⟨t,p,u,w⟩:=g.1;rw[L0h f]at p;grind
 | [],_::_,_,h,_,_=>h.elim
 | .val _::_,[],_,h,_,_=>h.elim
 | .own _ _::_,[],_,h,_,_=>h.elim
 | .val _::_,.own _ _::_,_,h,_,_=>h.elim
 | .own _ _::_,.val _::_,_,h,_,_=>h.elim
 |_,_::_,[],_,_,g=>g.elim
 |_,[],_::_,_,_,g=>g.elim
theorem x0b{os:List Nat}{e d:St}{oe:Nat->Value}(f:∀ c,c ∉ os->∀ a,stamp d c=some a->stamp e c=some a):∀ {cs:List j7} {vs:List Value},c0g os cs=true -> e09 (λc k=>∃ a,stamp d c=some a/\k<=a) cs->J2 e oe cs vs->J2 d oe cs vs
 | [],[],_,_,_=>trivial
 | .val v::r,x::vs,h,b,g=>⟨g.1,x0b f h b g.2⟩
 | .own i k::r,x::vs,h,b,g=>by
  simp only[c0g]at h;split at h;·cases h
  rename_i l;obtain⟨⟨a,s1,s2⟩,b⟩:=b;refine⟨⟨a,s1,s2,λj=>?_⟩,x0b f h b g.2⟩;obtain⟨m,n,o,p⟩:=g.1;grind[v0b]
 | [],_::_,_,_,g=>g.elim
 |_::_,[],_,_,g=>g.elim
section
variable {P:Program} {h0:Hp} {w0:World} {be:Nat->Nat} {oe:Nat->Value} {H:Hp} {h:Hp} {a:Act} {w:World}
theorem P0w{A:Ann}{e l:St}(c:Sim P h0 w0 be oe H e h a w)(O:e.n=l.n) (J:∀ i b,nth l.bx i=some b->(∃ D ty cs',b = .live D ty/\nth e.bx i=some (.live cs' ty)/\EqC e D cs')∨(nth e.bx i=some b/\l0s A.owns b=true)) (Q:∀ i o,nth l.ow i=some o->(∃ c t sz by_ nn C q xs,o=⟨c,.live t sz by_ nn xs⟩/\nth e.ow i=some ⟨C,.live t sz by_ q xs⟩/\(nn=true->q=true))/\i∈A.owns∨(nth e.ow i=some o/\i ∉ A.owns)) (I:∀ i cs ty,nth l.bx i=some (.live cs ty)->e09 (λj k=>∃ c,stamp l j=some c/\k<=c) cs) (hf:∀ t,N2 l be oe (K3 l.fr t) (a.tmps.getD t undef)):Sim P h0 w0 be oe H l h a w:=by
 have R:∀ j,j ∉ A.owns->∀ c,stamp l j=some c->stamp e j=some c:=λj s m aa=>by grind[stamp,nth,absurd]
 have F:∀ i cs ty,nth l.bx i=some (.live cs ty)->∃ cs',nth e.bx i=some (.live cs' ty):=λi cs ty f=>by grind
 have E:∀ i m t sz by_ nn xs,nth l.ow i=some ⟨m,.live t sz by_ nn xs⟩->∃ C q,nth e.ow i=some ⟨C,.live t sz by_ q xs⟩/\(nn=true->q=true):=λi m t sz by_ nn xs f=>by grind
 refine⟨c.mv,c.sub,λi cs ty f=>?_,λi b f=>?_,λi m t sz by_ nn xs f=>?_,λi m v f=>?_,λi j cs ty cs' V f s=>?_,λi j m t sz by_ nn xs s1 U T M S X g f s=>?_,λi cs ty j m t sz by_ nn xs f s=>?_,c.dfr,by rw[c.siz,O],hf⟩
 ·rcases J i _ f with⟨D,W,cs',x,d,p⟩|⟨d,p⟩;·cases x;obtain⟨y,vs,z,G⟩:=c.box i cs' ty d;exact⟨y,vs,M0h (be:=be) p (I i _ _ f) z,G⟩
  obtain⟨y,vs,z,G⟩:=c.box i cs ty d;exact⟨y,vs,x0b R p (I i _ _ f) z,G⟩
 ·rcases J i _ f with⟨D,W,cs',x,d,p⟩|⟨d,p⟩;·cases x
  exact c.pub i b d
 ·obtain⟨C,q,d,p⟩:=E i _ _ _ _ _ _ f;obtain⟨y,z⟩:=c.own i _ _ _ _ _ _ d;refine⟨y,z.imp (λ⟨K,L,Y⟩=>⟨K,L,?_⟩) id⟩;grind
 ·rcases Q i _ f with⟨⟨s1,U,T,M,S,C,q,X,x,d,p⟩,_⟩|⟨d,_⟩;·cases x
  exact c.frz i m v d
 ·obtain⟨N,u⟩:=F i cs ty f;obtain⟨Z,d⟩:=F j cs' V s;exact c.bb i j _ _ _ _ u d
 ·obtain⟨_,_,u,_⟩:=E i _ _ _ _ _ _ f;obtain⟨_,_,d,_⟩:=E j _ _ _ _ _ _ s;exact c.oo i j _ _ _ _ _ _ _ _ _ _ _ _ g u d
 obtain⟨N,u⟩:=F i cs ty f;obtain⟨_,_,d,_⟩:=E j _ _ _ _ _ _ s;exact c.bo i _ _ j _ _ _ _ _ _ u d
end
section
variable {P:Program} {h0:Hp} {w0:World} {be:Nat->Nat} {oe:Nat->Value} {H:Hp} {st:St} {h:Hp} {a:Act} {w:World}
theorem Q0w(b:Sim P h0 w0 be oe H st h a w):∀ i cs ty,nth st.bx i=some (.live cs ty)->e09 (λd k=>∃ b,stamp st d=some b/\k<=b) cs:=by
 intro i cs ty l;obtain⟨_,vs,g,_⟩:=b.box i cs ty l;have:∀(cs:List j7) (vs:List Value),J2 st oe cs vs->e09 (λd k=>∃ b,stamp st d=some b/\k<=b) cs:=by
  intro cs;induction cs with
  |nil=>intro vs _;trivial
  |cons c r e =>
   intro vs g;cases vs with
   |nil=>exact g.elim
   |cons v vs =>
    cases c with
    |val x=>exact e vs g.2
    |own d k =>obtain⟨m,f,j,_⟩:=g.1;exact⟨⟨m,f,j⟩,e vs g.2⟩
 exact this cs vs g
theorem n0q(p:Nat->Prop)(h:∃ n,p n):∃ n,p n/\∀ m,p m->n<=m:=by
 obtain⟨n,a⟩:=h;induction n using Nat.strongRecOn with
 |_ n b =>grind
theorem R0t:∀(a b:List Value),G0y a b=true->a.length=b.length
 | [],[],_=>rfl
 |_::r,_::c,h=>by simp[R0t r c h]
 | [],_::_,h=>by cases h
 |_::_,[],h=>by cases h
theorem v0A{A:Ann}{ds:List Nat}{st e l:St}{f j:List (Nat×AV)}{u:List Value}{av1:∀ t,(K3 (y0h A.vars u (f++j)) t=K3 (f++j) t/\t ∉ A.vars)∨(∃ v,K3 (y0h A.vars u (f++j)) t = .val v/\rdA e (K3 e.fr t) = .val v)} (J:Sim P h0 w0 be oe H e h a w) (O:l.fr=y0h A.vars u (f++j)) (C:l.bx.length=st.bx.length) (D:∀ i,stamp l i=stamp st i) (ad:∀ i k,(i ∉ A.owns∨i∈A.kept)->stamp st i=some k->stamp e i=stamp l i) (aa:∀ p∈f,p.1∈ds) (K:∀ p∈f,m0q st p.1 p.2) (ab:∀ t∈ds,t ∉ A.vars->∃ av,(t,av)∈f) (s1:∀ t,t ∉ ds->y0g A st (K3 j t)) (S:∀ t av,(t,av)∈f->(∀ i k,av = .own i k->∃ F,rdA e (K3 e.fr t) = .own i F)/\(∀ i o,av = .box i o->rdA e (K3 e.fr t) = .box i o)) (T:∀ t,K3 j t = .dead∨K3 e.fr t=K3 j t):∀ t,N2 l be oe (K3 l.fr t) (a.tmps.getD t undef):=by
 intro t;rw[O];have b:=J.fr t;have m:=J.rdA b;rcases av1 t with⟨n,af⟩|⟨v,n,L⟩
 ·rw[n];rcases o0k f j t with⟨av,q,s⟩|⟨q,s⟩
  ·rw[s];obtain⟨W,X⟩:=S t av q;rcases K _ q with rfl|⟨i,k,rfl,d,_⟩|⟨i,o,rfl,M,_⟩;·trivial
   ·obtain⟨F,z⟩:=W i k rfl;rw[z]at m;refine⟨k,by rw[D,d],Nat.le_refl _,λ_=>?_⟩;obtain⟨y,ak,Z,ai,al,Q⟩:=k0b z;exact m.own_cur Q
   rw[X i o rfl]at m;exact⟨by rw[C];exact M,m.2⟩
  rw[s];have U:t ∉ ds:=λac=>by grind
  rcases T t with N|y;·rw[N];trivial
  have d:=s1 t U;rw[y]at b;cases hl:K3 j t with
  |val v=>rw[hl]at b;exact b
  |hel Y idx sz k=>rw[hl]at b;exact b
  |dead=>trivial
  |agg cs =>
   rw[hl]at b d;obtain⟨vs,G,I⟩:=b;refine⟨vs,G,?_⟩;have:∀(cs:List j7) (vs:List Value),E0t cs=true->J2 e oe cs vs->J2 l oe cs vs:=by
    intro cs;induction cs with
    |nil=>intro vs _ g;cases vs<;>exact g
    |cons c r V =>
     intro vs E g;cases vs with
     |nil=>exact g.elim
     |cons v vs =>
      cases c with
      |val x=>exact⟨g.1,V vs E g.2⟩
      |own ag k=>cases E
   exact this cs vs d I
  |box i o =>rw[hl]at b d;exact⟨by rw[C];exact d,b.2⟩
  |own i k =>rw[hl]at b d;obtain⟨ae,R⟩:=d;obtain⟨aj,G,I,ah⟩:=b;refine⟨k,by rw[D,R],Nat.le_refl _,λ_=>?_⟩;grind
  |oel i Y idx sz k=>rw[hl]at d;exact d.elim
 rw[n];rw[L]at m;exact m
theorem G0i:∀(l:List (Nat×Nat×Nat×Nat)) (st:St) (oe:Nat->Value) {K:St->Prop},Sim P h0 w0 be oe H st h a w->M0p l st K->∃ st' oe',K st'/\Sim P h0 w0 be oe' H st' h a w
 | [],st,oe,K,d,c=>⟨st,oe,c,d⟩
 |(t,e,sz,by_)::r,⟨n,fr,bx,ow⟩,oe,K,d,c=>by
  simp only[M0p]at c;split at c
  ·rename_i j p;rw[Y0f]at c;have f:=d.rdA (d.fr t);have k:a.tmps.getD t undef = .slice none 0 0:=by have:rdA ⟨n,fr,bx,ow⟩ (K3 fr t) = .val (.slice none 0 0):=j;rw[show rdA ⟨n,fr,bx,ow⟩ (K3 (St.mk n fr bx ow).fr t) = .val (.slice none 0 0) from this]at f;exact f
   have g:z0a h H (.slice none 0 0) e sz false []:=⟨oS,.inl ⟨rfl,rfl,rfl⟩⟩;obtain⟨s1,m⟩:=d.newOwn (by_:=by_) (λb o i=>i) (V2.refl d.mv.vis) g (by simp[Value.ownBlock]);refine G0i r _ _ (s1.refr (fr:=(t,.own ow.length 0)::fr) λu=>?_) c;rw[l4];by_cases eu:t=u;·subst eu;rw[if_pos rfl,k];exact⟨0,by simp[stamp,Q05],Nat.le_refl _,λ_=>oS⟩
   rw[if_neg eu];exact s1.fr u
  exact c.elim
theorem z0g:∀(l:List (Nat×Nat×Nat×Nat×Nat)) (st:St) (oe:Nat->Value) {K:St->Prop},Sim P h0 w0 be oe H st h a w->W0j l st K->∃ st' oe',K st'/\Sim P h0 w0 be oe' H st' h a w
 | [],st,oe,K,j,g=>⟨st,oe,g,j⟩
 |(i,k,e,sz,by_)::r,⟨n,fr,bx,ow⟩,oe,K,j,g=>by
  simp only[W0j]at g;split at g;rotate_left;·exact g.elim
  rename_i cs ty C;split at g;rotate_left;·exact g.elim
  rename_i O;rw[Y0f]at g;have L:z0a h H (.slice none 0 0) e sz false []:=⟨oS,.inl ⟨rfl,rfl,rfl⟩⟩;obtain⟨s1,X⟩:=j.newOwn (by_:=by_) (λb o M=>M) (V2.refl j.mv.vis) L (by simp[Value.ownBlock]);have A:=W04 C;refine z0g r _ (λd=>if d=ow.length then .slice none 0 0 else oe d) ?_ g;have q:V8 ⟨n,fr,bx,ow ++ [⟨0,.live e sz by_ false []⟩]⟩ be (λd=>if d=ow.length then .slice none 0 0 else oe d) ⟨n,fr,p03 bx i (.live (p03 cs k (.own ow.length 0)) ty),ow ++ [⟨0,.live e sz by_ false []⟩]⟩ be (λd=>if d=ow.length then .slice none 0 0 else oe d) :=
   ⟨by simp[B09],λ_ _=>rfl,λi j h=>⟨j,h,Nat.le_refl _,λ_=>rfl⟩⟩
  have u:∀ d cs' m,nth (p03 bx i (.live (p03 cs k (.own ow.length 0)) ty)) d=some (.live cs' m)->∃ E,nth bx d=some (.live E m):=λd cs' m f=>by grind[E9]
  refine⟨s1.mv,s1.sub,λd cs' m f=>?_,λd b f=>?_,s1.own,s1.frz,λd x T aa U ab G I=>?_,s1.oo,λd cs' m x Y W Z S nn xs f N=>?_,s1.dfr,s1.siz,λt=>(s1.fr t).grow q⟩
  ·rw[E9 _ _ _ A]at f;split at f;·rename_i F;subst F;cases f;obtain⟨y,vs,p,z⟩:=s1.box d cs ty C;refine⟨y,vs,?_,z⟩;obtain⟨v,ac,R⟩:=p.nth O;have Q:v = .slice none 0 0:=R;have:=(p.grow q).upd (k:=k) (c := .own ow.length 0) (v:=v) (by rw[Q];exact⟨0,by simp[stamp,Q05],Nat.le_refl _,λ_=>oS⟩);rwa [show vs.set k v=vs from by grind[List.getElem?_eq_some_iff,List.set_getElem_self]]at this
   obtain⟨y,vs,p,z⟩:=s1.box d cs' m f;exact⟨y,vs,p.grow q,z⟩
  ·rw[E9 _ _ _ A]at f;split at f;·cases f
   exact s1.pub d b f
  ·obtain⟨D,s⟩:=u _ _ _ G;obtain⟨V,J⟩:=u _ _ _ I;exact s1.bb d x _ _ _ _ s J
  obtain⟨D,s⟩:=u _ _ _ f;exact s1.bo d _ _ x _ _ _ _ _ _ s N
theorem q0f:∀(l:List Nat) {st:St} {h:Hp} {K:St->Hp->Prop},Sim P h0 w0 be oe H st h a w->N0p l st h K->∃ st' h',K st' h'/\Sim P h0 w0 be oe H st' h' a w
 | [],st,h,K,b,c=>⟨st,h,c,b⟩
 |t::r,st,h,K,b,c=>by
  simp only[N0p]at c;obtain⟨⟨n,fr,bx,ow⟩,h',d,s1,_⟩:=s06 b (b.rdA (b.fr t)) c;dsimp only at d;split at d
  ·refine q0f r (s1.refr (fr:=(t,.val (a.tmps.getD t undef))::fr) λu=>?_) d;rw[l4];by_cases eu:t=u;·subst eu;rw[if_pos rfl];rfl
   rw[if_neg eu];exact s1.fr u
  exact d.elim
set_option maxHeartbeats 1000000 in
theorem r0s{Z:Code}{O:List Nat}{Q:Ex->St->Hp->Prop}
  (C:∀(Q:Ex->St->Hp->Prop) (st:St) (h:Hp) (a:Act) (w:World) (be:Nat->Nat) (oe:Nat->Value) (H:Hp),Sim P h0 w0 be oe H st h a w->ev P Z Q st h->Z.wp P (q0s P h0 w0 Q) a w)
  (f:Sim P h0 w0 be oe H st h a w) (g:F0t (λQ=>ev P Z Q) O Q st h):(Code.loop Z).wp P (q0s P h0 w0 Q) a w:=by
 obtain⟨A,aP,μ,g⟩:=g
 obtain⟨st,oe,g,f⟩:=G0i _ _ _ f g
 obtain⟨st,oe,g,f⟩:=z0g _ _ _ f g
 obtain⟨st,h,g,f⟩:=q0f _ f g
 unfold j0s at g
 obtain⟨D,bq,g,br⟩:=I0h st _ g
 obtain⟨ad,g,aF⟩:=M0t st _ g
 obtain⟨ac,bc,⟨aa,g⟩,aG⟩:=N0t st _ g
 rw[N0m]at g
 obtain⟨E,g,aU,aC,aD,_⟩:=o0f A st _ _ g (by simp)
 obtain⟨W,a5,s1⟩:=n0f A O st _ g
 have aV:∀ p∈E,p.1∈O:=λp R=>(aU p R).resolve_right (by simp)
 have bD:∀ t,t ∉ O->y0g A st (K3 W t):=λt bm=>by
  rcases s1 t bm with h|⟨_,h⟩
  ·rw[h];trivial
  ·exact h
 have bf:=λ(vs:List Value) (af:vs.length=(D++ad).length) (os:List (LV)) (ap:os.length=ac.length)=>w0g _ (v0g _ a5 vs af) os ap
 let y:List Value->List BSt->List Own->St:=λD bx ow=>⟨st.n,y0h A.vars D (E++W),bx,ow⟩
 let Inv:Nat->Act->World->Prop:=λm a w=>∃(vs:List Value) (os:List (LV)) (ah aA:List Value) (bx:List BSt) (ow:List Own) (h':Hp) (be:Nat->Nat) (oe:Nat->Value) (H:Hp),
  vs.length=(D++ad).length/\os.length=ac.length/\vs=ah++aA/\ah.length=A.vars.length/\(∀ X,v0a A.boxes aA st.bx X=X bx)/\(∀ X,w0a A.owns os st.ow X=X ow) /\
   atI A aP μ m vs os h'/\Sim P h0 w0 be oe H (y ah bx ow) h' a w
 have aQ:=Q0w f
 have a3:∀ m a w,Inv m a w->Z.wp P (Exit.then (λa w=>∃ U,Inv U a w/\U<m) (q0s P h0 w0 Q)) a w:=by
  rintro m a w ⟨vs,os,ah,aA,bx,ow,h',be,oe,H,af,ap,rfl,bo,bg,bi,aa,a1⟩
  have S:=B0w (bf _ af os ap) aa
  rw[←bo,m0f,bg,bi]at S
  refine Code.wp_mono (λe aj aB R=>?_) (C _ _ _ _ _ _ _ _ a1 S)
  cases e with
  |normal =>
   obtain⟨e,j,aR,bB,aO,I,s2⟩:=R
   dsimp only at I
   obtain⟨e,j,I,s2⟩:=q0f _ s2 I
   unfold C0w at I
   split at I
   ·rename_i a4 bh
    obtain⟨bd,bl,bk,q⟩:=I
    have J:=Nat.eq_of_beq_eq_true a4
    have z:=L0c 0 _ _ bl
    have ag:=M0c 0 _ _ bk
    simp only[Nat.zero_add]at z ag
    unfold j0s at q
    obtain⟨ae,aJ,q,bs⟩:=I0h e _ q
    have a8:∀(is:List Nat) {K:List Value->Prop},X0j is e K->(∀ i∈is,i∈A.boxes)->(∀ i∈is,(nth st.bx i).isSome=true) ->
      ∀ i∈is,∃ cs ty cs',nth st.bx i=some (.live cs ty)/\nth e.bx i=some (.live cs' ty)/\ShC e cs cs':=by
     intro is K _ bJ aq i d
     cases hb:nth st.bx i with
     |none=>have:=aq i d;rw[hb]at this;cases this
     |some b =>
      grind
    have aq:∀ i∈A.boxes,(nth st.bx i).isSome=true:=by
     have ak:∀(is:List Nat) (vs:List Value) (bx:List BSt),(v0a is vs bx λ_=>True)->∀ i∈is,(nth bx i).isSome=true:=by
      intro is
      induction is with
      |nil=>intro vs bx _ i d;cases d
      |cons T r C =>
       intro vs bx s i d
       simp only[v0a]at s
       split at s
       ·rename_i cs ty J
        rcases List.mem_cons.1 d with rfl|d
        ·rw[J];rfl
        ·have a6:∀(cs:List j7) (vs:List Value) (K:List j7->List Value->Prop),H07 cs vs K->∃ a b,K a b:=by
          intro cs
          induction cs with
          |nil=>intro vs K h;exact⟨_,_,h⟩
          |cons c r C =>
           intro vs K h
           cases c with
           |val v =>
            cases vs with
            |nil=>exact h.elim
            |cons bK vs=>obtain⟨a,b,h⟩:=C _ _ h;exact⟨_,_,h⟩
           |own i k=>obtain⟨a,b,h⟩:=C _ _ h;exact⟨_,_,h⟩
         obtain⟨a,b,s⟩:=a6 _ _ _ s
         have:=C _ _ s i d
         rw[E9 _ _ _ (W04 J)]at this
         grind
       ·exact s.elim
     exact ak A.boxes ad st.bx (by rw[aF];trivial)
    have bj:∀ i∈A.owns,(nth st.ow i).isSome=true:=by
     have ak:∀(is:List Nat) (vs:List (LV)) (ow:List Own),(w0a is vs ow λ_=>True)->∀ i∈is,(nth ow i).isSome=true:=by
      intro is
      induction is with
      |nil=>intro vs bx _ i d;cases d
      |cons T r C =>
       intro vs ow s i d
       cases vs with
       |nil=>exact s.elim
       |cons x vs =>
        simp only[w0a]at s
        split at s
        ·rename_i J
         rcases List.mem_cons.1 d with rfl|d
         ·rw[J];rfl
         ·have:=C _ _ s i d
          rw[E9 _ _ _ (W04 J)]at this
          grind
        ·exact s.elim
     exact ak A.owns ac st.ow (by rw[aG];trivial)
    obtain⟨aN,q,N,aM,bE,bG,bH,bI⟩:=O0t e A.boxes st.bx (a8 _ q (λ_ h=>h) aq) q
    have ba:∀ i∈A.owns,∃ f F sz by_ nn ai V L xs,nth st.ow i=some ⟨f,.live F sz by_ nn ai⟩/\nth e.ow i=some ⟨V,.live F sz by_ L xs⟩/\(nn=true->L=true):=λi d=>by
     cases hb:nth st.ow i with
     |none=>have:=bj i d;rw[hb]at this;cases this
     |some b =>
      rcases ag i b hb with⟨_,f,F,sz,by_,nn,ai,V,L,xs,rfl,j,al,_⟩|⟨l,_⟩
      ·exact⟨f,F,sz,by_,nn,ai,V,L,xs,rfl,j,al⟩
      ·exact absurd d l
    obtain⟨bC,bu,q,M,aK,bv,bz,bA⟩:=P0t e A.owns st.ow ba q
    split at q
    rotate_left
    ·exact q.elim
    rename_i bb
    rw[←aJ,m0f,aM,aK]at q
    obtain⟨ab,aZ,an⟩:=I0y q
    have ar:∀ i,stamp (y ae N M) i=stamp st i:=λi=>by
     have:=bA i
     unfold stamp
     simp only[y]
     cases l:nth M i<;>cases j:nth st.ow i<;>rw[l,j]at this<;>simp at this<;>simp[this]
    refine⟨ab,⟨ae++aN,bC,ae,aN,N,M,j,aR,bB,aO,?_,?_,rfl,aJ,aM,aK,aZ,?_⟩,an⟩
    ·rw[←af];exact R0t _ _ bb
    ·rw[bu]
     have:ac.length=A.owns.length:=bc
     rw[this]
    ·refine P0w (A:=A) s2 J ?_ ?_ ?_ ?_
     ·intro i b d
      by_cases u:i∈A.boxes
      ·obtain⟨aS,ty,cs',aw,ax,ay⟩:=bH i u
       have:nth N i=some b:=d
       rw[aw]at this
       cases this
       exact .inl ⟨aS,ty,cs',rfl,ax,ay⟩
      ·have:nth N i=some b:=d
       rw[bG i u]at this
       rcases z i b this with⟨l,_⟩|⟨_,j,al⟩
       ·exact absurd l u
       ·exact .inr ⟨j,al⟩
     ·intro i o d
      by_cases u:i∈A.owns
      ·obtain⟨aL,F,sz,by_,nn,V,L,xs,aw,ax,ay⟩:=bz i u
       have:nth M i=some o:=d
       rw[aw]at this
       cases this
       exact .inl ⟨⟨aL,F,sz,by_,nn,V,L,xs,rfl,ax,ay⟩,u⟩
      ·have:nth M i=some o:=d
       rw[bv i u]at this
       rcases ag i o this with⟨l,_⟩|⟨_,j⟩
       ·exact absurd l u
       ·exact .inr ⟨j,u⟩
     ·intro i cs ty d
      have:=bI _ aQ i cs ty d
      have a7:(λT k=>∃ f,stamp (y ae N M) T=some f/\k<=f)=(λT k=>∃ f,stamp st T=some f/\k<=f):=by
       funext T k;rw[ar]
      rw[a7]
      exact this
     ·refine v0A (A:=A) (ds:=O) (st:=st) (av1:=λt=>bs (E++W) t) s2 rfl bE ar ?_ aV aC aD bD (p0k E bh) (p0f _ bd)
      intro i k d am
      show stamp e i=stamp (y ae N M) i
      rw[ar i]
      cases hb:nth st.ow i with
      |none=>unfold stamp at am;rw[hb]at am;cases am
      |some b =>
       rcases ag i b hb with⟨l,aL,F,sz,by_,nn,ai,V,L,xs,rfl,j,_,aX⟩|⟨_,j⟩
       ·have:=aX (d.resolve_left (λh=>h l))
        simp[stamp,hb,j,this]
       ·unfold stamp
        rw[hb,j]
   ·exact I.elim
  |exit i=>exact R
  |ret=>exact R
  |_=>exact R
 have a2:Sim P h0 w0 be oe H (y D st.bx st.ow) h a w:=by
  refine f.refr (fr:=y0h A.vars D (E++W)) λt=>?_
  have aW:=f.fr t
  have G:=f.rdA aW
  rcases br (E++W) t with⟨l,bp⟩|⟨v,l,j⟩
  ·rw[l]
   rcases o0k E W t with⟨av,az,ab⟩|⟨az,ab⟩
   ·rw[ab]
    rcases aC _ az with rfl|⟨i,k,rfl,_,S⟩|⟨i,o,rfl,_,S⟩
    ·trivial
    ·rw[S]at G;exact G
    ·rw[S]at G;exact G
   ·rw[ab]
    have bn:t ∉ O:=λy=>by
     obtain⟨av,u⟩:=aD t y bp
     exact az av u
    rcases s1 t bn with h|⟨h,_⟩
    ·rw[h];trivial
    ·rw[h];exact G
  ·rw[l]
   rw[j]at G
   exact G
 obtain⟨bt,aa⟩:=A0w (μ:=μ) aa
 have aY:Inv bt a w:=⟨D++ad,ac,D,ad,st.bx,st.ow,h,be,oe,H,rfl,rfl,rfl,bq,aF,aG,aa,a2⟩
 classical
 let Y:Act->World->Nat:=λa w=>if z:∃ m,Inv m a w then Classical.choose (n0q _ z)else 0
 refine wp_loop (λa w=>∃ m,Inv m a w) Y ⟨_,aY⟩ λa w z=>?_
 have a0:Y a w=Classical.choose (n0q _ z):=by simp only[Y,dif_pos z]
 refine Code.wp_mono (λe aj aB aH=>?_) (a3 _ a w (Classical.choose_spec (n0q _ z)).1)
 cases e with
 |normal =>
  obtain⟨U,ao,an⟩:=aH
  refine⟨⟨U,ao⟩,?_⟩
  have au:∃ m,Inv m aj aB:=⟨U,ao⟩
  have:Y aj aB=Classical.choose (n0q _ au):=by simp only[Y,dif_pos au]
  rw[a0,this]
  exact Nat.lt_of_le_of_lt ((Classical.choose_spec (n0q _ au)).2 U ao) an
 |_=>exact aH
end
section
variable {P:Program} {h0:Hp} {w0:World} {be:Nat->Nat} {oe:Nat->Value} {H:Hp} {st:St} {h:Hp} {a:Act} {w:World}
theorem q0k(c:Code):∀(Q:Ex->St->Hp->Prop) (st:St) (h:Hp) (a:Act) (w:World) (be:Nat->Nat) (oe:Nat->Value) (H:Hp),Sim P h0 w0 be oe H st h a w->ev P c Q st h->c.wp P (q0s P h0 w0 Q) a w:=by
 induction c with
 |skip=>exact λQ st h a w be oe H f j=>wp_skip ⟨st,h,be,oe,H,j,f⟩
 |region id ops d=>grind[C0o]
 |seq x y o p =>
  intro Q st h a w be oe H f j;refine wp_seq (Code.wp_mono (λe a w l=>?_) (o _ _ _ _ _ _ _ _ f j));cases e with
  |normal=>obtain⟨st,h,be,oe,H,k,f⟩:=l;exact p _ _ _ _ _ _ _ _ f k
  |exit i=>exact l
  |ret=>exact l
  |_=>exact l
 |cond c x y o p =>
  intro Q st h a w be oe H f j;simp only[ev]at j;split at j;·rename_i b m;have g:=f.rdO c;rw[m]at g;exact wp_cond_split g (λe=>o _ _ _ _ _ _ _ _ f (j.1 e)) (λe=>p _ _ _ _ _ _ _ _ f (j.2 e))
  exact j.elim
 |block id c n =>
  intro Q st h a w be oe H f j;refine wp_block (Code.wp_mono (λe a w l=>?_) (n _ _ _ _ _ _ _ _ f j));cases e with
  |normal=>exact l
  |exit i =>
   obtain⟨st,h,be,oe,H,k,f⟩:=l;simp only[Exit.inBlock];dsimp only at k;cases m:Nat.beq i id;·rw[m]at k;rw[if_neg (Nat.ne_of_beq_eq_false m)];exact⟨st,h,be,oe,H,k,f⟩
   rw[m]at k;rw[if_pos (Nat.eq_of_beq_eq_true m)];exact⟨st,h,be,oe,H,k,f⟩
  |ret=>exact l
  |_=>exact l
 |loop c n=>exact λQ st h a w be oe H f j=>r0s n f j
 |exit i=>exact λQ st h a w be oe H f j=>wp_exit ⟨st,h,be,oe,H,j,f⟩
 |ret=>exact λQ st h a w be oe H f j=>wp_ret ⟨st,h,be,oe,H,j,f⟩
 |_=>exact λQ st h a w be oe H f j=>j.elim
def R0w(tmps:Array Value):ResultVar->Sem Value
 | .tmp t=>pure (tmps.getD t undef)
 | .cell a t=>do loadVar t (←asAddr (tmps.getD a undef))
theorem y0b:∀(l:List ResultVar) (st:St) (h:Hp) {K:List Value->St->Hp->Prop},Sim P h0 w0 be oe H st h a w->l0o P l st h K -> ∃ vs st' h',K vs st' h'/\Sim P h0 w0 be oe H st' h' a w/\(l.mapM (R0w a.tmps)).run P w = .ok vs w
 | [],st,h,K,c,d=>⟨[],st,h,d,c,rfl⟩
 | .tmp t::r,st,h,K,c,d=>by obtain⟨m,f,k,s1,_⟩:=s06 c (c.rdA (c.fr t)) d;obtain⟨vs,s,p,n,s2,q⟩:=y0b r m f s1 k;grind[Sem.run_bind,R0w,Sem.run_pure,Result.andThen_ok]
 | .cell t ty::r,st,h,K,c,d=>by
  simp only[l0o]at d;split at d
  ·rename_i i off q;split at d
   ·rename_i cs I C;have g:=c.rdA (c.fr t);rw[q]at g;obtain⟨f,vs,p,y⟩:=c.box i cs I C;obtain⟨av,v,E,F,G⟩:=R.load_row (H:=H) (b:=be i) (o:=0) (be:=be) d p (λJ v z=>by simp[Hp.cell,y,z]);obtain⟨m,f,k,s1,_⟩:=s06 c F E;obtain⟨L,s,u,n,s2,D⟩:=y0b r m f s1 k;refine⟨_,s,u,n,s2,?_⟩;have A:(loadVar ty ⟨be i,off,none⟩).run P w = .ok v w:=by obtain⟨x,j,e⟩:=R.wpR_sound _ _ w c.mv.vis (G (λx _=>x=v) rfl);rw[Nat.zero_add]at j;rw[j,e]
    have j:a.tmps.getD t undef=ptr (be i) off:=g.2;simp only[List.mapM_cons,Sem.run_bind,R0w,j,ptr,asAddr,Sem.run_pure,Result.andThen_ok,A,D]
   exact d.elim
  exact d.elim
theorem P0m:∀(args:List Value) (i s:Nat),K3 (g0g i args) s = .dead∨K3 (g0g i args) s = .val (if i<=s then args.getD (s-i) undef else undef)
 | [],i,s => .inl rfl
 |v::r,i,s=>by
  simp only[g0g];rw[l4];by_cases e:i=s;·subst e;right;simp
  rw[if_neg e];rcases P0m r (i+1) s with h'|h';all_goals grind
theorem V2.less{h h' H:Hp}{w d:World}(m:V2 h w H d)(c:∀ b o,h' b=some o->H b=some o):V2 h w h' d:=by
 refine⟨m.os,m.tape,m.output,m.size,m.keep,λb o a=>m.vis b o (c b o a),λb a=>?_,m.fz,m.dn⟩;cases hc:h' b with
 |none=>exact absurd hc a
 |some o=>exact m.fresh b (by rw[c b o hc];simp)
theorem s0s{f:FuncId}{fn:Func}{args:List Value}{m:Value->Hp->Prop}(hf:P.funcs[f]?=some fn)(k:n0A P fn args h m):Tr P f args.toArray h m:=by
 refine⟨λw C=>?_⟩;unfold n0A at k;split at k
 ·rename_i c y;split at k
  ·rename_i p;have p:=Nat.le_of_ble_eq_true p;have D:Sim P h w (λ_=>0) (λ_=>undef) h ⟨fn.ntmps,g0g 0 args,[],[]⟩ h { tmps:=args.toArray++Array.replicate (fn.ntmps-args.toArray.size) undef,defers:=[] } w:=by
    refine⟨V2.refl C,λ_ _ h=>h,(λi cs ty d=>nomatch d),(λi b d=>nomatch d),(λi a e sz by_ nn xs d=>nomatch d),(λi a v d=>nomatch d),(λi q cs ty cs' L d=>nomatch d),
     (λi q a e sz by_ nn xs I F K E G M g d=>nomatch d),(λi cs ty q a e sz by_ nn xs d=>nomatch d),rfl,by simp;omega,λa=>?_⟩
    rcases P0m args 0 a with h'|h';·grind[N2,K3,g0g]
    show N2 _ _ _ (K3 (g0g 0 args) a) _;rw[h'];simp only[Nat.zero_le,if_true,Nat.sub_zero];show _=_;simp only[Array.getD_eq_getD_getElem?];grind
   refine calls_of_wp hf y (Code.wp_mono (λe l o n=>?_) (q0k c _ _ _ _ _ _ _ _ D k));have fin:∀ {st h' be oe H},l0o P fn.results.toList st h' (λvs _ h=>m (f0g vs) h)->Sim P h w be oe H st h' l o->l.defers = []/\∃ v,(results fn l.tmps).run P o = .ok v o/\∃ s h',Ending.returned v = .returned s/\m s h'/\V2 h w h' o:=by
    intro st h' be oe H j a;obtain⟨vs,J,u,t,s2,z⟩:=y0b _ _ _ a j;refine⟨a.dfr,f0g vs,?_,f0g vs,u,rfl,t,s2.mv.less s2.sub⟩;have A:results fn l.tmps=(fn.results.mapM (R0w l.tmps) >>= λvs=>pure (if h:vs.size=1 then vs[0]else .tuple vs)):=by unfold results;congr 1
    rw[A,Array.mapM_eq_mapM_toList];simp only[Sem.run_bind,Sem.run_map,z,Result.andThen_ok,Sem.run_pure];cases vs with
    |nil=>rfl
    |cons x r=>cases r<;>rfl
   cases e with
   |normal=>obtain⟨st,h',be,oe,H,j,a⟩:=n;exact fin j a
   |ret=>obtain⟨st,h',be,oe,H,j,a⟩:=n;exact fin j a
   |exit i=>obtain⟨st,h',be,oe,H,j,a⟩:=n;exact j.elim
   |_=>exact n.elim
  exact k.elim
 exact k.elim
end
open Go.RowKit Go.ChangeShapes Go.WideShapes Go.ChangeAt
theorem Tr.val{P:Program}{f:FuncId}{args:Array Value}{h:Hp}{x:Value}{a:Value->Hp->Prop}(t:Tr P f args h λv h'=>v=x/\h'=h)(d:a x h):Tr P f args h a :=
 t.mono λ_ _ ⟨b,c⟩=>by rw[b,c];exact d
theorem Tr.calls{P:Program}{f:FuncId}{args:Array Value}{c:World}{x:Value}(t:Tr P f args (λb=>c.heap[b]?) λv h'=>v=x/\∀ b o,c.heap[b]?=some o->h' b=some o): Calls P f args c λe d=>e = .returned x/\Below c.heap.size c d/\∀ a:Addr,a.block<c.heap.size->d.frozen? a=c.frozen? a:=by
 refine(t.run c (λb o h=>h)).mono ?_;rintro e d ⟨v,h',rfl,⟨rfl,g⟩,m⟩;refine⟨rfl,⟨m.os,m.tape,m.output,m.size,λk i=>?_⟩,m.fz⟩;have:c.heap[k]?=some c.heap[k]:=by simp[i]
 rw[this];exact m.vis _ _ (g k _ this)
theorem w64{x:Int}(a : -9223372036854775808<=x)(b:x<=9223372036854775807):IntKind.i64.wrap x=x:=by simp[IntKind.wrap,IntKind.signed,IntKind.bits];omega
theorem t0v{n:Nat}(h:n<=maxLen):n<=9223372036854775807:=by grind[maxLen]
def I0(x:Int):Prop := -9223372036854775808<=x/\x<=9223372036854775807
theorem L0B{x:Int}(h:(Lit.int .i64 x).wf=true):I0 x:=by simpa [Lit.wf,IntKind.min,IntKind.max,IntKind.signed,IntKind.bits,I0] using h
section
variable {H:Type} {enc:TypeId×Value->H} {P:Program}
theorem R0e(i:laidOutB P=true){c f:World}(g:Below c.heap.size c f){m:Nat->Bool}:∀ {e:List TypeId} {vs:List Value} {ds:List (DataW H)} {b:List MemPlace},
  (∀ t∈e,P.readableRec t=true/\t<P.types.size)->DataW.TrodAll enc P c 0 (λ_=>true) true e vs ds b->(∀ p∈b,p.block<c.heap.size)->(∀ p∈b,m p.block=true) ->
  DataW.TrodAll enc P f 0 m true e vs ds b
 | [],vs,ds,b,_,h,_,_=>by
  obtain⟨rfl,rfl,rfl⟩:=trodAll_nil h
  exact rfl
 |t::e,vs,ds,b,l,h,j,k=>by
  obtain⟨v,z,d,y,p,q,rfl,rfl,rfl,n,o⟩:=trodAll_cons h
  obtain⟨u,w⟩:=l t mS
  refine⟨p,q,WideElems.Trod_stays i u w n (λx a=>g.same (j x (List.mem_append_left _ a))) (λx a=>k x (List.mem_append_left _ a)),?_,rfl⟩
  exact R0e i g (λt s=>l t (mC _ s)) o (λx a=>j x (List.mem_append_right _ a)) (λx a=>k x (List.mem_append_right _ a))
theorem c0j{f:Func}{h:ChangeSpec}{m fresh y x:Bool}{i d:World}{args:Array Value}{v:Value}{ds j:List (DataW H)}{e pa pv:List MemPlace} (k:DataW.Whole enc P f.params.toList h.vars m i args.toList ds j e) (s:∀(b:Nat) (g:Nat->Bool) (z:Bool),DataW.TrodAll enc P d b g z f.resultTypes.toList (v.resultList f.resultTypes.size) (h.fn H (ds++j)).results []) (n:∀ g:Nat->Bool,(∀ p∈e,g p.block=true)->DataW.TrodAll enc P d 0 g true f.params.toList args.toList (h.fn H (ds++j)).args pa) (u:∀ g:Nat->Bool,(∀ p∈e,g p.block=true)->DataW.TrodVars enc P d g h.vars (h.fn H (ds++j)).vars pv) (o:e=pa++pv) (C:i.keptBut d (·∈e)) (A:∀ a:Addr,a.block<i.heap.size->d.frozen? a=i.frozen? a) (D:∀(w:Nat) (t:TypeId) (r:Value),f.resultTypes[w]?=some t->(v.resultList f.resultTypes.size)[w]?=some r->Value.okWide P d .any 0 t r) : h.post enc P f m fresh y x i args v d:=by
 have l:=λp c=>k.lt (p:=p) c;refine⟨ds,j,e,[],pa,pv,k,s _ _ _,n _ (λp c=>by simpa using l p c),u _ (λp c=>by simpa using l p c),World.keptBut_mono (λp c=>⟨c,.inr (by rwa [o,List.mem_append]at c)⟩) C,λ_=>?_⟩;obtain⟨_,_,_,_,_,E,F⟩:=k;have q:([]++pa)++pv=e:=by simp[o]
 refine⟨D,_,_,([]++pa)++pv,⟨[]++pa,pv,trodAll_append (n _ (λ_ _=>rfl)) (s _ _ _),u _ (λ_ _=>rfl),rfl,?_,?_⟩,λp c _=>by rwa [q]at c⟩;·intro b off c;rw[q]at c;rw[A _ (l _ c)];exact E b off c
 grind
theorem S0w{f:Func}{c:ChangeSpec}{g fresh w o:Bool}{b d:World}{args:Array Value}{ds h:List (DataW H)}{s:List MemPlace}{n:TypeId} (D:laidOutB P=true) (F:∀ t∈f.params.toList,P.readableRec t=true/\t<P.types.size) (m:c.vars = []) (j:c.fn H (ds++h) = { results:=[.lit (.bool true)],args:=ds }) (k:f.resultTypes = #[n]) (l:P.underlying n=some .bool) (e:DataW.Whole enc P f.params.toList c.vars g b args.toList ds h s) (u:Below b.heap.size b d) (x:∀ a:Addr,a.block<b.heap.size->d.frozen? a=b.frozen? a):c.post enc P f g fresh w o b args (.bool true) d:=by
 have E:=λp y=>e.lt (p:=p) y;have v:=e;obtain⟨p,q,C,i,rfl,_,_⟩:=e;rw[m]at i;obtain⟨rfl,rfl⟩:=trodVars_none i;refine c0j (pa:=p) (pv:=[]) v (λ_ _ _=>?_) (λA z=>?_) (λA z=>?_) rfl (u.frame _) x (ok_one k rfl (okWide_bool_mk l _));·rw[j,k];exact trodAll_mk1 (shut_bool l _)
 ·grind[R0e,List.mem_append_left]
 rw[j,m];exact rfl
end
end Go.H
