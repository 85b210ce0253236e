/- The library of the walks, part HD: plain laws over the model. -/
import Derived.Test.YthakcafglempaaaGreatHC
import Derived.ProofKit
namespace Go.H
set_option linter.all false
theorem r03{i:Nat}{o:Oper}(h:n02 i o=true):∃ e∈o.after,Region.binds .any e=true/\e.on=i:=by unfold n02 at h;rw[List.any_eq_true]at h;simp_all
theorem H0b{o:Oper}{t:Nat}:∀ {l:List Oper} {i:Nat},I04 o t l i=true->∀ k x,l[k]?=some x->x.dst=some t->n02 (i+k) o=true
 | [],i,h,k,x,a,b=>by simp at a
 |y::r,i,h,0,x,a,b=>by simp_all[I04,Nat.beq_refl,Bool.and_eq_true]
 |y::r,i,h,k+1,x,a,b=>by
  simp only[List.getElem?_cons_succ]at a;have c:I04 o t r (i+1)=true:=by simp only[I04]at h;grind
  have:=H0b c k x a b;rwa [show i+1+k=i+(k+1) from oM]at this
theorem d06{o:Oper}{ops:List Oper}:∀ {l:List Operand},M0e o ops l=true->∀ t,Operand.tmp t∈l->I04 o t ops 0=true
 | [],h,t,a=>by cases a
 | .tmp u::r,h,t,a=>by
  simp only[M0e,Bool.and_eq_true]at h;rcases List.mem_cons.1 a with e|a;·cases e;exact h.1
  exact d06 h.2 t a
 | .const v::r,h,t,a=>by
  rcases List.mem_cons.1 a with e|a;·cases e
  exact d06 (l:=r) h t a
 | .global v::r,h,t,a=>by
  rcases List.mem_cons.1 a with e|a;·cases e
  exact d06 (l:=r) h t a
 | .func v::r,h,t,a=>by
  rcases List.mem_cons.1 a with e|a;·cases e
  exact d06 (l:=r) h t a
theorem D0a{ops:List Oper}:∀ {l:List Oper},T0r ops l=true->∀ o∈l,∀ t,Operand.tmp t∈o.op.operands->∀ k x,ops[k]?=some x->x.dst=some t->∃ e∈o.after,Region.binds .any e=true/\e.on=k
 | [],h,o,a=>by cases a
 |y::r,h,o,a=>by
  simp only[T0r,Bool.and_eq_true]at h;rcases List.mem_cons.1 a with rfl|a;·intro t d k x c b;have:=H0b (d06 h.1 t (by simpa using d)) k x c b;simp_all[Nat.zero_add,r03]
  exact D0a h.2 o a
theorem w09{d:Nat}:∀ {l:List Oper},u0b d l=true->∀ o∈l,o.dst≠some d
 | [],h,o,a=>by cases a
 |y::r,h,o,a=>by
  simp only[u0b]at h;split at h
  ·rename_i c b;simp only[Bool.and_eq_true,Bool.not_eq_true']at h;rcases List.mem_cons.1 a with rfl|a;·grind[Nat.ne_of_beq_eq_false]
   exact w09 h.2 o a
  rename_i b;rcases List.mem_cons.1 a with rfl|a;·grind
  exact w09 h o a
theorem u08{n:Nat}:∀ {l:List Oper},k0o n l=true->(∀ o∈l,∀ d,o.dst=some d->d<n) /\ ∀(i j:Nat) (a b:Oper) (d:Nat),l[i]?=some a->l[j]?=some b->a.dst=some d->b.dst=some d->i=j
 | [],h=>⟨oS,λi j a b d f=>by simp at f⟩
 |y::r,h=>by
  simp only[k0o]at h;split at h
  ·rename_i d p;simp only[Bool.and_eq_true]at h;obtain⟨⟨v,k⟩,m⟩:=h;obtain⟨g,s⟩:=u08 m;have x:=w09 k;refine⟨λo c e q=>?_,λi j a b e f w t u=>?_⟩
   ·rcases List.mem_cons.1 c with rfl|c;·simp_all
    exact g o c e q
   grind
  rename_i p;obtain⟨g,s⟩:=u08 h;grind
theorem v08:∀ {l:List Oper} {j:Nat},l0o l j=true->∀ k o,l[k]?=some o->∀ e∈o.after,Region.binds .any e=true->e.on<j+k
 | [],j,h,k,o,a=>by simp at a
 |y::r,j,h,k,o,a=>by
  simp only[l0o,Bool.and_eq_true,List.all_eq_true]at h;cases k with
  |zero =>simp at a;subst a;intro e b c;have:=h.1 e (by simpa using b);simp_all
  |succ k =>simp at a;intro e b c;have:=v08 h.2 k o a e b c;omega
def V5:List Oper->List (Nat×AV)->List (Nat×AV)
 | [],fr=>fr
 |o::r,fr=>match o.dst with
  |some d=>(d,.dead)::V5 r fr
  |none=>V5 r fr
theorem w03{t:Nat}:∀ {l:List Oper} {fr:List (Nat×AV)},(∀ o∈l,o.dst≠some t)->L3 (V5 l fr) t=L3 fr t
 | [],fr,h=>rfl
 |o::r,fr,h=>by have c:=w03 (fr:=fr) λb a=>h b (mC _ a);simp only[V5];split;all_goals simp_all[F4,if_neg,List.mem_cons_self]
theorem K04{t:Nat}:∀ {l:List Oper} {fr:List (Nat×AV)} {o:Oper},o∈l->o.dst=some t->L3 (V5 l fr) t = .dead
 | [],fr,o,h,_=>by cases h
 |y::r,fr,o,h,a=>by
  simp only[V5];split
  ·rename_i d b;rw[F4];split;·rfl
   rename_i c;rcases List.mem_cons.1 h with rfl|h;·grind
   exact K04 h a
  rename_i b;rcases List.mem_cons.1 h with rfl|h;·rw[a]at b;cases b
  exact K04 h a
theorem w08(d:Nat)(f:H00)(r:List (Nat×H00))(s:Nat):U5 ((d,f)::r) s=if d=s then some f else U5 r s:=by
 simp only[U5];cases h:Nat.beq d s;·rw[if_neg (Nat.ne_of_beq_eq_false h)]
 rw[if_pos (Nat.eq_of_beq_eq_true h)]
section
variable {P:Program} {h0:Hp} {w0:World} {be:Nat->Nat} {oe:Nat->Value} {H:Hp} {h:Hp} {a:Act} {w:World}
theorem Sim.refr{st:St}(b:Sim P h0 w0 be oe H st h a w){fr:List (Nat×AV)}(hf:∀ t,J2 st be oe (L3 fr t) (a.tmps.getD t undef)):Sim P h0 w0 be oe H { st with fr:=fr } h a w:=by have c:I8 st be oe { st with fr:=fr } be oe:=⟨Nat.le_refl _,λ_ _=>rfl,λi b h=>⟨b,h,Nat.le_refl _,λ_=>rfl⟩⟩;refine⟨b.mv,b.sub,λi cs ty g=>?_,b.pub,b.own,b.frz,b.bb,b.oo,b.bo,b.dfr,b.siz,λt=>(hf t).grow c⟩;obtain⟨d,vs,e,f⟩:=b.box i cs ty g;exact⟨d,vs,e.grow c,f⟩
def x09(st:St)(be:Nat->Nat)(oe:Nat->Value)(h:Hp):H00->Value->Prop
 | .pu av,v=>J2 st be oe av v
 | .ef F,v=>F v h
theorem x05{L:List (Nat×H00)}{st:St}{h:Hp}{val:Nat->Value}{K:List (Nat×AV)->Prop}:∀ {l:List Operand} {acc:List (Nat×AV)},
  (∀ t,J2 st be oe (L3 acc t) (val t))->(∀ t,Operand.tmp t∈l->(∀ f,U5 L t=some f->x09 st be oe h f (val t))/\(U5 L t=none->J2 st be oe (L3 st.fr t) (val t))) ->
  M0i L st h l acc K->∃ fr,K fr/\∀ t,J2 st be oe (L3 fr t) (val t)
 | [],acc,c,b,a=>⟨acc,a,c⟩
 | .tmp t::r,acc,c,b,a=>by
  have i:∀ u,Operand.tmp u∈r->_:=λu d=>b u (mC _ d)
  have j:=b t mS
  have put:∀ av,J2 st be oe av (val t)->∀ u,J2 st be oe (L3 ((t,av)::acc) u) (val u):=λav g u=>by
   grind[F4]
  simp only[M0i]at a
  split at a
  ·rename_i av e
   exact x05 (put av (j.1 _ e)) i a
  ·rename_i k e
   exact x05 (put (.val (val t)) rfl) i (a _ (j.1 _ e))
  ·rename_i e
   exact x05 (put _ (j.2 e)) i a
 | .const v::r,acc,c,b,a=>x05 (l:=r) c (λu d=>b u (mC _ d)) a
 | .global v::r,acc,c,b,a=>x05 (l:=r) c (λu d=>b u (mC _ d)) a
 | .func v::r,acc,c,b,a=>x05 (l:=r) c (λu d=>b u (mC _ d)) a
def p0A(P:Program)(st:St)(h:Hp)(L:List (Nat×H00))(o:Oper):Prop :=
 o.guard=none/\∃ f,(∀ d,o.dst=some d->U5 L d=some f)/\match f with
  | .pu av=>L0q P L o st=some av
  | .ef F=>(∀ v a b,Sub a b->F v a->F v b)/\∀ h',Sub h h'->M0i L st h' o.op.operands.toList [] λfr=>z00 P o { st with fr:=fr } h' (L0z { st with fr:=fr } h' F)
theorem z0g:∀ {L:List (Nat×H00)} {t:Nat} {f:H00},U5 L t=some f->(t,f)∈L
 | [],t,f,h=>by cases h
 |(d,a)::r,t,f,h=>by
  rw[w08]at h;split at h;·grind
  exact mC _ (z0g h)
theorem i0x{st:St}{L:List (Nat×H00)}{o:Oper}{av:AV}{val:Nat->Value}(a:L0q P L o st=some av) (k:∀ t,Operand.tmp t∈o.op.operands->(∀ f,U5 L t=some f->x09 st be oe h f (val t))/\(U5 L t=none->J2 st be oe (L3 st.fr t) (val t))) : ∃ fr,(∀ t,J2 st be oe (L3 fr t) (val t))/\z00 P o { st with fr:=fr } h λi st' h'=>i=av/\st' = { st with fr:=fr }/\h'=h:=by
 have one:∀ x:Operand,(∀ t,x = .tmp t->Operand.tmp t∈o.op.operands)->rdS L st x ≠ .dead->∃ fr,(∀ t,J2 st be oe (L3 fr t) (val t))/\rdO { st with fr:=fr } x=rdS L st x:=by
  intro x b c;cases x with
  |tmp t =>
   obtain⟨j,m⟩:=k t (b t rfl);have mk:∀ A,J2 st be oe A (val t)->∀ u,J2 st be oe (L3 [(t,A)] u) (val u):=λA g u=>by
    rw[F4];split;·grind
    trivial
   have rd:∀ A,rdO { st with fr:=[(t,A)] } (.tmp t)=rdA st A:=λA=>by show Go.H.rdA _ (L3 [(t,A)] t)=_;rw[F4,if_pos rfl];obtain⟨n,fr,bx,ow⟩:=st;cases A<;>rfl
   cases hL:U5 L t with
   |none=>grind[rdS]
   |some f =>
    cases f with
    |pu A=>exact⟨_,mk _ (j _ hL),by grind[rdS]⟩
    |ef l=>grind[absurd,rdS]
  |const v=>exact⟨[],λt=>trivial,rfl⟩
  |global v=>exact⟨[],λt=>trivial,rfl⟩
  |func v=>exact⟨[],λt=>trivial,rfl⟩
 unfold L0q at a;split at a
 ·rename_i x b;have c:rdS L st x ≠ .dead:=λe=>by rw[e]at a;cases a
  obtain⟨fr,g,e⟩:=one x (λt d=>by grind[Op.operands]) c;refine⟨fr,g,?_⟩;simp only[z00,b,e];revert a;cases rdS L st x<;>intro a<;>first|(cases a;done)|(cases a;simp;done)
 ·rename_i x b;have c:rdS L st x ≠ .dead:=λe=>by rw[e]at a;cases a
  obtain⟨fr,g,e⟩:=one x (λt d=>by grind[Op.operands]) c;refine⟨fr,g,?_⟩;simp only[z00,b,e];revert a;cases rdS L st x<;>intro a<;>first|(cases a;done)|(cases a;simp;done)
 ·rename_i t x b;have c:rdS L st x ≠ .dead:=λe=>by rw[e]at a;cases a
  obtain⟨fr,g,e⟩:=one x (λt d=>by grind[Op.operands]) c;refine⟨fr,g,?_⟩;simp only[z00,b,e];split at a;all_goals grind[L0i,h08,K0m,o7]
 cases a
def c0z(P:Program)(h0:Hp)(w0:World)(ops:Array Oper)(st:St)(h:Hp)(L:List (Nat×H00))(b:Array Bool)(a:Act)(w:World):Prop :=
 ∃ be oe H h',Sub h h'/\Sim P h0 w0 be oe H { st with fr:=V5 ops.toList st.fr } h' a w /\
  ∀ j o d f,ops[j]?=some o->o.dst=some d->b.getD j false=true->U5 L d=some f->x09 st be oe h' f (a.tmps.getD d undef)
theorem J2.fr{st:St}{fr:List (Nat×AV)}{av:AV}{v:Value}(g:J2 st be oe av v):J2 { st with fr:=fr } be oe av v:=by obtain⟨n,a,bx,ow⟩:=st;show J2 ⟨n,fr,bx,ow⟩ be oe av v;exact J2.grow (st:=⟨n,a,bx,ow⟩) (st':=⟨n,fr,bx,ow⟩) (be:=be) (oe:=oe) (be':=be) (oe':=oe) (av:=av) (x:=v) ⟨Nat.le_refl _,λ_ _=>rfl,λi b h=>⟨b,h,Nat.le_refl _,λ_=>rfl⟩⟩ g
theorem A7{ops:Array Oper}{st:St}{L:List (Nat×H00)}{E:Array Bool}{j:Nat}{o:Oper}{Q:Exit->Act->World->Prop} (aG:∀(i j:Nat) (c ah:Oper) (d:Nat),ops.toList[i]?=some c->ops.toList[j]?=some ah->c.dst=some d->ah.dst=some d->i=j) (aa:∀ o∈ops.toList,∀ d,o.dst=some d->d<st.n) (W:∀ t f,(t,f)∈L->∃(i:Nat) (c:Oper),ops.toList[i]?=some c/\c.dst=some t) (am:∀(i:Nat) (c:Oper) (d:Nat),ops.toList[i]?=some c->c.dst=some d->∃ f,U5 L d=some f) (ab:ops[j]?=some o) (X:∀(j:Nat) (o:Oper),ops.toList[j]?=some o->p0A P st h L o) (ao:∀ t,Operand.tmp t∈o.op.operands->∀(i:Nat) (c:Oper),ops.toList[i]?=some c->c.dst=some t->E.getD i false=true) (N:c0z P h0 w0 ops st h L E a w):o.wp P a w (c0z P h0 w0 ops st h L (E.setIfInBounds j true)) Q:=by
 obtain⟨be,oe,H,h',af,F,U⟩:=N;have ac:ops.toList[j]?=some o:=by simpa using ab
 have Z:o∈ops.toList:=List.mem_of_getElem? ac;obtain⟨aJ,f,hf,ad⟩:=X j o ac;have aA:∀ d q,U5 L d=some (.ef q)->∀ v l k,Sub l k->q v l->q v k:=λd q K=>by obtain⟨i,c,l,k⟩:=W d _ (z0g K);obtain⟨_,aF,ap,az⟩:=X i c l;rw[ap d k]at K;cases K;exact az.1
 have aj:∀ t,Operand.tmp t∈o.op.operands->(∀ f,U5 L t=some f->x09 st be oe h' f (a.tmps.getD t undef))/\(U5 L t=none->J2 st be oe (L3 st.fr t) (a.tmps.getD t undef)):=λt O=>by
  refine⟨λf hf=>?_,λax=>?_⟩;·obtain⟨i,c,l,k⟩:=W t f (z0g hf);exact U i c t f (by simpa using l) k (ao t O i c l k) hf
  have g:=F.fr t;have au:L3 (V5 ops.toList st.fr) t=L3 st.fr t:=w03 λaD ay D=>by obtain⟨i,N,e⟩:=List.getElem_of_mem ay;obtain⟨f,hf⟩:=am i aD t (by rw[List.getElem?_eq_getElem N,e]) D;rw[ax]at hf;cases hf
  rw[←au];exact J2.fr (st := { st with fr:=V5 ops.toList st.fr }) (fr:=st.fr) g
 have fin:∀ {fr:List (Nat×AV)} {z:Act} {y:World} {p:Hp} {be':Nat->Nat} {oe':Nat->Value} {s:Hp} {v:Value},Sub h' p->z=a.put o.dst v->Sim P h0 w0 be' oe' s { st with fr:=fr } p a y ->
   I8 { st with fr:=fr } be oe { st with fr:=fr } be' oe'->x09 st be' oe' p f v->c0z P h0 w0 ops st h L (E.setIfInBounds j true) z y:=by
  intro fr z y p be' oe' s v ag C G m R
  subst C
  have ak:I8 { st with fr:=V5 ops.toList st.fr } be oe { st with fr:=V5 ops.toList st.fr } be' oe':=⟨m.bl,m.be,m.sm⟩
  have al:I8 st be oe st be' oe':=⟨m.bl,m.be,m.sm⟩
  have s1:Sim P h0 w0 be' oe' s { st with fr:=V5 ops.toList st.fr } p a y :=
   G.refr (fr:=V5 ops.toList st.fr) λt=>J2.fr (st := { st with fr:=V5 ops.toList st.fr }) ((F.fr t).grow ak)
  have s2:Sim P h0 w0 be' oe' s { st with fr:=V5 ops.toList st.fr } p (a.put o.dst v) y:=by
   cases D:o.dst with
   |none=>exact s1
   |some d =>
    have ae:=s1.put (d:=d) (av := .dead) (v:=v) (aa o Z d D) trivial
    refine ae.refr (fr:=V5 ops.toList st.fr) λt=>?_
    have g:=ae.fr t
    grind[F4,K04]
  refine⟨be',oe',s,p,λb x an=>ag b x (af b x an),s2,λi c d g l k V I=>?_⟩
  by_cases hij:j=i
  ·subst hij
   rw[ab]at l;cases l
   rw[hf d k]at I;cases I
   have ar:d<a.tmps.size:=by rw[F.siz];exact aa o Z d k
   have:(a.put o.dst v).tmps.getD d undef=v:=by
    rw[k]
    simp[Act.put,ar]
   rw[this]
   exact R
  ·have aq:E.getD i false=true:=by rw[getD_set_ne false hij]at V;exact V
   have aw:∀ A,o.dst=some A->A≠d:=λA aH e=>by
    grind
   have:(a.put o.dst v).tmps.getD d undef=a.tmps.getD d undef:=by
    cases D:o.dst with
    |none=>rfl
    |some A=>simp[Act.put,Array.getElem?_setIfInBounds_ne (aw A D)]
   rw[this]
   have ai:=U i c d g l k aq I
   cases g with
   |pu av=>exact J2.grow al ai
   |ef q=>exact aA d q I _ _ _ ag ai
 cases f with
 |pu av =>obtain⟨fr,g,M⟩:=i0x (h:=h') ad aj;have G:Sim P h0 w0 be oe H { st with fr:=fr } h' a w:=F.refr (fr:=fr) λt=>J2.fr (g t);refine Oper.wp_mono (λz y S=>?_) (H02 G M);obtain⟨T,st',p,v,be',oe',s,⟨rfl,rfl,rfl⟩,C,s2,J,m⟩:=S;exact fin (λ_ _ h=>h) C s2 m (J2.fr (st := { st with fr:=fr }) (fr:=st.fr) J)
 |ef q =>
  obtain⟨fr,M,g⟩:=x05 (acc:=[]) (be:=be) (oe:=oe) (val:=λt=>a.tmps.getD t undef) (λt=>trivial) (λt O=>aj t (by simpa using O)) (ad.2 h' af);have G:Sim P h0 w0 be oe H { st with fr:=fr } h' a w:=F.refr (fr:=fr) λt=>J2.fr (g t);refine Oper.wp_mono (λz y S=>?_) (H02 G M);obtain⟨T,st',p,v,be',oe',s,Y,C,s2,J,m⟩:=S;cases T with
  |val u =>obtain⟨rfl,aB,aC⟩:=Y;have R:v=u:=J;subst R;exact fin aB C s2 m aC
  |_=>exact Y.elim
theorem v0l{ops:Array Oper}(c:∀(k:Nat) (o:Oper),ops.toList[k]?=some o->∀ e∈o.after,Region.binds .any e=true->e.on<k){a:Array Bool}(i:a.size=ops.size)(h:Region.ready .any ops a = []): ∀ j,j<ops.size->a.getD j false=true:=by
 intro j;induction j using Nat.strongRecOn with
 |_ j l =>
  intro b;cases hl:a.getD j false
  ·have g:j<a.size:=oM;have:j∈Region.ready .any ops a:=by refine mem_ready.2 ⟨?_,ops[j],by simp[b],λe f d=>?_⟩;all_goals grind
   grind
  rfl
theorem count_set{a:Array Bool}{j:Nat}(b:a.getD j true=false):(a.setIfInBounds j true).toList.count true=a.toList.count true+1:=by
 have c:j<a.size:=by grind
 simp_all[Array.toList_setIfInBounds,List.count_set]
end
theorem j0x{P:Program}{t:TypeId}{cs:List S6}{off:Nat}{av:AV}(h:L0i P t cs off=some av):h08 P t cs off λa=>a=av:=by grind[L0i,h08,K0m,o7]
section
variable {P:Program} {h0:Hp} {w0:World} {be:Nat->Nat} {oe:Nat->Value} {H:Hp} {h:Hp} {a:Act} {w:World}
theorem R09{L:List (Nat×H00)}{st stX:St}{x:Operand} (b:∀ t,x = .tmp t->(∀ av,U5 L t=some (.pu av)->J2 stX be oe av (a.tmps.getD t undef))/\(U5 L t=none->J2 stX be oe (L3 st.fr t) (a.tmps.getD t undef))):J2 stX be oe (v09 L st x) (a.eval x):=by
 cases x with
 |tmp t =>
  obtain⟨c,d⟩:=b t rfl;show J2 stX be oe (v09 L st (.tmp t)) (a.tmps.getD t undef);simp only[v09];split;·grind
  ·trivial
  grind
 |const v=>exact rfl
 |global g=>trivial
 |func f=>trivial
theorem E0a{L:List (Nat×H00)}{st stX:St}:∀(l:List Operand) {vs:List (Nat×Value)},(∀ t,Operand.tmp t∈l->J2 stX be oe (v09 L st (.tmp t)) (a.tmps.getD t undef))->q0h L st l=some vs -> (∀ p∈vs,p.2=a.eval (.tmp p.1))/\(∀ x∈l,(∃ t v,x = .tmp t/\(t,v)∈vs)∨(∀ ws,rho ws x=a.eval x))
 | [],vs,G,h=>by cases h;simp
 | .tmp t::r,vs,G,h=>by
  simp only[q0h]at h;split at h
  ·rename_i v k;split at h
   ·rename_i m j;cases h;obtain⟨c,e⟩:=E0a r (λu d=>G u (mC _ d)) j;have g:=G t mS;rw[k]at g;have g:a.tmps.getD t undef=v:=g;refine⟨λp i=>?_,λx b=>?_⟩
    ·rcases List.mem_cons.1 i with rfl|i;·exact g.symm
     exact c p i
    grind
   cases h
  cases h
 | .global _::r,vs,G,h=>by cases h
 | .const v::r,vs,G,h=>by
  obtain⟨c,e⟩:=E0a r (vs:=vs) (λu d=>G u (mC _ d)) h;exact⟨c,λx b=>by
   rcases List.mem_cons.1 b with rfl|b;·exact .inr λ_=>rfl
   exact e x b⟩
 | .func f::r,vs,G,h=>by
  obtain⟨c,e⟩:=E0a r (vs:=vs) (λu d=>G u (mC _ d)) h;exact⟨c,λx b=>by
   rcases List.mem_cons.1 b with rfl|b;·exact .inr λ_=>rfl
   exact e x b⟩
theorem A0o{L:List (Nat×H00)}{st stX:St}{o:Oper}{av:AV}(b:M0q P L o st=some av) (j:∀ t,Operand.tmp t∈o.op.operands->(∀ av,U5 L t=some (.pu av)->J2 stX be oe av (a.tmps.getD t undef))/\(U5 L t=none->J2 stX be oe (L3 st.fr t) (a.tmps.getD t undef))) : ∃ v,(execOp a.eval o).run P w = .ok (.value v) w/\J2 stX be oe av v:=by
 unfold M0q at b;split at b
 ·rename_i vs f g;obtain⟨d,e⟩:=E0a (a:=a) (stX:=stX) (be:=be) (oe:=oe) _ (λt h=>R09 (x := .tmp t) λu i=>oG) g;split at b;·cases b
  split at b;·rename_i v c;cases b;rw[U0e,F0c f d e]at c;exact⟨v,Z0r _ c w,rfl⟩
  cases b
 cases b
theorem e09{L b:List (Nat×H00)}{st:St}:∀ {l:List Operand},(∀ t,Operand.tmp t∈l->U5 L t=U5 b t)->q0h L st l=q0h b st l
 | [],h=>rfl
 | .tmp t::r,h=>by simp only[q0h,v09,h t mS,e09 λu a=>h u (mC _ a)]
 | .global _::r,h=>rfl
 | .const _::r,h=>e09 (l:=r) λu a=>h u (mC _ a)
 | .func _::r,h=>e09 (l:=r) λu a=>h u (mC _ a)
theorem Y0i{L:List (Nat×H00)}{st:St}{o:Oper}{t:TypeId}{x:Operand}{i off:Nat}(b:o.op = .load t x)(a:v09 L st x = .box i off):∀ {l:List Oper},o∈l->i∈w05 L st l
 | [],h=>nomatch h
 |y::r,h=>by
  rcases List.mem_cons.1 h with rfl|h;·grind[w05,List.mem_cons_self]
  have:=Y0i b a h;grind[w05,mC]
theorem w0l{bx a:List BSt}{i:Nat}:∀ {l:List Nat},w0d bx l=w0d a l->i∈l->nth bx i=nth a i
 | [],_,h=>nomatch h
 |y::r,e,h=>by
  simp only[w0d,List.cons.injEq]at e;rcases List.mem_cons.1 h with rfl|h;·exact e.1
  exact w0l e.2 h
theorem M0t{L:List (Nat×H00)}{st stX:St}{o:Oper}{av:AV}(m:Sim P h0 w0 be oe H stX h a w)(F:∀ t x i off,o.op = .load t x->v09 L st x = .box i off->nth stX.bx i=nth st.bx i)(c:v0d P L o st=some av) (f:∀ t,Operand.tmp t∈o.op.operands->(∀ av,U5 L t=some (.pu av)->J2 stX be oe av (a.tmps.getD t undef))/\(U5 L t=none->J2 stX be oe (L3 st.fr t) (a.tmps.getD t undef))) : ∃ v,(execOp a.eval o).run P w = .ok (.value v) w/\J2 stX be oe av v:=by
 unfold v0d at c;split at c
 ·rename_i x d;split at c;·cases c;simp_all[R09,Op.operands,execOp]
  cases c
 ·rename_i x d;split at c;·cases c;simp_all[R09,Op.operands,execOp]
  cases c
 ·rename_i t x d;have g:=R09 (L:=L) (st:=st) (stX:=stX) (be:=be) (oe:=oe) (a:=a) (x:=x) λt e=>f t (by rw[d];simp[Op.operands,e]);split at c
  ·rename_i i off l;rw[l]at g;split at c
   ·rename_i cs ty G;split at c
    ·rename_i C s;split at c;·cases c;obtain⟨E,vs,p,q⟩:=m.box i cs ty oG;obtain⟨D,v,y,z,A⟩:=R.load_row (H:=H) (b:=be i) (o:=0) (be:=be) (j0x s) p (λj v u=>by simp[Hp.cell,q,u]);subst y;exact⟨v,R.run_of (R.exec_load d g.2 (by simpa using A)) w (h0v m),z⟩
     cases c
    cases c
   cases c
  cases c
 ·rename_i t x k d;have g:=R09 (L:=L) (st:=st) (stX:=stX) (be:=be) (oe:=oe) (a:=a) (x:=x) λt e=>f t (by rw[d];simp[Op.operands,e]);split at c;·rename_i i off n l e;rw[l]at g;cases c;exact⟨ptr (be i) (off+n),R.run_of (R.exec_fieldAddr d e g.2) w (h0v m),g.1,rfl⟩
  cases c
 ·split at c;·exact A0o c f
  cases c
 ·split at c
  ·split at c;·exact A0o c f
   cases c
  cases c
 cases c
theorem y05{L:List (Nat×H00)}{st stX:St}{val:Nat->Value}{K:List (Nat×AV)->Prop}:∀ {l:List Operand} {acc:List (Nat×AV)},
  (∀ t,J2 stX be oe (L3 acc t) (val t))->(∀ t,Operand.tmp t∈l->(∀ av,U5 L t=some (.pu av)->J2 stX be oe av (val t))/\(U5 L t=none->J2 stX be oe (L3 st.fr t) (val t))) ->
  r0h L st.fr l acc K->∃ fr,K fr/\∀ t,J2 stX be oe (L3 fr t) (val t)
 | [],acc,c,b,a=>⟨acc,a,c⟩
 | .tmp t::r,acc,c,b,a=>by
  have f:∀ u,Operand.tmp u∈r->_:=λu d=>b u (mC _ d)
  have h:=b t mS
  have put:∀ av,J2 stX be oe av (val t)->∀ u,J2 stX be oe (L3 ((t,av)::acc) u) (val u):=λav g u=>by
   grind[F4]
  simp only[r0h]at a
  split at a
  ·rename_i av e
   exact y05 (put av (h.1 _ e)) f a
  ·rename_i i e
   exact y05 (put .dead trivial) f a
  ·rename_i e
   exact y05 (put _ (h.2 e)) f a
 | .const v::r,acc,c,b,a=>y05 (l:=r) c (λu d=>b u (mC _ d)) a
 | .global v::r,acc,c,b,a=>y05 (l:=r) c (λu d=>b u (mC _ d)) a
 | .func v::r,acc,c,b,a=>y05 (l:=r) c (λu d=>b u (mC _ d)) a
theorem A0g:∀(L:List (Nat×H00)) (fr:List (Nat×AV)) (t:Nat),L3 (N0q L fr) t=match U5 L t with
  |some (.pu av)=>av
  |some (.ef _) => .dead
  |none=>L3 fr t
 | [],fr,t=>rfl
 |(d,.pu av)::r,fr,t=>by
  simp only[N0q]
  rw[F4,w08]
  split
  ·rfl
  ·exact A0g r fr t
 |(d,.ef F)::r,fr,t=>by
  simp only[N0q]
  rw[F4,w08]
  split
  ·rfl
  ·exact A0g r fr t
theorem B0o{L a:List (Nat×H00)}{o:Oper}{st:St}(h:∀ t,Operand.tmp t∈o.op.operands->U5 L t=U5 a t):v0d P L o st=v0d P a o st:=by
 have d:∀ x:Operand,(∀ t,x = .tmp t->Operand.tmp t∈o.op.operands)->v09 L st x=v09 a st x:=λx c=>by
  cases x with
  |tmp t=>grind[v09]
  |_=>rfl
 have e:M0q P L o st=M0q P a o st:=by unfold M0q;rw[e09 (l:=o.op.operands.toList) λt b=>h t (by simpa using b)]
 unfold v0d;split;·rename_i x c;rw[d x λt b=>by grind[Op.operands]]
 ·rename_i x c;rw[d x λt b=>by grind[Op.operands]]
 ·rename_i t x c;rw[d x λt b=>by grind[Op.operands]]
 all_goals grind[Op.operands,List.mem_cons_self,Call.operands]
theorem C0o{k:Nat}:∀ {r:List Nat},inK k r=true->k∈r
 |x::r,h=>by simp only[inK,Bool.or_eq_true]at h;rw[List.mem_cons];exact h.imp (λe=>Nat.eq_of_beq_eq_true e) C0o
theorem D0o{k:Nat}:∀ {l:List (Nat×Oper)},k∈p0g l->∃ p∈l,p.1=k
 |x::r,h=>by
  rcases List.mem_cons.1 h with h|h;·exact⟨x,mS,h.symm⟩
  obtain⟨p,a,b⟩:=D0o h;exact⟨p,mC _ a,b⟩
theorem F0d{es:List Nat}{i:Nat}{o:Oper}:∀ {N:Nat},x0b es N i o=true->∀ k,k<N->k≠i->(∃ e∈o.after,Region.binds .any e=true/\e.on=k)∨k∈es
 |0,_,k,b,_=>oM
 |N+1,h,k,b,a=>by
  simp only[x0b,Bool.and_eq_true,Bool.or_eq_true]at h;by_cases e:k=N
  ·subst e;rcases h.1 with(g|g)|g;·exact absurd (Nat.eq_of_beq_eq_true g) a
   ·exact .inl (r03 g)
   exact .inr (C0o g)
  exact F0d h.2 k oM a
theorem g0n{l:Array Bool}{j:Nat}(h:l.getD j true=false):l.getD j false=false:=by grind
theorem x0h{x:Nat×Oper}:∀ {r:List (Nat×Oper)},(∀ y∈r,n02 y.1 x.2=false)->R0m x r=true
 | [],_=>rfl
 |y::r,h=>by simp only[R0m,Bool.and_eq_true];exact⟨by rw[h y mS];rfl,x0h λz a=>h z (mC _ a)⟩
theorem d0s{f:(Nat×Oper)->List (Nat×Oper)->Prop}{x:Nat×Oper}:∀ {B C A:List (Nat×Oper)},(∀ y∈C++A++B,n02 y.1 x.2=false)->O0q f (q0g C (A++x::B))->f x (C++A++B)
 |B,C,[],a,h=>by simp only[List.nil_append,q0g,O0q]at h;rw[x0h (by simpa using a)]at h;simpa using h.1
 |B,C,y::A,a,h=>by
  simp only[List.cons_append,q0g,O0q]at h;have b:O0q f (q0g (C ++ [y]) (A++x::B)):=by
   split at h;·exact h.2
   exact h
  have:=d0s (A:=A) (C:=C ++ [y]) (by simpa using a) b;simpa using this
theorem h0n:∀(l:List (Nat×Oper)),U0k l=l.length
 | []=>rfl
 |_::r=>by rw[U0k,h0n r];rfl
end
theorem X07:∀ {L:FL} {t:Nat} {x:List (Nat×Bool)×H00},z06 L t=some x->(t,x)∈L
 | [],t,x,h=>by cases h
 |(d,y)::r,t,x,h=>by
  simp only[z06]at h;split at h;·simp_all
  exact mC _ (X07 h)
theorem Y0d:∀ {L:FL} {t:Nat} {x:List (Nat×Bool)×H00},(t,x)∈L->∃ y,z06 L t=some y
 |(d,y)::r,t,x,h=>by
  simp only[z06];split;·exact⟨_,rfl⟩
  rename_i a;rcases List.mem_cons.1 h with e|h;·simp_all
  exact Y0d h
theorem N0t{bs:List BE}{x:BE}(e:∀ y∈bs,y.j≠x.j){j:Nat}{b:BE}(h:H05 bs j=some b):H05 (x::bs) j=some b:=by
 simp only[H05];split;·rename_i d;obtain⟨a,c⟩:=J06 h;simp_all
 exact h
abbrev Asg:=Nat->List (Nat×Bool)×Bool×H00
structure Z0k (ops:List Oper) (A:Asg) (L:FL) (bs:List BE) (k:Nat):Prop where
 p1:∀ t x,(t,x)∈L->∃ i oi,i<k/\ops[i]?=some oi/\oi.dst=some t/\(A i).1=x.1/\(A i).2.2=x.2
 p2:∀ i oi d,i<k->ops[i]?=some oi->oi.dst=some d->∃ x,z06 L d=some x
 p3:∀ i,i<k->i<ops.length->cB bs (A i).1=some (A i).2.1
 p4:∀ x∈bs,x.j<k/\(∃ o,ops[x.j]?=some o/\o.dst=some x.d)/\(A x.j).1=x.ch/\(A x.j).2.2 = .pu (.val (.bool x.e))
structure l0d (bs bs':List BE):Prop where
 c:∀ ch c,cB bs ch=some c->cB bs' ch=some c
 e:∀ j b,H05 bs j=some b->H05 bs' j=some b
theorem l0d.refl(bs:List BE):l0d bs bs:=⟨λ_ _ h=>h,λ_ _ h=>h⟩
theorem l0d.trans{a b c:List BE}(d:l0d a b)(f:l0d b c):l0d a c:=⟨λch x h=>f.c ch x (d.c ch x h),λj b h=>f.e j b (d.e j b h)⟩
def OpU(P:Program)(st:St)(h:Hp)(L:FL)(bs:List BE)(o:Oper)(ch:List (Nat×Bool))(c:Bool):H00->Prop
 | .pu av=>x0d P L bs ch o st=some av∨∀ h',Sub h h'->imp ch c (Y0a L st h' ch o.op.operands.toList [] λfr=>z00 P o { st with fr:=fr } h' (X0u av { st with fr:=fr } h'))
 | .ef F=>(∀ v a b,Sub a b->F v a->F v b)/\∀ h',Sub h h'->imp ch c (Y0a L st h' ch o.op.operands.toList [] λfr=>m0o P o { st with fr:=fr } h' (Z0u { st with fr:=fr } h' F))
theorem n0v{d:Option Tmp}{ch:List (Nat×Bool)}{f:H00}{L:FL}{p:Nat×List (Nat×Bool)×H00}(h:p∈S0m d ch f L):(∃ s,d=some s/\p=(s,ch,f))∨p∈L:=by
 cases d with
 |none=>exact .inr h
 |some s =>rcases List.mem_cons.1 h with h|h;all_goals grind
theorem o0v{i:Nat}{d:Option Tmp}{ch:List (Nat×Bool)}{av:AV}{bs:List BE}{x:BE}(h:x∈T0m i d ch av bs):(∃ s e,d=some s/\av = .val (.bool e)/\x=⟨i,s,e,ch⟩)∨x∈bs:=by unfold T0m at h;grind
theorem p0v{i:Nat}{d:Option Tmp}{ch:List (Nat×Bool)}{av:AV}{bs:List BE}(f:∀ y∈bs,y.j<i):l0d bs (T0m i d ch av bs):=by
 unfold T0m;split
 ·split;·refine⟨λe c h=>W0q (λy a=>?_) h,λj b h=>N0t (λy a=>?_) h⟩<;>(grind)
  exact l0d.refl _
 exact l0d.refl _
theorem k0x(P:Program)(i:Nat)(L:FL)(bs:List BE)(st:St)(h:Hp)(K:St->Hp->Prop):evU P [] i L bs st h K=∀ h',Sub h h'->V0k h' L st.fr λfr=>K { st with fr:=fr } h':=by obtain⟨n,fr,bx,ow⟩:=st;rfl
theorem q0v(P:Program)(o:Oper)(l:List Oper)(i:Nat)(L:FL)(bs:List BE)(st:St)(h:Hp)(K:St->Hp->Prop)(a:evU P (o::l) i L bs st h K):
    ∃ ch c f,I01 bs o.guard=some ch/\cB bs ch=some c/\(OpU P st h L bs o ch c f/\∀ av,x0d P L bs ch o st=some av->f = .pu av)/\∃ k,k=(match f with
      | .pu av=>T0m i o.dst ch av bs
      | .ef _=>bs)/\evU P l (i+1) (S0m o.dst ch f L) k st h K:=by
  obtain⟨n,fr,bx,ow⟩:=st
  change (match I01 bs o.guard with
        |some ch=>match cB bs ch with
          |some c=>match x0d P L bs ch o ⟨n,fr,bx,ow⟩with
            |some av=>a06 av λav=>evU P l (i+1) (S0m o.dst ch (.pu av) L) (T0m i o.dst ch av bs) ⟨n,fr,bx,ow⟩ h K
            |none=>(∃ av,(∀ h',Sub h h'->imp ch c (Y0a L ⟨n,fr,bx,ow⟩ h' ch o.op.operands.toList [] λfr=>z00 P o ⟨n,fr,bx,ow⟩ h' (X0u av ⟨n,fr,bx,ow⟩ h'))) /\
                  a06 av λav=>evU P l (i+1) (S0m o.dst ch (.pu av) L) (T0m i o.dst ch av bs) ⟨n,fr,bx,ow⟩ h K) ∨
                (∃ d:Value->Hp->Prop,(∀ v e b,Sub e b->d v e->d v b) /\
                  (∀ h',Sub h h'->imp ch c (Y0a L ⟨n,fr,bx,ow⟩ h' ch o.op.operands.toList [] λfr=>m0o P o ⟨n,fr,bx,ow⟩ h' (Z0u ⟨n,fr,bx,ow⟩ h' d))) /\
                  evU P l (i+1) (S0m o.dst ch (.ef d) L) bs ⟨n,fr,bx,ow⟩ h K)
          |none=>False
        |none=>False)at a
  split at a
  · rename_i ch j
    split at a
    · rename_i c g
      split at a
      · rename_i av q
        rw[I06]at a
        exact⟨ch,c,.pu av,j,g,⟨.inl q,λs h'=>oG⟩,_,rfl,a⟩
      · rename_i t
        have m:∀(f:H00) av,x0d P L bs ch o ⟨n,fr,bx,ow⟩=some av->f = .pu av:=λf av h'=>oG
        rcases a with⟨av,e,b⟩|⟨d,e,b,p⟩
        · rw[I06]at b
          exact⟨ch,c,.pu av,j,g,⟨.inr e,m _⟩,_,rfl,b⟩
        · exact⟨ch,c,.ef d,j,g,⟨⟨e,b⟩,m _⟩,_,rfl,p⟩
    · exact a.elim
  · exact a.elim
theorem Z0i{P:Program}{ops:List Oper}{st:St}{h:Hp}{K:St->Hp->Prop}(am:∀(i j:Nat) (n Q:Oper) (d:Nat),ops[i]?=some n->ops[j]?=some Q->n.dst=some d->Q.dst=some d->i=j):
  ∀(l:List Oper) (k:Nat) (L:FL) (bs:List BE) (q:Asg),(∀ j,l[j]?=ops[k+j]?)->k+l.length=ops.length->Z0k ops q L bs k->evU P l k L bs st h K ->
   ∃(A:Asg) (J:FL) (v:List BE),(∀ i,i<k->A i=q i)/\l0d bs v/\Z0k ops A J v ops.length /\
    (∀ j o,k<=j->ops[j]?=some o->∃ R D,I01 v o.guard=some (A j).1/\Z0k ops A R D j/\l0d D v/\cB D (A j).1=some (A j).2.1/\(OpU P st h R D o (A j).1 (A j).2.1 (A j).2.2/\∀ av,x0d P R D (A j).1 o st=some av->(A j).2.2 = .pu av)) /\
    (∀ h',Sub h h'->V0k h' J st.fr λfr=>K { st with fr:=fr } h')
 | [],k,L,bs,q,V,ad,g,ac=>by
  have ae:k=ops.length:=by simpa using ad
  grind[l0d.refl,k0x,List.getElem?_eq_some_iff]
 |o::l,k,L,bs,q,V,ad,g,ac=>by
  have X:ops[k]?=some o:=by simpa using (V 0).symm
  have ar:∀ j,l[j]?=ops[k+1+j]?:=λj=>by have:=V (j+1);grind
  have ae:k+1+l.length=ops.length:=oG
  obtain⟨ch,c,f,u,ab,au,U,ap,aq⟩:=q0v P o l k L bs st h K ac
  let C:Asg:=λi=>if i=k then(ch,c,f)else q i
  have M:C k=(ch,c,f):=by simp[C]
  have Z:∀ i,i<k->C i=q i:=λi m=>oG
  have az:∀ y∈bs,y.j<k:=λy ax=>(g.p4 y ax).1
  have I:l0d bs U:=by
   grind[p0v,l0d.refl]
  have aw:Z0k ops C (S0m o.dst ch f L) U (k+1):=by
   refine⟨λt x a=>?_,λi n d m H O=>?_,λi m W=>?_,λx a=>?_⟩
   ·rcases n0v a with⟨ah,ag,e⟩|a
    ·grind
    ·obtain⟨i,n,s,E,F,G,al⟩:=g.p1 t x a
     grind
   ·rcases Nat.lt_or_ge i k with z|z
    ·obtain⟨x,a⟩:=g.p2 i n d z H O
     cases hd:o.dst with
     |none=>exact⟨x,a⟩
     |some ah=>exact Y0d (x:=x) (mC _ (X07 a))
    ·have:i=k:=oM
     subst this
     rw[X]at H;cases H
     rw[O]
     exact Y0d mS
   ·rcases Nat.lt_or_ge i k with z|z
    ·rw[Z i z];exact I.c _ _ (g.p3 i z W)
    ·have:i=k:=oM
     subst this
     rw[M];exact I.c _ _ ab
   ·subst ap
    cases f with
    |ef ay =>
     obtain⟨s,E,F,G⟩:=g.p4 x a
     grind
    |pu av =>
     rcases o0v a with⟨ah,e,ag,an,rfl⟩|a
     ·refine⟨nS _,⟨o,X,ag⟩,by rw[M],?_⟩
      rw[M,an]
     ·obtain⟨s,E,F,G⟩:=g.p4 x a
      grind
  obtain⟨A,J,v,aa,S,ai,aj,ak⟩:=Z0i am l (k+1) _ U C ar ae aw aq
  have T:A k=(ch,c,f):=by rw[aa k (nS _),M]
  have N:∀ i,i<k->A i=q i:=λi m=>by rw[aa i (Nat.lt_succ_of_lt m),Z i m]
  refine⟨A,J,v,N,I.trans S,ai,λj Q aA Y=>?_,ak⟩
  rcases Nat.lt_or_ge k j with af|af
  ·exact aj j Q af Y
  ·have:j=k:=oM
   subst this
   rw[X]at Y;cases Y
   refine⟨L,bs,?_,⟨λt x a=>?_,λi n d m H O=>g.p2 i n d m H O,λi m W=>?_,λx a=>?_⟩,I.trans S,by rw[T];exact ab,by rw[T];exact au⟩
   ·rw[T]
    cases hg:o.guard with
    |none=>rw[hg]at u;exact u
    |some p =>
     obtain⟨aB,w⟩:=p
     rw[hg]at u
     simp only[I01]at u ⊢
     split at u
     ·rename_i b ao
      rw[(I.trans S).e _ _ ao]
      exact u
     ·cases u
   ·obtain⟨i,n,s,E,F,G,al⟩:=g.p1 t x a
    grind
   ·rw[N i m];exact g.p3 i m W
   ·obtain⟨s,E,F,G⟩:=g.p4 x a
    exact⟨s,E,by rw[N _ s];exact F,by rw[N _ s];exact G⟩
section
variable {P:Program} {h0:Hp} {w0:World} {be:Nat->Nat} {oe:Nat->Value} {H:Hp} {st:St} {h:Hp} {a:Act} {w:World} {o:Oper} {K:AV->St->Hp->Prop} {Q:Exit->Act->World->Prop}
theorem E0o(i:Sim P h0 w0 be oe H st h a w){t n:Nat}{f:Array (Nat×Operand)}(m:o.op = .buildSlice t n f)(z:f.toList = [])(c:a0v P t n st h K):o.wp P a w (Nx P h0 w0 st be oe K a o.dst) Q:=by
 unfold a0v at c;split at c;rotate_left;·exact c.elim
 rename_i e u;split at c;rotate_left;·exact c.elim
 rename_i sz s k;have l:=Nat.eq_of_beq_eq_true k;subst l;have p:f = #[]:=oG;subst p;have v:wpS P (execOp a.eval o) h (λg h'=>∃ b,h b=none/\g = .value (.slice (some ⟨b,0,none⟩) 0 0)/\h'=h.set b (.cells #[] e (0,0))):=by unfold execOp;rw[m];refine f00 _ _ _ ?_;simp only[Instr.buildSlice,N2,r7 (z01 u),v03 s,Nat.zero_mul,D3];rw[if_neg oM];simp only[D3,if_true,Instr.fill,Array.map_empty,N2,newRow,newObj,wpS];exact λb d=>⟨b,d,rfl,by rw[show Array.range 0 = #[] from rfl,Array.map_empty]⟩
 obtain⟨g,h',A,q,⟨b,d,rfl,rfl⟩,j⟩:=P01 _ _ _ (z0b i) v;obtain⟨y,x⟩:=i.moved j;exact G9 q ⟨_,_,_,_,_,_,_,c b d,rfl,x,rfl,I8.refl _ _ _⟩
theorem F0o(m:Sim P h0 w0 be oe H st h a w){t:TypeId}{p q:Operand}{as:Array Operand}{S:Array TypeId}(M:o.op = .call { callee := .builtin .append,args:=as,argTypes:=S }) (G:as = #[p,q]) (O:S = #[t,t]) (d:b0v P t p q st h K):o.wp P a w (Nx P h0 w0 st be oe K a o.dst) Q:=by
 unfold b0v at d;split at d;rotate_left;·exact d.elim
 rename_i e ab;split at d;rotate_left;·exact d.elim
 rename_i sz by_ z aa T ad;split at d;rotate_left;·exact d.elim
 rename_i ae;obtain⟨i,y,D,ah,aj⟩:=X0d aa T ad;have A:=z01 ab;have af:z.cells.size=i.size:=by rw[D];simpa using o05 _ _ ae
 have g:=m.rdO p;split at d;rotate_left;·exact d.elim
 rename_i n s Z;rw[Z]at g;have v:a.eval p = .slice (some ⟨n,s,none⟩) 0 0:=g;obtain⟨b,⟨N,X,L⟩,l⟩:=q08 m (Nat.succ_pos sz) d;have ag:i.size=sz+1:=D;have ai:i.bytes=by_+1:=ah;rw[←D]at l;rw[←ag]at L;rw[←ai]at N;have U:0<i.bytes:=oG;have an:b.length<=140737488355328:=Nat.le_trans (Nat.le_mul_of_pos_right _ U) N;have Y:((0+b.length:Nat):Int)<=9223372036854775807:=oM;have J:=S02 b (λx C=>(l.1 x C).1);have R:=z0b m;by_cases hn:b = []
 ·have k:(Builtin.append_ #[t,t] o.type #[.slice (some ⟨n,s,none⟩) 0 0,a.eval q]).run P w = .ok (.slice (some ⟨n,s,none⟩) 0 0) w:=by
   subst hn;rcases l.2 with⟨E,c,f,I⟩|⟨c,f,_⟩;·rw[f];simp[Builtin.append_,run_underlying A,sizeOf,typeInfo,y,Builtin.lenOf,Builtin.firstCells,loadCells,loadCellsFrom,storeCells]
   rw[f];simp[Builtin.append_,run_underlying A,sizeOf,typeInfo,y,Builtin.lenOf,Builtin.firstCells,storeCells]
  rw[←v]at k;exact G9 (J05 M G O k) ⟨_,_,h,_,_,_,_,X hn,rfl,m,v,I8.refl _ _ _⟩
 rcases l.2 with⟨E,F,f,I⟩|⟨F,f,ac⟩;rotate_left;·exact absurd ac hn
 have ao:0<b.length:=by grind
 have k:=run_append_grow (P:=P) w t o.type e i z A y aj ⟨n,s,none⟩ 0 0 [] oS (λj u W=>by simp at W) E b.length F b.flatten J I oM Y (growslice_fits oM (by grind[H09]));have am:=grownCap_ge w (0+b.length) 0 e;have V:grownCap w (0+b.length) 0 e<=maxLen:=grownCap_le_maxLen w _ 0 e (by unfold maxLen;omega);rw[←f,←v]at k;obtain⟨al,ak⟩:=m.moved (T2.newD R (.cells ([].toArray++b.flatten.toArray++Builtin.zeroCells z.cells (grownCap w (0+b.length) 0 e-(0+b.length))) e (0,0)) rfl);refine G9 (J05 M G O k) ⟨_,_,_,_,_,_,_,L _ _ ⟨λx C=>l.1 x C,.inr ⟨w.heap.size,grownCap w (0+b.length) 0 e,_,?_,Z04 R,rfl,oM,V,?_,?_⟩⟩,rfl,ak,rfl,I8.refl _ _ _⟩;·rw[Nat.zero_add]
 ·simp only[Array.size_append,List.size_toArray,J,size_zeroCells,af,List.length_nil,←Nat.add_mul,Nat.zero_add];grind
 grind
theorem G0o(e:Sim P h0 w0 be oe H st h a w)(b:m0o P o st h K):o.wp P a w (Nx P h0 w0 st be oe K a o.dst) Q:=by
 unfold m0o at b;split at b;·grind[E0o,H02]
 ·rename_i as j d;split at b
  ·rename_i x y t i f g;split at b;·rename_i c;have:=Nat.eq_of_beq_eq_true c;subst this;exact F0o e d oG oG b
   exact b.elim
  exact b.elim
 grind[H02]
end
section
variable {P:Program} {h0:Hp} {w0:World} {be:Nat->Nat} {oe:Nat->Value} {H:Hp} {h:Hp} {a:Act} {w:World}
def i0n(st:St)(be:Nat->Nat)(oe:Nat->Value)(h:Hp)(bs:List BE)(x:List (Nat×Bool)×H00)(v:Value):Prop:=cB bs x.1=some true->x09 st be oe h x.2 v
theorem p04{L:FL}{st:St}{h:Hp}{bs:List BE}{ch:List (Nat×Bool)}{val:Nat->Value}{K:List (Nat×AV)->Prop}(d:cB bs ch=some true):∀ {l:List Operand} {acc:List (Nat×AV)},
  (∀ t,J2 st be oe (L3 acc t) (val t))->(∀ t,Operand.tmp t∈l->(∀ x,z06 L t=some x->i0n st be oe h bs x (val t))/\(z06 L t=none->J2 st be oe (L3 st.fr t) (val t))) ->
  Y0a L st h ch l acc K->∃ fr,K fr/\∀ t,J2 st be oe (L3 fr t) (val t)
 | [],acc,c,b,a=>⟨acc,a,c⟩
 | .tmp t::r,acc,c,b,a=>by
  have j:∀ u,Operand.tmp u∈r->_:=λu i=>b u (mC _ i)
  have k:=b t mS
  have put:∀ av,J2 st be oe av (val t)->∀ u,J2 st be oe (L3 ((t,av)::acc) u) (val u):=λav g u=>by
   grind[F4]
  simp only[Y0a]at a
  split at a
  ·rename_i o f e
   split at a
   ·rename_i m
    have hf:=k.1 _ e (M0c m d)
    cases f with
    |pu av=>exact p04 d (put av hf) j a
    |ef n=>exact p04 d (put (.val (val t)) rfl) j (a _ hf)
   ·exact a.elim
  ·rename_i e
   exact p04 d (put _ (k.2 e)) j a
 | .const v::r,acc,c,b,a=>p04 (l:=r) d c (λu i=>b u (mC _ i)) a
 | .global v::r,acc,c,b,a=>p04 (l:=r) d c (λu i=>b u (mC _ i)) a
 | .func v::r,acc,c,b,a=>p04 (l:=r) d c (λu i=>b u (mC _ i)) a
theorem x0l{st:St}{val:Nat->Value}{K:List (Nat×AV)->Prop}:∀ {L:FL} {fr:List (Nat×AV)},(∀ p∈L,p.2.1 = []->x09 st be oe h p.2.2 (val p.1)) -> (∀ t,(∀ x,(t,x) ∉ L)->J2 st be oe (L3 fr t) (val t))->V0k h L fr K->∃ fr,K fr/\∀ t,J2 st be oe (L3 fr t) (val t)
 | [],fr,b,c,a=>⟨fr,a,λt=>c t oS⟩
 |(d,ch,f)::r,fr,b,c,a=>by
  have step:∀ av,J2 st be oe av (val d)->V0k h r ((d,av)::fr) K->∃ fr,K fr/\∀ t,J2 st be oe (L3 fr t) (val t):=λav g a =>
   x0l (L:=r) (fr:=(d,av)::fr) (λp e=>b p (mC _ e)) (λt j=>by
    grind[F4]) a
  cases ch with
  |nil =>
   have hf:=b (d,[],f) mS rfl;cases f with
   |pu av=>exact step av hf a
   |ef i=>exact step (.val (val d)) rfl (a _ hf)
  |cons p q =>refine step .dead trivial ?_;cases f<;>exact a
theorem r0v{st:St}{L:FL}{bs:List BE}{ch:List (Nat×Bool)}{o:Oper}{av:AV}(c:x0d P L bs ch o st=some av)(z:cB bs ch=some true) (an:∀ t,(∀ x,z06 L t=some x->i0n st be oe h bs x (a.tmps.getD t undef))/\(z06 L t=none->J2 st be oe (L3 st.fr t) (a.tmps.getD t undef))∨Operand.tmp t ∉ o.op.operands) (az:∀ x∈bs,∀ y,z06 L x.d=some y->y=(x.ch,.pu (.val (.bool x.e)))) (ai:∀ x∈bs,H05 bs x.j=some x) (ax:∀ x∈bs,∃ y,z06 L x.d=some y) (U:∀ {fr:List (Nat×AV)},(∀ t,J2 st be oe (L3 fr t) (a.tmps.getD t undef))->Sim P h0 w0 be oe H { st with fr:=fr } h a w) {Q:Exit->Act->World->Prop} : o.wp P a w (λF l=>∃ v be' oe' D,F=a.put o.dst v/\(∃ fr,Sim P h0 w0 be' oe' D { st with fr:=fr } h a l)/\I8 st be oe st be' oe'/\J2 st be' oe' av v) Q:=by
 have I:Sim P h0 w0 be oe H { st with fr:=[] } h a w:=U (λt=>trivial);have rd:∀(x:Operand) (J:List (Nat×Bool)),cB bs J=some true->(∀ t,x = .tmp t->Operand.tmp t∈o.op.operands)->J2 st be oe (rdU L st J x) (a.eval x):=by
  intro x J ag f;cases x with
  |tmp t =>
   have Z:=(an t).resolve_right (λC=>C (f t rfl));simp only[rdU];split
   ·rename_i au A e;split
    ·rename_i S;have:=Z.1 _ e (M0c S ag);have g:J2 st be oe A (a.tmps.getD t undef):=this;have s:=I.rdA (J2.fr (st:=st) (fr:=[]) g);have p:rdA { st with fr:=[] } A=rdA st A:=by obtain⟨n,fr,bx,ow⟩:=st;cases A<;>rfl
     rw[p]at s;exact J2.fr (st := { st with fr:=[] }) (fr:=st.fr) s
    trivial
   ·trivial
   rename_i e;have g:=Z.2 e;have s:=I.rdA (J2.fr (st:=st) (fr:=[]) g);have p:rdA { st with fr:=[] } (L3 st.fr t)=rdA st (L3 st.fr t):=by obtain⟨n,fr,bx,ow⟩:=st;cases L3 fr t<;>rfl
   rw[p]at s;exact J2.fr (st := { st with fr:=[] }) (fr:=st.fr) s
  |const v=>exact rfl
  |global v=>trivial
  |func v=>exact rfl
 have done:∀ {v:Value},(∀ l,(execOp a.eval o).run P l = .ok (.value v) l ∨ ¬ Vis H l)->J2 st be oe av v->o.wp P a w (λF l=>∃ v be' oe' D,F=a.put o.dst v/\(∃ fr,Sim P h0 w0 be' oe' D { st with fr:=fr } h a l)/\I8 st be oe st be' oe'/\J2 st be' oe' av v) Q:=λ{v} m g =>
  G9 ((m w).resolve_right λC=>C I.mv.vis) ⟨v,be,oe,H,rfl,⟨[],I⟩,I8.refl _ _ _,g⟩
 unfold x0d at c;split at c;·rename_i x f;have g:=rd x ch z (λt e=>by rw[f];simp[Op.operands,e]);refine done (v:=a.eval x) (λl => .inl (by unfold execOp;rw[f];rfl)) ?_;revert c;cases m:rdU L st ch x<;>intro c<;>first|(cases c;done)|(cases c;rw[m]at g;exact g)
 ·rename_i x f;have g:=rd x ch z (λt e=>by rw[f];simp[Op.operands,e]);refine done (v:=a.eval x) (λl => .inl (by unfold execOp;rw[f];rfl)) ?_;revert c;cases m:rdU L st ch x<;>intro c<;>first|(cases c;done)|(cases c;rw[m]at g;exact g)
 ·rename_i t x f;have g:=rd x ch z (λt e=>by rw[f];simp[Op.operands,e]);split at c
  ·rename_i i off m;rw[m]at g;split at c
   ·rename_i cs ty C;have ap:∃ u,x = .tmp u:=by
     cases x with
     |tmp u=>exact⟨u,rfl⟩
     |const v=>simp[rdU,rdO]at m
     |global v=>simp[rdU,rdO]at m
     |func v=>simp[rdU,rdO]at m
    obtain⟨u,rfl⟩:=ap;have ah:z00 P o { st with fr:=[(u,.box i off)] } h λT st' h'=>T=av/\st' = { st with fr:=[(u,.box i off)] }/\h'=h:=by
     have al:rdO { st with fr:=[(u,.box i off)] } (.tmp u) = .box i off:=by show rdA _ (L3 [(u,AV.box i off)] u)=_;rw[F4,if_pos rfl];simp only[rdA,C]
     simp only[z00,f,al,C];grind[L0i,h08,K0m,o7]
    have s1:=U (fr:=[(u,.box i off)]) (λaA=>by
     rw[F4];split;·rename_i e;subst e;exact g
     trivial)
    refine Oper.wp_mono (λF l f=>?_) (H02 s1 ah);obtain⟨T,st',aw,v,be',oe',D,⟨K,p,ad⟩,af,s2,s,G⟩:=f;rw[p,ad]at s2;rw[K,p]at s;rw[p]at G;exact⟨v,be',oe',D,af,⟨_,s2⟩,⟨G.bl,G.be,G.sm⟩,J2.fr (st := { st with fr:=[(u,.box i off)] }) (fr:=st.fr) s⟩
   cases c
  cases c
 ·rename_i t x k f;have g:=rd x ch z (λt e=>by rw[f];simp[Op.operands,e]);split at c
  ·rename_i i off M m Y;rw[m]at g;cases c;refine done (v:=ptr (be i) (off+M)) (λl=>?_) ⟨g.1,rfl⟩;by_cases hvis:Vis H l;·exact .inl (R.run_of (R.exec_fieldAddr (H:=H) f Y g.2) l hvis)
   exact .inr hvis
  ·rename_i sl j sz ar M m Y;rw[m]at g;cases c;obtain⟨b,aa,n,ac,K,p⟩:=g;refine done (v:=ptr b (aa+(j.toNat*sz+ar)+M)) (λl=>?_) ⟨b,aa,n,ac,K,by simp[Nat.add_assoc]⟩;grind[Vis,R.run_of,R.exec_fieldAddr]
  cases c
 ·rename_i ab x y f;have g:=rd (.tmp ab) ch z (λt e=>by rw[f];cases e;simp[Op.operands]);split at c
  ·rename_i e q S ak;rw[S]at g;have ae:a.eval (.tmp ab) = .bool e:=g;split at c
   ·rename_i am;obtain⟨aj,ay⟩:=y0g ak;have W:=M0c am z;have X:q.e=e:=by grind[rdU,bool,Go.H.rdA]
    have V:=ai q aj;split at c
    ·rename_i bx by_ ao aq;cases c;refine done (v := .bool (cond e bx by_)) (λl => .inl ?_) rfl;unfold execOp;rw[f];simp only[ae,Sem.run_bind,asBool,Sem.run_pure,Result.andThen_ok];cases e
     ·have O:cB bs ((q.j,false)::q.ch)=some true:=by rw[P07,V,W];simp[lit,X]
      have E:=rd y _ O (λt e=>by rw[f];simp[Op.operands,e]);rw[aq]at E;have N:a.eval y = .bool by_:=E;simp[N]
     have O:cB bs ((q.j,true)::q.ch)=some true:=by rw[P07,V,W];simp[lit,X]
     have E:=rd x _ O (λt e=>by rw[f];simp[Op.operands,e]);rw[ao]at E;have N:a.eval x = .bool bx:=E;simp[N]
    cases c
   cases c
  cases c
 cases c
theorem Sim.untail{st:St}{t:List Own}(c:Sim P h0 w0 be oe H { st with ow:=st.ow++t } h a w)(hf:∀ u,J2 st be oe (L3 st.fr u) (a.tmps.getD u undef)) (m:∀ i cs ty,nth st.bx i=some (.live cs ty)->∃ vs,C2 st oe cs vs/\H (be i)=some (.cells vs.toArray ty (0,0))):Sim P h0 w0 be oe H st h a w:=by
 have up:∀ i o,nth st.ow i=some o->nth (st.ow++t) i=some o:=λi o b=>by grind[n08,List.getElem?_append_left,List.getElem?_eq_some_iff]
 refine⟨c.mv,c.sub,λi cs ty b=>⟨(c.box i cs ty b).1,m i cs ty b⟩,c.pub,λi f e sz by_ nn xs b=>c.own i f e sz by_ nn xs (up i _ b),λi f v b=>c.frz i f v (up i _ b),c.bb,
  λi j s1 e sz by_ nn xs s2 l p k n q g b d=>c.oo i j s1 e sz by_ nn xs s2 l p k n q g (up i _ b) (up j _ d),λi cs ty j s1 e sz by_ nn xs b d=>c.bo i cs ty j s1 e sz by_ nn xs b (up j _ d),c.dfr,c.siz,hf⟩
def Z0d(P:Program)(h0:Hp)(w0:World)(ops:Array Oper)(st:St)(h:Hp)(A:Asg)(sk:Nat->Bool)(kp:List (Nat×Value))(b:Array Bool)(a:Act)(w:World):Prop :=
 ∃ be oe H h',Sub h h'/\Sim P h0 w0 be oe H { st with fr:=V5 ops.toList st.fr } h' a w/\(∀ p∈kp,a.tmps.getD p.1 undef=p.2) /\
  ∀ j o d,sk j=false->ops[j]?=some o->o.dst=some d->b.getD j false=true->((A j).2.1=true->x09 st be oe h' (A j).2.2 (a.tmps.getD d undef))/\((A j).2.1=false->a.tmps.getD d undef=undef)
theorem l0x{st st':St}(t:P0q st st'):∃ r,st' = { st with ow:=st.ow++r }:=by obtain⟨n,fr,bx,ow⟩:=st;obtain⟨g,b,a,h⟩:=st';obtain⟨c,d,e,r,f⟩:=t;grind
theorem m0x{b:Type}{l r:List b}{i:Nat}(a:i<l.length):nth (l++r) i=nth l i:=by rw[n08,n08,List.getElem?_append_left a]
theorem y0l{st:St}{r:List Own}{i a:Nat}(b:stamp st i=some a):stamp { st with ow:=st.ow++r } i=some a:=by grind[stamp,nth,m0x,o04]
theorem j0y{ops:Array Oper}{st:St}{A:Asg}{sk:Nat->Bool}{kp:List (Nat×Value)}{bj:FL}{ak:List BE}{X:Array Bool}{j:Nat}{o:Oper}{Q:Exit->Act->World->Prop} (bz:∀(i j:Nat) (f a5:Oper) (d:Nat),ops.toList[i]?=some f->ops.toList[j]?=some a5->f.dst=some d->a5.dst=some d->i=j) (am:∀ o∈ops.toList,∀ d,o.dst=some d->d<st.n) (bv:∀(k:Nat) (o:Oper),ops.toList[k]?=some o->∀ e∈o.after,Region.binds .any e=true->e.on<k) (aU:∀ o∈ops.toList,∀ t,Operand.tmp t∈o.op.operands->∀(i:Nat) (f:Oper),ops.toList[i]?=some f->f.dst=some t->∃ e∈o.after,Region.binds .any e=true/\e.on=i) (bJ:∀ o∈ops.toList,∀ i w,o.guard=some (i,w)->n02 i o=true) (au:Z0k ops.toList A bj ak ops.toList.length) (aR:∀ j o,ops.toList[j]?=some o->∃ T E,I01 ak o.guard=some (A j).1/\Z0k ops.toList A T E j/\l0d E ak/\cB E (A j).1=some (A j).2.1/\(OpU P st h T E o (A j).1 (A j).2.1 (A j).2.2/\∀ av,x0d P T E (A j).1 o st=some av->(A j).2.2 = .pu av)) (cg:sk j=false) (cj:∀(i:Nat) (f:Oper) (d:Nat),ops.toList[i]?=some f->f.dst=some d->sk i=true->∀ D∈ops.toList,Operand.tmp d ∉ D.op.operands) (bU:∀ i,sk i=true->(A i).2.2 = .pu (.val undef)) (ci:∀ p∈kp,∃(i:Nat) (f:Oper),ops.toList[i]?=some f/\f.dst=some p.1/\sk i=true) (aW:ops[j]?=some o) (aY:∀ e∈o.after,Region.binds .any e=true->X.getD e.on false=true) (ai:Z0d P h0 w0 ops st h A sk kp X a w) : (Region.wanted o (yielded ops a.tmps)=true->o.wp P a w (Z0d P h0 w0 ops st h A sk kp (X.setIfInBounds j true)) Q) /\ (Region.wanted o (yielded ops a.tmps)=false->Z0d P h0 w0 ops st h A sk kp (X.setIfInBounds j true) (a.put o.dst undef) w):=by
 obtain⟨be,oe,H,h',aH,ae,keep,aA⟩:=ai;have an:ops.toList[j]?=some o:=by simpa using aW
 have al:o∈ops.toList:=List.mem_of_getElem? an;have aV:j<ops.toList.length:=(List.getElem?_eq_some_iff.1 an).1;obtain⟨T,E,ac,W,bY,aw,L,_⟩:=aR j o an;have ah:cB ak (A j).1=some (A j).2.1:=au.p3 j aV aV;have a1:Region.wanted o (yielded ops a.tmps)=(A j).2.1:=by
  unfold Region.wanted;cases hg:o.guard with
  |none =>
   rw[hg]at ac;cases hch':(A j).1 with
   |nil=>rw[hch']at ah;exact oJ ah
   |cons p q=>rw[hch']at ac;cases ac
  |some p =>
   obtain⟨i,aN⟩:=p;rw[hg]at ac;simp only[I01]at ac;split at ac
   ·rename_i b J;obtain⟨bN,rfl⟩:=J06 J;obtain⟨F,⟨D,s,N⟩,ap,ag⟩:=au.p4 b bN;have aF:X.getD b.j false=true:=by obtain⟨e,R,bB,ao⟩:=r03 (bJ o al b.j aN hg);rw[←ao];exact aY e R bB
    have bS:sk b.j=false:=by
     cases e:sk b.j;·rfl
     rw[bU b.j e]at ag;cases ag
    have hf:=aA b.j D b.d bS (by simpa using s) N aF;have aS:=au.p3 b.j F F;rw[ap]at aS;have ad:b.d<a.tmps.size:=by rw[ae.siz];exact am D (List.mem_of_getElem? s) b.d N
    have aK:a.tmps[b.d]?=some (if(A b.j).2.1=true then .bool b.e else undef):=by
     rw[Array.getElem?_eq_getElem ad];have bK:a.tmps.getD b.d undef=a.tmps[b.d]:=by simp[ad]
     cases K:(A b.j).2.1;·grind
     have:=hf.1 K;rw[ag,bK]at this;have I:a.tmps[b.d] = .bool b.e:=this;rw[I];rfl
    have aL:yielded ops a.tmps b.j=if(A b.j).2.1=true then some b.e else none:=by
     unfold yielded;have:ops[b.j]?=some D:=by simpa using s
     simp only[this,N,oB,aK];cases (A b.j).2.1<;>rfl
    have bG:(A j).1=(b.j,aN)::b.ch:=by grind
    rw[bG,P07,J,aS]at ah;simp only[Option.some.injEq]at ah;simp only[aL,←ah];cases (A b.j).2.1<;>cases aN<;>cases b.e<;>rfl
   cases ac
 have b5:∀ i f,ops.toList[i]?=some f->∀ Z,(A i).2.2 = .ef Z->∀ v G I,Sub G I->Z v G->Z v I:=λi f ax Z bA=>by obtain⟨b6,ca,_,_,_,_,aX,_⟩:=aR i f ax;rw[bA]at aX;exact aX.1
 have fin:∀ {fr:List (Nat×AV)} {af:Act} {S:World} {O:Hp} {be':Nat->Nat} {oe':Nat->Value} {M:Hp} {v:Value},Sub h' O->af=a.put o.dst v->Sim P h0 w0 be' oe' M { st with fr:=fr } O a S ->
   I8 st be oe st be' oe'->((A j).2.1=true->x09 st be' oe' O (A j).2.2 v)->((A j).2.1=false->v=undef)->Z0d P h0 w0 ops st h A sk kp (X.setIfInBounds j true) af S:=by
  intro fr af S O be' oe' M v a0 ab b2 aq aK bV
  subst ab
  have bt:I8 { st with fr:=V5 ops.toList st.fr } be oe { st with fr:=V5 ops.toList st.fr } be' oe':=⟨aq.bl,aq.be,aq.sm⟩
  have s1:Sim P h0 w0 be' oe' M { st with fr:=V5 ops.toList st.fr } O a S :=
   b2.refr (fr:=V5 ops.toList st.fr) λt=>J2.fr (st := { st with fr:=V5 ops.toList st.fr }) ((ae.fr t).grow bt)
  have s2:Sim P h0 w0 be' oe' M { st with fr:=V5 ops.toList st.fr } O (a.put o.dst v) S:=by
   cases V:o.dst with
   |none=>exact s1
   |some d =>
    have aG:=s1.put (d:=d) (av := .dead) (v:=v) (am o al d V) trivial
    refine aG.refr (fr:=V5 ops.toList st.fr) λt=>?_
    have g:=aG.fr t
    grind[F4,K04]
  have ct:∀ d,o.dst≠some d->(a.put o.dst v).tmps.getD d undef=a.tmps.getD d undef:=λd V=>by
   cases aD:o.dst with
   |none=>rfl
   |some U=>simp[Act.put,Array.getElem?_setIfInBounds_ne (λe=>V (by rw[aD,e]):U≠d)]
  refine⟨be',oe',M,O,λb x J=>a0 b x (aH b x J),s2,λp aG=>?_,λi f d aJ G I aQ=>?_⟩
  ·grind
  by_cases hij:j=i
  ·subst hij
   rw[aW]at G;cases G
   have ad:d<a.tmps.size:=by rw[ae.siz];exact am o al d I
   have:(a.put o.dst v).tmps.getD d undef=v:=by
    rw[I]
    simp[Act.put,ad]
   rw[this]
   exact⟨aK,bV⟩
  ·have bM:X.getD i false=true:=by rw[getD_set_ne false hij]at aQ;exact aQ
   have bP:∀ U,o.dst=some U->U≠d:=λU aD e=>by
    subst e
    exact hij (bz j i o f U an (by simpa using G) aD I)
   have:(a.put o.dst v).tmps.getD d undef=a.tmps.getD d undef:=by
    cases V:o.dst with
    |none=>rfl
    |some U=>simp[Act.put,Array.getElem?_setIfInBounds_ne (bP U V)]
   rw[this]
   obtain⟨aj,bZ⟩:=aA i f d aJ G I bM
   refine⟨λK=>?_,bZ⟩
   have aj:=aj K
   cases hA:(A i).2.2 with
   |pu av=>rw[hA]at aj;exact J2.grow aq aj
   |ef Z=>rw[hA]at aj;exact b5 i f (by simpa using G) Z hA _ _ _ a0 aj
 refine⟨λbX=>?_,λbW=>?_⟩;rotate_left
 ·have K:(A j).2.1=false:=by rw[←a1];exact bW
  exact fin (fr:=V5 ops.toList st.fr) (λ_ _ h=>h) rfl ae (I8.refl _ _ _) (λh=>by rw[K]at h;cases h) (λ_=>rfl)
 have K:(A j).2.1=true:=by rw[←a1];exact bX
 rw[K]at aw L;have cf:cB ak (A j).1=some true:=by rw[ah,K]
 have b4:∀ t x,z06 T t=some x->i0n st be oe h' E x (a.tmps.getD t undef)∨Operand.tmp t ∉ o.op.operands:=λt x m=>by
  by_cases C:Operand.tmp t∈o.op.operands
  ·refine .inl λbI=>?_;obtain⟨i,f,F,s,N,ap,ag⟩:=W.p1 t x (X07 m);obtain⟨e,R,J,ao⟩:=aU o al t C i f s N;have aF:X.getD i false=true:=by rw[←ao];exact aY e R J
   have bH:(A i).2.1=true:=by have G:=au.p3 i (List.getElem?_eq_some_iff.1 s).1 (List.getElem?_eq_some_iff.1 s).1;rw[ap,bY.c _ _ bI]at G;exact(oJ G).symm
   have aJ:sk i=false:=by grind
   have:=(aA i f t aJ (by simpa using s) N aF).1 bH;rwa [ag]at this
  exact .inr C
 have br:∀ t,Operand.tmp t∈o.op.operands->z06 T t=none->J2 st be oe (L3 st.fr t) (a.tmps.getD t undef):=λt C bQ=>by
  have g:=ae.fr t;have bO:L3 (V5 ops.toList st.fr) t=L3 st.fr t:=w03 λD bR V=>by
   obtain⟨i,ai,e⟩:=List.getElem_of_mem bR;have ax:ops.toList[i]?=some D:=by rw[List.getElem?_eq_getElem ai,e]
   obtain⟨bq,R,J,ao⟩:=aU o al t C i D ax V;have ad:=bv j o an bq R J;rw[ao]at ad;obtain⟨x,m⟩:=W.p2 i D t ad ax V;rw[bQ]at m;cases m
  rw[←bO];exact J2.fr (st := { st with fr:=V5 ops.toList st.fr }) (fr:=st.fr) g
 have a6:∀ t,Operand.tmp t∈o.op.operands->(∀ x,z06 T t=some x->i0n st be oe h' E x (a.tmps.getD t undef))/\(z06 T t=none->J2 st be oe (L3 st.fr t) (a.tmps.getD t undef)):=λt C =>
  ⟨λx m=>(b4 t x m).resolve_right λam=>am C,br t C⟩
 have mk:∀ {fr:List (Nat×AV)},(∀ t,J2 st be oe (L3 fr t) (a.tmps.getD t undef))->Sim P h0 w0 be oe H { st with fr:=fr } h' a w:=λ{fr} g=>ae.refr (fr:=fr) λt=>J2.fr (g t);cases hA:(A j).2.2 with
 |pu av =>
  rw[hA]at L;rcases L with L|L
  ·refine Oper.wp_mono (λaf S m=>?_) (r0v (be:=be) (oe:=oe) (H:=H) (h:=h') L aw (λt=>?_) (λx m y aL=>?_) (λx m=>?_) (λx m=>?_) mk);·obtain⟨v,be',oe',M,ab,⟨fr,s2⟩,aa,s⟩:=m;exact fin (λ_ _ h=>h) ab s2 aa (λ_=>by rw[hA];exact s) (λh=>by rw[K]at h;cases h)
   ·grind
   ·obtain⟨F,⟨D,s,N⟩,ap,ag⟩:=W.p4 x m;obtain⟨i,f,a3,a4,ck,cl,cm⟩:=W.p1 x.d y (X07 aL);grind
   ·have aM:∀(l:List BE),x∈l->∃ b,H05 l x.j=some b:=by
     intro l;induction l with
     |nil=>intro h;cases h
     |cons z l a2 =>
      intro h;simp only[H05];split;·exact⟨_,rfl⟩
      grind[absurd,Nat.ne_of_beq_eq_false]
    obtain⟨b,J⟩:=aM E m;obtain⟨bD,bC⟩:=J06 J;obtain⟨_,⟨cn,ay,aO⟩,aP,az⟩:=W.p4 b bD;obtain⟨_,⟨co,bm,bn⟩,bo,bp⟩:=W.p4 x m;rw[bC]at ay aP az;rw[bm]at ay;cases ay;rw[bn]at aO;rw[bp]at az;have cc:x.d=b.d:=by simpa using aO
    have cd:x.ch=b.ch:=bo.symm.trans aP;have ce:x.e=b.e:=by simpa using az
    rw[J];obtain⟨cb,b8,be',b7⟩:=b;obtain⟨cz,cx,cy,cw⟩:=x;grind
   obtain⟨F,⟨D,s,N⟩,_,_⟩:=W.p4 x m;exact W.p2 x.j D x.d F s N
  obtain⟨fr,R,g⟩:=p04 (acc:=[]) (be:=be) (oe:=oe) (val:=λt=>a.tmps.getD t undef) aw (λt=>trivial) (λt C=>a6 t (by simpa using C)) (G0b (bs:=E) (L h' aH) rfl);refine Oper.wp_mono (λaf S m=>?_) (H02 (mk g) R);obtain⟨bk,st',O,v,be',oe',M,⟨rfl,rfl,rfl⟩,ab,s2,s,aa⟩:=m;exact fin (λ_ _ h=>h) ab s2 ⟨aa.bl,aa.be,aa.sm⟩ (λ_=>by rw[hA];exact J2.fr (st := { st with fr:=fr }) (fr:=st.fr) s) (λh=>by rw[K]at h;cases h)
 |ef Z =>
  rw[hA]at L;obtain⟨_,L⟩:=L;obtain⟨fr,R,g⟩:=p04 (acc:=[]) (be:=be) (oe:=oe) (val:=λt=>a.tmps.getD t undef) aw (λt=>trivial) (λt C=>a6 t (by simpa using C)) (G0b (bs:=E) (L h' aH) rfl);refine Oper.wp_mono (λaf S m=>?_) (G0o (mk g) R);obtain⟨bk,st',O,v,be',oe',M,bL,ab,s2,s,aa⟩:=m;obtain⟨cq,I,⟨C,a3,a4⟩,bh,bu⟩:=I05 s2 s bL;obtain⟨r,rfl⟩:=l0x C;have ar:I8 st be oe st be' oe':=by have aC:=aa.trans bu;refine⟨aC.bl,aC.be,λi bg aZ=>?_⟩;obtain⟨s1,ba,cp,bb⟩:=aC.sm i bg aZ;have bc:stamp { n:=st.n,fr:=fr,bx:=st.bx,ow:=st.ow++r } i=some bg:=y0l (st := { st with fr:=fr }) aZ;grind
  have bE:∀ i cs ty,nth st.bx i=some (.live cs ty)->∃ vs,C2 { st with fr:=fr } oe' cs vs/\M (be' i)=some (.cells vs.toArray ty (0,0)):=λi cs ty ai=>by
   obtain⟨_,Y,ba,_⟩:=ae.box i cs ty ai;obtain⟨_,vs,bb,bc⟩:=bh.box i cs ty ai;refine⟨vs,?_,bc⟩;have aM:∀(cs:List S6) (Y vs:List Value),C2 { st with fr:=V5 ops.toList st.fr } oe cs Y->C2 { n:=st.n,fr:=fr,bx:=st.bx,ow:=st.ow++r } oe' cs vs->C2 { st with fr:=fr } oe' cs vs:=by
    intro cs;induction cs with
    |nil=>intro Y vs _ g;cases vs with
     |nil=>trivial
     |cons v vs=>exact g.elim
    |cons c cs a2 =>
     intro Y vs aB F;cases Y with
     |nil=>exact aB.elim
     |cons cu Y =>
      cases vs with
      |nil=>exact F.elim
      |cons cv vs =>
       refine⟨?_,a2 Y vs aB.2 F.2⟩;cases c with
       |val x=>exact F.1
       |own k s1 =>obtain⟨bi,bd,_,_⟩:=aB.1;obtain⟨cr,bf,r3,b0⟩:=F.1;have b1:stamp { n:=st.n,fr:=fr,bx:=st.bx,ow:=st.ow++r } k=some bi:=y0l (st := { st with fr:=fr }) bd;rw[b1]at bf;cases bf;exact⟨bi,bd,r3,b0⟩
   exact aM cs Y vs ba bb
  have b3:Sim P h0 w0 be' oe' M { st with fr:=fr } I a S:=Sim.untail (st := { st with fr:=fr }) (t:=r) bh (λu=>J2.grow (st := { st with fr:=fr }) (st' := { st with fr:=fr }) ⟨ar.bl,ar.be,ar.sm⟩ (J2.fr (g u))) bE;exact fin (fr:=fr) a3 ab b3 ar (λ_=>by rw[hA];exact a4) (λh=>by rw[K]at h;cases h)
theorem Z0d.start{ops:Array Oper}{st:St}{A:Asg}{sk:Nat->Bool}(f:Sim P h0 w0 be oe H st h a w):Z0d P h0 w0 ops st h A sk [] (Array.replicate ops.size false) a w:=by
 refine⟨be,oe,H,h,λ_ _ h=>h,f.refr (fr:=V5 ops.toList st.fr) λt=>?_,λp k=>(by cases k),λj o d _ c e b=>?_⟩
 ·by_cases hx:∃ o∈ops.toList,o.dst=some t;·obtain⟨o,c,e⟩:=hx;rw[K04 c e];trivial
  rw[w03 λo i g=>hx ⟨o,i,g⟩];exact f.fr t
 simp[Array.getElem?_replicate]at b;split at b<;>cases b
theorem e0s{ops:Array Oper}{st:St}{A:Asg}{sk:Nat->Bool}{kp:List (Nat×Value)}{q:FL}{E:List BE}{K:St->Hp->Prop}{C:Array Bool} (U:∀ i,sk i=true->(A i).2.2 = .pu (.val undef)) (Z:∀(i j:Nat) (b D:Oper) (d:Nat),ops.toList[i]?=some b->ops.toList[j]?=some D->b.dst=some d->D.dst=some d->i=j) (c:Z0k ops.toList A q E ops.toList.length) (O:∀ h',Sub h h'->V0k h' q st.fr λfr=>K { st with fr:=fr } h') (ac:∀ j,j<ops.size->C.getD j false=true) (f:Z0d P h0 w0 ops st h A sk kp C a w):∃ be oe H h' fr,K { st with fr:=fr } h'/\Sim P h0 w0 be oe H { st with fr:=V5 ops.toList st.fr } h' a w/\(∀ p∈kp,a.tmps.getD p.1 undef=p.2) /\ ∀ t,(∀(i:Nat) (b:Oper),ops.toList[i]?=some b->b.dst=some t->sk i=false)->J2 st be oe (L3 fr t) (a.tmps.getD t undef):=by
 obtain⟨be,oe,H,h',T,X,keep,Y⟩:=f;have N:∀ t,(∃(i:Nat) (b:Oper),ops.toList[i]?=some b/\b.dst=some t/\sk i=true) ∨ ¬ ∃(i:Nat) (b:Oper),ops.toList[i]?=some b/\b.dst=some t/\sk i=true:=λt=>Classical.em _;have l:∃ val:Nat->Value,∀ t,((∃(i:Nat) (b:Oper),ops.toList[i]?=some b/\b.dst=some t/\sk i=true)->val t=undef)/\((¬ ∃(i:Nat) (b:Oper),ops.toList[i]?=some b/\b.dst=some t/\sk i=true)->val t=a.tmps.getD t undef) :=
  Classical.axiomOfChoice (r:=λt v=>((∃(i:Nat) (b:Oper),ops.toList[i]?=some b/\b.dst=some t/\sk i=true)->v=undef)/\((¬ ∃(i:Nat) (b:Oper),ops.toList[i]?=some b/\b.dst=some t/\sk i=true)->v=a.tmps.getD t undef)) λt=>by
   rcases N t with h|h
   ·exact⟨undef,λ_=>rfl,λn=>absurd h n⟩
   grind
 obtain⟨val,l⟩:=l;obtain⟨fr,ab,g⟩:=x0l (st:=st) (be:=be) (oe:=oe) (val:=val) (λp S L=>by
  obtain⟨t,x⟩:=p;obtain⟨i,b,h0,F,G,I,J⟩:=c.p1 t x S;cases hsk:sk i with
  |true =>have e:=(l t).1 ⟨i,b,F,G,hsk⟩;have s:=U i hsk;rw[J]at s;show x09 st be oe h' x.2 (val t);rw[s,e];exact rfl
  |false =>
  have u : ¬ ∃(i:Nat) (b:Oper),ops.toList[i]?=some b/\b.dst=some t/\sk i=true:=λ⟨k,ok,o,z,V⟩=>by grind
  have aa:(A i).2.1=true:=by have:=c.p3 i h0 h0;rw[I,show x.1 = [] from L]at this;exact(oJ this).symm
  grind) (λt y=>by
  have u : ¬ ∃(i:Nat) (b:Oper),ops.toList[i]?=some b/\b.dst=some t/\sk i=true:=λ⟨k,ok,o,z,V⟩=>by obtain⟨x,m⟩:=c.p2 k ok t (List.getElem?_eq_some_iff.1 o).1 o z;exact y x (X07 m)
  rw[(l t).2 u];have Q:L3 (V5 ops.toList st.fr) t=L3 st.fr t:=w03 λW R M=>by obtain⟨i,f,e⟩:=List.getElem_of_mem R;obtain⟨x,m⟩:=c.p2 i W t f (by rw[List.getElem?_eq_getElem f,e]) M;exact y x (X07 m)
  have:=X.fr t;rw[Q]at this;exact J2.fr (st := { st with fr:=V5 ops.toList st.fr }) (fr:=st.fr) this) (O h' T)
 grind
theorem F0a:∀ {l:List Oper},u0i l=true->∀ o∈l,∀ i w,o.guard=some (i,w)->n02 i o=true
 | [],h,o,a=>by cases a
 |y::r,h,o,a=>by
  simp only[u0i,Bool.and_eq_true]at h;rcases List.mem_cons.1 a with rfl|a;·grind
  exact F0a h.2 o a
theorem P0z{ops:Array Oper}{Q:Exit->Act->World->Prop}{Inv:Array Bool->Act->World->Prop}(hB:∀(k:Nat) (o:Oper),ops.toList[k]?=some o->∀ e∈o.after,Region.binds .any e=true->e.on<k)
  (hstep:∀ listed a w j o,ops[j]?=some o->(∀ e∈o.after,Region.binds .any e=true->listed.getD e.on false=true)->Inv listed a w ->
   (Region.wanted o (yielded ops a.tmps)=true->o.wp P a w (Inv (listed.setIfInBounds j true)) Q)/\(Region.wanted o (yielded ops a.tmps)=false->Inv (listed.setIfInBounds j true) (a.put o.dst undef) w))
  (hQ:∀ listed a w,(∀ j,j<ops.size->listed.getD j false=true)->Inv listed a w->Q .normal a w) :
  ∀(fuel:Nat) (listed:Array Bool) (a:Act) (w:World),listed.size=ops.size->listed.toList.count true+fuel=ops.size->Inv listed a w->wpAny P .any ops Q fuel listed a w
 |0,listed,a,w,hsz,hc,hi=>by
  have hall':∀ j,j<ops.size->listed.getD j false=true:=λj hj=>by
   have h1:∀ b∈listed.toList,true=b:=List.count_eq_length.1 (by grind)
   have hlt:j<listed.size:=by omega
   have:=h1 listed[j] (by simp)
   simp[hlt,←this]
  refine⟨?_,hQ listed a w hall' hi⟩
  simp_all[Region.ready,List.mem_cons_self,mem_ready,Array.getElem?_eq_some_iff]
 |fuel+1,listed,a,w,hsz,hc,hi=>by
  refine⟨λhr=>hQ listed a w (v0l hB hsz hr) hi,λj hj=>?_⟩
  obtain⟨h1,o,h2,h3⟩:=mem_ready.1 hj
  unfold wpOp
  simp only[h2]
  obtain⟨ht,hf⟩:=hstep listed a w j o h2 h3 hi
  have next:∀ a' w',Inv (listed.setIfInBounds j true) a' w'->wpAny P .any ops Q fuel (listed.setIfInBounds j true) a' w':=λa' w' hi'=>P0z hB hstep hQ fuel _ a' w' (by simpa using hsz) (by rw[count_set h1];omega) hi'
  cases hw:Region.wanted o (yielded ops a.tmps)with
  |true =>
   rw[if_pos rfl]
   exact .inl (Oper.wp_mono next (ht hw))
  |false =>
   grind
theorem k0y{ops:Array Oper}{Q:Exit->Act->World->Prop}{Inv:Array Bool->Act->World->Prop}(hB:∀(k:Nat) (o:Oper),ops.toList[k]?=some o->∀ e∈o.after,Region.binds .any e=true->e.on<k)
  (hstep:∀ listed a w j o,ops[j]?=some o->(∀ e∈o.after,Region.binds .any e=true->listed.getD e.on false=true)->Inv listed a w ->
   (Region.wanted o (yielded ops a.tmps)=true->o.wp P a w (Inv (listed.setIfInBounds j true)) Q)/\(Region.wanted o (yielded ops a.tmps)=false->Inv (listed.setIfInBounds j true) (a.put o.dst undef) w))
  (hQ:∀ listed a w,(∀ j,j<ops.size->listed.getD j false=true)->Inv listed a w->Q .normal a w) :
  ∀(l:List Oper) (k:Nat) (listed:Array Bool) (a:Act) (w:World),(∀ j,l[j]?=ops.toList[k+j]?)->k+l.length=ops.size->listed.size=ops.size->(∀ j,j<k->listed.getD j false=true)->Inv listed a w->wpList P ops Q l a w
 | [],k,listed,a,w,hl,hk,hsz,hp,hi=>hQ listed a w (λj hj=>hp j (by simp at hk;omega)) hi
 |o::l,k,listed,a,w,hl,hk,hsz,hp,hi=>by
  have ho:ops.toList[k]?=some o:=by simpa using (hl 0).symm
  have hl':∀ j,l[j]?=ops.toList[k+1+j]?:=λj=>by have:=hl (j+1);grind
  obtain⟨ht,hf⟩:=hstep listed a w k o (by simpa using ho) (λe he hb=>hp _ (hB k o ho e he hb)) hi
  have next:∀ a' w',Inv (listed.setIfInBounds k true) a' w'->wpList P ops Q l a' w':=λa' w' hi' =>
   k0y hB hstep hQ l (k+1) _ a' w' hl' (by grind) (by simpa using hsz) (λj hj=>by
    by_cases e:k=j
    ·subst e
     have:k<listed.size:=by grind
     simp[this]
    ·rw[getD_set_ne false e];exact hp j (by omega)) hi'
  unfold wpList
  cases hw:Region.wanted o (yielded ops a.tmps)with
  |true =>
   rw[if_pos rfl]
   exact .inl (Oper.wp_mono next (ht hw))
  |false =>
   grind
theorem H0o{ops:Array Oper}{st:St}{K:St->Hp->Prop}{Q:Exit->Act->World->Prop}(hb:U06 st.n ops.toList=true)(he:evU P ops.toList 0 [] [] st h K) (hQ:∀ a w st h be oe H,K st h->Sim P h0 w0 be oe H st h a w->Q .normal a w) : (∀ {be:Nat->Nat} {oe:Nat->Value} {H:Hp} {a:Act} {w:World},Sim P h0 w0 be oe H st h a w->wpAny P .any ops Q ops.size (Array.replicate ops.size false) a w) /\ (∀ {be:Nat->Nat} {oe:Nat->Value} {H:Hp} {a:Act} {w:World},Sim P h0 w0 be oe H st h a w->wpList P ops Q ops.toList a w):=by
 simp only[U06,Y08,Bool.and_eq_true]at hb;obtain⟨⟨⟨b1,b2⟩,b3⟩,b4⟩:=hb;obtain⟨hn,hD⟩:=u08 b1;have hB:∀(k:Nat) (o:Oper),ops.toList[k]?=some o->∀ e∈o.after,Region.binds .any e=true->e.on<k:=λk o hk e he' hb=>by have:=v08 b2 k o hk e he' hb;omega
 have hdep:=D0a b3;have hgd:=F0a b4;obtain⟨A,Lf,Bf,_,_,hP,hall,hfin⟩:=Z0i (ops:=ops.toList) hD ops.toList 0 [] [] (λ_=>([],true,.pu .dead)) (λj=>by simp) (by simp)
  ⟨λt x h=>(by cases h),λi oi d hi=>by omega,λi hi=>by omega,λx hx=>(by cases hx)⟩ he
 have step:∀ listed a w j o,ops[j]?=some o->(∀ e∈o.after,Region.binds .any e=true->listed.getD e.on false=true)->Z0d P h0 w0 ops st h A (λ_=>false) [] listed a w ->
   (Region.wanted o (yielded ops a.tmps)=true->o.wp P a w (Z0d P h0 w0 ops st h A (λ_=>false) [] (listed.setIfInBounds j true)) Q)/\(Region.wanted o (yielded ops a.tmps)=false->Z0d P h0 w0 ops st h A (λ_=>false) [] (listed.setIfInBounds j true) (a.put o.dst undef) w) :=
  λlisted a w j o h1 h2 h3=>j0y hD hn hB hdep hgd hP (λj o ho=>hall j o (Nat.zero_le _) ho) rfl (λ_ _ _ _ _ h=>nomatch h) (λ_ h=>nomatch h) (λ_ hp=>nomatch hp) h1 h2 h3
 have done:∀ listed a w,(∀ j,j<ops.size->listed.getD j false=true)->Z0d P h0 w0 ops st h A (λ_=>false) [] listed a w->Q .normal a w:=λlisted a w hl hi=>by obtain⟨be,oe,H,h',fr,hk,s,_,g⟩:=e0s (sk:=λ_=>false) (λ_ h=>nomatch h) hD hP hfin hl hi;exact hQ a w _ h' be oe H hk (s.refr (fr:=fr) λt=>J2.fr (g t λ_ _ _ _=>rfl))
 refine⟨λs=>?_,λs=>?_⟩;·exact P0z hB step done ops.size _ _ _ (by simp) (by simp[List.count_replicate]) (Z0d.start s)
 exact k0y hB step done ops.toList 0 _ _ _ (λj=>by simp) (by simp) (by simp) (λj hj=>by omega) (Z0d.start s)
end
def c07(H:Hp):List (Nat×Obj)->Hp
 | []=>H
 |p::l=>(c07 H l).set p.1 p.2
theorem L06{H:Hp}{b:Nat}:∀ {l:List (Nat×Obj)},(∀ p∈l,p.1≠b)->c07 H l b=H b
 | [],_=>rfl
 |p::l,h=>by rw[c07,Hp.set_other _ _ λe=>h p mS e.symm];exact L06 λq a=>h q (mC _ a)
theorem x08{H:Hp}:∀ {l:List (Nat×Obj)},(l.map λp=>p.1).Nodup->∀ {p:Nat×Obj},p∈l->c07 H l p.1=some p.2
 | [],_,p,h=>nomatch h
 |q::l,a,p,h=>by
  rw[List.map_cons,List.nodup_cons]at a;rcases List.mem_cons.1 h with rfl|h;·exact Hp.set_same _ _ _
  rw[c07,Hp.set_other _ _ λe=>a.1 (List.mem_map.2 ⟨p,h,e⟩)];exact x08 a.2 h
theorem I0b{H:Hp}{l:List (Nat×Obj)}(b:Nat):(∃ p∈l,p.1=b)∨∀ p∈l,p.1≠b:=by grind
theorem a0j{a H:Hp}{w1 w:World}{l:List (Nat×Obj)}(j:Vis (c07 a l) w1)(g:∀ p∈l,a p.1=none/\p.1<w1.heap.size)(f:(l.map λp=>p.1).Nodup)(m:T2 a w1 H w): T2 (c07 a l) w1 (c07 H l) w:=by
 refine⟨m.os,m.tape,m.output,m.size,λb e i=>?_,λb o c=>?_,λb e=>?_,m.fz,m.dn⟩
 ·rcases I0b (H:=a) (l:=l) b with⟨p,d,rfl⟩|c;·grind[x08]
  rw[L06 c]at i;exact m.keep b e i
 ·rcases I0b (H:=a) (l:=l) b with⟨p,d,rfl⟩|h;·rw[x08 f d]at c;cases c;rw[m.keep p.1 (g p d).2 (g p d).1];exact j p.1 _ (x08 f d)
  rw[L06 h]at c;exact m.vis b o c
 rcases I0b (H:=a) (l:=l) b with⟨p,d,rfl⟩|h;·grind[x08]
 rw[L06 h]at e ⊢;exact m.fresh b e
section
variable {P:Program} {h0:Hp} {w0:World} {be:Nat->Nat} {oe:Nat->Value} {H:Hp} {h:Hp} {a:Act} {w:World}
theorem Sim.base{st:St}(b:Sim P h0 w0 be oe H st h a w){c:Hp}{w1 d:World}(m:T2 c w1 H d):Sim P c w1 be oe H st h a d :=
 ⟨m,b.sub,b.box,b.pub,b.own,b.frz,b.bb,b.oo,b.bo,b.dfr,b.siz,b.fr⟩
theorem Sim.more{st:St}(c:Sim P h0 w0 be oe H st h a w){l:List (Nat×Obj)}(u:∀ p∈l,H p.1=none){j:Hp}{w1:World}(m:T2 j w1 (c07 H l) w):Sim P j w1 be oe (c07 H l) st h a w:=by
 have keep:∀ b,H b≠none->c07 H l b=H b:=λb d=>L06 λp v e=>d oG;refine⟨m,λb o d=>by rw[keep b (by rw[c.sub b o d];simp)];exact c.sub b o d,λi cs ty f=>?_,c.pub,λi k e sz by_ nn xs f=>?_,c.frz,c.bb,c.oo,c.bo,c.dfr,c.siz,c.fr⟩;·obtain⟨q,vs,s,t⟩:=c.box i cs ty f;grind
 refine(c.own i k e sz by_ nn xs f).keep λg n=>?_;obtain⟨x,_,_,_,y⟩:=(c.own i k e sz by_ nn xs f).block n;grind
theorem Sim.claim{st:St}(c:Sim P h0 w0 be oe H st h a w){cs:List S6}{vs:List Value}{t:TypeId}{b:Nat}(E:C2 st oe cs vs)(D:H b=some (.cells vs.toArray t (0,0)))(F:h b=none)
  (K:∀ i cs ty,nth st.bx i=some (.live cs ty)->be i≠b) (L:∀ i s e sz by_ nn xs g,nth st.ow i=some ⟨s,.live e sz by_ nn xs⟩->(oe i).ownBlock=some g->g≠b) :
  let be':=λj=>if j=st.bx.length then b else be j
  let st':St := { st with bx:=st.bx ++ [.live cs t] }
  Sim P h0 w0 be' oe H st' h a w/\I8 st be oe st' be' oe:=by
 intro be' st'
 have l:I8 st be oe st' be' oe:=by
  refine⟨by simp[st'],λi d=>?_,λi c G=>⟨c,G,Nat.le_refl _,λ_=>rfl⟩⟩
  grind
 have m:∀ i cs ty,nth st.bx i=some (.live cs ty)->be' i=be i:=λi cs ty d=>by simp[be',Nat.ne_of_lt (o04 d)]
 have k:∀ i x,nth st'.bx i=some x->(i=st.bx.length/\x = .live cs t)∨(i≠st.bx.length/\nth st.bx i=some x):=by
  grind[Y04]
 refine⟨⟨c.mv,c.sub,?_,?_,c.own,c.frz,?_,c.oo,?_,c.dfr,c.siz,λt=>(c.fr t).grow l⟩,l⟩
 ·intro i cs' ty d
  rcases k i _ d with⟨rfl,e⟩|⟨e,f⟩
  ·cases e
   exact⟨by simp[be',F],vs,E.grow l,by simp[be',D]⟩
  ·obtain⟨z,J,A,C⟩:=c.box i cs' ty f
   rw[m i cs' ty f]
   exact⟨z,J,A.grow l,C⟩
 ·intro i u d
  rcases k i _ d with⟨_,e⟩|⟨e,f⟩
  ·cases e
  ·simp[be',e,c.pub i u f]
 ·intro i j v I M N d o e
  rcases k i _ d with⟨rfl,n⟩|⟨n,f⟩<;>rcases k j _ o with⟨rfl,y⟩|⟨y,q⟩
  ·rfl
  ·grind
  ·grind
  ·rw[m i _ _ f,m j _ _ q]at e;exact c.bb i j _ _ _ _ f q e
 ·intro i v I j s e sz by_ nn xs d o p
  rcases k i _ d with⟨rfl,n⟩|⟨n,f⟩
  ·grind
  ·rw[m i _ _ f]at p;exact c.bo i _ _ j _ _ _ _ _ _ f o p
def d0f(a:Act)(d:Nat):Nat:=match a.tmps.getD d undef with
 | .pointer (some ⟨b,_,_⟩)=>b
 |_=>0
theorem S09{a:Act}{d b:Nat}(e:a.tmps.getD d undef=ptr b 0):d0f a d=b:=by unfold d0f;rw[e];rfl
def q0A(P:Program)(H h:Hp)(a:Act)(n:Nat)(o:Oper):Prop:=l08 o=true->∃ d t z,o.op = .alloc t/\o.dst=some d/\d<n/\Q02 P t=some z/\a.tmps.getD d undef=ptr (d0f a d) 0/\H (d0f a d)=some (.cells z.cells t (0,0))/\h (d0f a d)=none
def r0A(a:Act)(o c:Oper):Prop:=l08 o=true->l08 c=true->∀ d b,o.dst=some d->c.dst=some b->d0f a d≠d0f a b
theorem j0n{st:St}{h:Hp}{d:Nat}:s0b ⟨st,h,[],[]⟩ d=false:=rfl
theorem X0q{K:St->Hp->Prop}{fd:List (Nat×AV)}:∀(l:List Oper) (st:St) (be:Nat->Nat),Sim P h0 w0 be oe H { st with fr:=fd } h a w ->
  (∀ t,(∀ o∈l,l08 o=true->o.dst≠some t)->J2 st be oe (L3 st.fr t) (a.tmps.getD t undef))->(∀ o∈l,q0A P H h a st.n o)->l.Pairwise (r0A a) ->
  (∀ i cs ty,nth st.bx i=some (.live cs ty)->∀ o∈l,l08 o=true->∀ d,o.dst=some d->be i≠d0f a d) ->
  (∀ i k e sz by_ nn xs g,nth st.ow i=some ⟨k,.live e sz by_ nn xs⟩->(oe i).ownBlock=some g->∀ o∈l,l08 o=true->∀ d,o.dst=some d->g≠d0f a d) ->
  doA (A07 P) l st h K->∃ st' be',K st' h/\Sim P h0 w0 be' oe H st' h a w
 | [],st,be,x,q,_,_,_,_,j=>⟨st,be,j,x.refr (fr:=st.fr) λt=>J2.fr (st:=st) (q t λo p=>nomatch p)⟩
 |o::l,st,be,x,q,y,s,A,p,j=>by
  rw[List.pairwise_cons]at s
  have j:(match l08 o with
   |true=>A07 P o st h λst h=>doA (A07 P) l st h K
   |false=>doA (A07 P) l st h K):=j
  cases hal:l08 o with
  |false =>
   rw[hal]at j
   exact X0q l st be x (λt U=>q t λc b G=>by
    grind) (λc b=>y c (mC _ b)) s.2 (λi cs ty f c b=>A i cs ty f c (mC _ b)) (λi k e sz by_ nn xs g f m c b=>p i k e sz by_ nn xs g f m c (mC _ b)) j
  |true =>
   rw[hal]at j
   obtain⟨d,t,z,O,v,W,Q,R,C,S⟩:=y o mS hal
   simp only[A07,z00,O,Q,n0g,v,V0d,j0n]at j
   have L:Nat.blt d (st.withBx (st.bx ++ [.live (vals z.cells.toList) t])).n=true:=by
    grind
   simp only[L]at j
   obtain⟨n,fr,bx,ow⟩:=st
   have N:doA (A07 P) l ⟨n,(d,.box bx.length 0)::fr,bx ++ [.live (vals z.cells.toList) t],ow⟩ h K:=j
   have J:z.cells=z.cells.toList.toArray:=oS
   rw[J]at C
   obtain⟨s2,F⟩:=x.claim (C2.vals _ oe _) C S (λi cs ty f=>A i cs ty f o mS hal d v) (λi k e sz by_ nn xs g f m=>p i k e sz by_ nn xs g f m o mS hal d v)
   refine X0q l ⟨n,(d,.box bx.length 0)::fr,bx ++ [.live (vals z.cells.toList) t],ow⟩ _ s2 (λu V=>?_) (λc b=>y c (mC _ b)) s.2 (λi cs ty f c b I D M=>?_) (λi k e sz by_ nn xs g f m c b=>p i k e sz by_ nn xs g f m c (mC _ b)) N
   ·show J2 _ _ _ (L3 ((d,.box bx.length 0)::fr) u) _
    rw[F4]
    split
    ·rename_i e
     subst e
     refine⟨oS,?_⟩
     rw[R];simp
    ·rename_i e
     have E:=q u λc b G T=>by
      grind
     exact J2.fr (st:=⟨n,fd,bx ++ [.live (vals z.cells.toList) t],ow⟩) (J2.grow F (J2.fr (st:=⟨n,fr,bx,ow⟩) (fr:=fd) E))
   ·simp only[Y04]at f
    split at f
    ·rename_i e
     subst e
     simp only[if_pos]
     exact s.1 c b hal I d D v M
    grind
theorem f09{d:Nat}:∀ {l:List Operand},w0b d l=false->Operand.tmp d ∉ l
 | [],_,h=>nomatch h
 |x::r,a,h=>by
  rcases List.mem_cons.1 h with e|b;·subst e;simp[w0b]at a
  cases x<;>simp only[w0b,Bool.or_eq_false_iff]at a;·exact f09 a.2 b
  all_goals exact f09 a b
theorem y0h{d:Nat}:∀ {l:List Oper},Q0m d l=false->∀ o∈l,Operand.tmp d ∉ o.op.operands
 | [],_,o,h=>nomatch h
 |y::r,a,o,h=>by
  simp only[Q0m,Bool.or_eq_false_iff]at a;rcases List.mem_cons.1 h with rfl|h;·exact λb=>f09 a.1 (by simpa using b)
  exact y0h a.2 o h
theorem I0o{all:List Oper}:∀ {l:List Oper},okA P all l=true->∀ o∈l,l08 o=true->∃ t d z,o.op = .alloc t/\o.guard=none/\o.dst=some d/\Q02 P t=some z/\∀ c∈all,Operand.tmp d ∉ c.op.operands
 | [],_,o,h,_=>nomatch h
 |y::r,a,o,h,b=>by
  simp only[okA,Bool.and_eq_true]at a;rcases List.mem_cons.1 h with rfl|h;·grind[l08,y0h]
  exact I0o a.2 o h b
theorem J0o{o:Oper}(h:l08 o=false):t02 o=o:=by grind[t02,l08]
theorem t00(o:Oper):(t02 o).dst=o.dst:=by unfold t02;split<;>rfl
theorem K0o(o:Oper):(t02 o).after=o.after:=by unfold t02;split<;>rfl
theorem L0o(o:Oper):(t02 o).guard=o.guard:=by unfold t02;split<;>rfl
theorem u00:∀(l:List Oper) (i:Nat),(p7 l)[i]?=(l[i]?).map t02
 | [],i=>by simp[p7]
 |o::r,0=>by simp[p7]
 |o::r,i+1=>by simp[p7,u00 r i]
theorem z0l:∀(l:List Oper),(p7 l).length=l.length
 | []=>rfl
 |o::r=>by simp[p7,z0l r]
theorem M0o{o:Oper}{d:Nat}(h:Operand.tmp d∈(t02 o).op.operands):Operand.tmp d∈o.op.operands:=by grind[l08,J0o,t02,Op.operands]
abbrev s0A:=List (Nat×Nat×Obj)
def skA(a:List Oper)(i:Nat):Bool:=match a[i]? with
 |some o=>l08 o
 |none=>false
def B0g(P:Program)(h0:Hp)(w0:World)(e:List Oper)(st:St)(h:Hp)(A:Asg)(g:Array Bool)(a:Act)(w:World):Prop :=
 ∃(c:s0A) (f:Hp) (w1:World),T2 h0 w0 (c07 f (c.map λp=>p.2)) w1/\(∀ p∈c,f p.2.1=none/\p.2.1<w1.heap.size)/\((c.map λp=>p.2).map λp=>p.1).Nodup /\
  Z0d P f w1 (p7 e).toArray st h A (skA e) (c.map λp=>(p.1,ptr p.2.1 0)) g a w /\
  (∀(j:Nat) (o:Oper) t d z,e[j]?=some o->o.op = .alloc t->o.dst=some d->Q02 P t=some z->g.getD j false=true->∃ b,(d,b,Obj.cells z.cells t (0,0))∈c) /\
  ∀ p∈c,∃(j:Nat) (o:Oper),e[j]?=some o/\l08 o=true/\o.dst=some p.1/\g.getD j false=true
theorem B0g.start{f:List Oper}{st:St}{A:Asg}{N:Nat}(g:Sim P h0 w0 be oe H st h a w):B0g P h0 w0 f st h A (Array.replicate N false) a w:=by
 refine⟨[],H,w,g.mv,λp b=>(by cases b),oS,?_,λj o t d z _ _ _ _ e=>?_,λp b=>(by cases b)⟩
 ·have l:Sim P H w be oe H st h a w:=g.base (T2.refl g.mv.vis);refine⟨be,oe,H,h,λ_ _ h=>h,l.refr (fr:=V5 (p7 f) st.fr) λt=>?_,λp b=>(by cases b),λj o d _ i k c=>?_⟩
  ·by_cases hx:∃ o∈p7 f,o.dst=some t;·obtain⟨o,i,k⟩:=hx;rw[K04 i k];trivial
   rw[w03 λo n m=>hx ⟨o,n,m⟩];exact l.fr t
  simp[Array.getElem?_replicate]at c;split at c<;>cases c
 simp[Array.getElem?_replicate]at e;split at e<;>cases e
theorem l0y{f:List Oper}{st:St}{A:Asg}{ar:FL}{Y:List BE}{G:Array Bool}{j:Nat}{o:Oper}{Q:Exit->Act->World->Prop} (ac:∀(i j:Nat) (l ao:Oper) (d:Nat),(p7 f)[i]?=some l->(p7 f)[j]?=some ao->l.dst=some d->ao.dst=some d->i=j) (ad:∀ o∈p7 f,∀ d,o.dst=some d->d<st.n) (az:∀(k:Nat) (o:Oper),(p7 f)[k]?=some o->∀ e∈o.after,Region.binds .any e=true->e.on<k) (aG:∀ o∈p7 f,∀ t,Operand.tmp t∈o.op.operands->∀(i:Nat) (l:Oper),(p7 f)[i]?=some l->l.dst=some t->∃ e∈o.after,Region.binds .any e=true/\e.on=i) (aH:∀ o∈p7 f,∀ i w,o.guard=some (i,w)->n02 i o=true) (aA:Z0k (p7 f) A ar Y (p7 f).length) (aC:∀ j o,(p7 f)[j]?=some o->∃ Z K,I01 Y o.guard=some (A j).1/\Z0k (p7 f) A Z K j/\l0d K Y/\cB K (A j).1=some (A j).2.1/\(OpU P st h Z K o (A j).1 (A j).2.1 (A j).2.2/\∀ av,x0d P Z K (A j).1 o st=some av->(A j).2.2 = .pu av)) (aV:∀(i:Nat) (l:Oper) (d:Nat),(p7 f)[i]?=some l->l.dst=some d->skA f i=true->∀ af∈p7 f,Operand.tmp d ∉ af.op.operands) (aS:∀ i,skA f i=true->(A i).2.2 = .pu (.val undef)) (aB:∀ o∈f,l08 o=true->∃ t d z,o.op = .alloc t/\o.guard=none/\o.dst=some d/\Q02 P t=some z/\∀ af∈f,Operand.tmp d ∉ af.op.operands) (ba:G.getD j true=false) (L:f[j]?=some o) (aQ:∀ e∈o.after,Region.binds .any e=true->G.getD e.on false=true) (aJ:B0g P h0 w0 f st h A G a w) : (Region.wanted o (yielded (p7 f).toArray a.tmps)=true->o.wp P a w (B0g P h0 w0 f st h A (G.setIfInBounds j true)) Q) /\ (Region.wanted o (yielded (p7 f).toArray a.tmps)=false->B0g P h0 w0 f st h A (G.setIfInBounds j true) (a.put o.dst undef) w):=by
 obtain⟨s,T,w1,ae,M,W,am,ai,ab⟩:=aJ;have aO:o∈f:=List.mem_of_getElem? L;have J:(p7 f)[j]?=some (t02 o):=by rw[u00,L];rfl
 have aM:G.getD j false=false:=by grind
 have aL:j<G.size:=by grind
 have ay:∀ p∈s,∃(i:Nat) (l:Oper),(p7 f)[i]?=some l/\l.dst=some p.1/\skA f i=true:=λp c=>by obtain⟨i,l,m,D,y,_⟩:=ab p c;exact⟨i,t02 l,by rw[u00,m];rfl,by rw[t00];exact y,by unfold skA;rw[m];exact D⟩
 cases hisa:l08 o
 ·have aK:=J0o hisa;rw[aK]at J;have aU:skA f j=false:=by unfold skA;rw[L];exact hisa
  have up:∀ aa E,Z0d P T w1 (p7 f).toArray st h A (skA f) (s.map λp=>(p.1,ptr p.2.1 0)) (G.setIfInBounds j true) aa E->B0g P h0 w0 f st h A (G.setIfInBounds j true) aa E:=λaa E aZ=>by
   refine⟨s,T,w1,ae,M,W,aZ,λi l t d z m D y I R=>?_,λp c=>?_⟩
   ·by_cases e:j=i;·grind[l08]
    rw[getD_set_ne false e]at R;exact ai i l t d z m D y I R
   grind[getD_set_true]
  have bc:=j0y (P:=P) (h0:=T) (w0:=w1) (ops:=(p7 f).toArray) (Q:=Q) (sk:=skA f) (kp:=s.map λp=>(p.1,ptr p.2.1 0)) (by simpa using ac) (by simpa using ad) (by simpa using az) (by simpa using aG) (by simpa using aH) (by simpa using aA) (by simpa using aC) aU (by simpa using aV) aS (λp c=>by obtain⟨q,C,rfl⟩:=List.mem_map.1 c;simpa using ay q C) (by simpa using J) aQ am;grind[Oper.wp_mono]
 obtain⟨t,d,z,a0,a1,F,a2,bb⟩:=aB o aO hisa;refine⟨λ_=>?_,λN=>?_⟩;rotate_left;·unfold Region.wanted at N;rw[a1]at N;cases N
 obtain⟨be,oe,H,h',aR,S,keep,ax⟩:=am;have an:T2 h0 w0 (c07 H (s.map λp=>p.2)) w:=ae.trans (a0j ae.vis (λp c=>by obtain⟨q,C,rfl⟩:=List.mem_map.1 c;exact M q C) W S.mv);have ah:∀ p∈s,H p.2.1=none:=λp c=>S.mv.none_of (M p c).2 (M p c).1;have N:wpS P (execOp a.eval o) (c07 H (s.map λp=>p.2)) (λn ag=>∃ b,c07 H (s.map λp=>p.2) b=none/\n = .value (ptr b 0)/\ag=(c07 H (s.map λp=>p.2)).set b (.cells z.cells t (0,0))):=by unfold execOp;rw[a0];refine f00 _ _ _ ?_;simp only[Instr.alloc,newVar,newRow,newObj,N2,X0e a2,D3,wpS];exact λb U=>⟨b,U,rfl,rfl⟩
 obtain⟨n,ag,E,aP,⟨b,U,rfl,rfl⟩,V⟩:=P01 _ _ _ an.vis N;refine G9 aP ?_;have ak:∀ p∈s,p.2.1≠b:=λp c e=>by have:=x08 (H:=H) W (List.mem_map.2 ⟨p,c,rfl⟩);rw[e,U]at this;cases this
 have aj:H b=none:=by rw[←U,L06];intro p c;obtain⟨q,C,rfl⟩:=List.mem_map.1 c;exact ak q C
 have aY:Vis H E:=λx a3 O=>by
  refine V.vis x a3 ?_;rw[Hp.set_other _ _ λe=>by subst e;rw[aj]at O;cases O];rw[L06];·exact O
  intro p c e;obtain⟨q,C,rfl⟩:=List.mem_map.1 c;rw[←e,ah q C]at O;cases O
 have aN:d<a.tmps.size:=by rw[S.siz];exact ad (t02 o) (List.mem_of_getElem? J) d (by rw[t00];exact F)
 have a6:(a.put o.dst (ptr b 0)).tmps.getD d undef=ptr b 0:=by rw[F];simp[Act.put,aN]
 have aq:∀ u,u≠d->(a.put o.dst (ptr b 0)).tmps.getD u undef=a.tmps.getD u undef:=λu aW=>by rw[F];simp[Act.put,Array.getElem?_setIfInBounds_ne (Ne.symm aW)]
 have a4:∀ p∈s,p.1≠d:=λp c e=>by obtain⟨i,l,m,D,y,I⟩:=ab p c;have:=ac i j (t02 l) (t02 o) d (by rw[u00,m];rfl) J (by rw[t00,y,e]) (by rw[t00];exact F);subst this;rw[aM]at I;cases I
 have s1:Sim P H E be oe H { st with fr:=V5 (p7 f) st.fr } h' a E:=(by simpa using S:Sim P T w1 be oe H { st with fr:=V5 (p7 f) st.fr } h' a w).base (T2.refl aY);have s2:Sim P H E be oe H { st with fr:=V5 (p7 f) st.fr } h' (a.put o.dst (ptr b 0)) E:=by
  have c:=s1.put (d:=d) (av := .dead) (v:=ptr b 0) (ad (t02 o) (List.mem_of_getElem? J) d (by rw[t00];exact F)) trivial;rw[F];refine c.refr (fr:=V5 (p7 f) st.fr) λu=>?_;have g:=c.fr u;rw[F4]at g;split at g;·rename_i e;subst e;rw[K04 (List.mem_of_getElem? J) (by rw[t00];exact F)];trivial
  exact g
 refine⟨(d,b,.cells z.cells t (0,0))::s,H,E,?_,λp c=>?_,?_,⟨be,oe,H,h',aR,by simpa using s2,λp c=>?_,λi l u X m D y=>?_⟩,λi l a5 aw z' m D y I R=>?_,λp c=>?_⟩;·exact an.trans V
 ·rcases List.mem_cons.1 c with rfl|c;·exact⟨aj,V.vis.lt (by rw[Hp.set_same];simp)⟩
  exact⟨ah p c,Nat.lt_of_lt_of_le (M p c).2 (Nat.le_trans S.mv.size V.size)⟩
 ·rw[List.map_cons,List.map_cons,List.nodup_cons];refine⟨λaF=>?_,W⟩;obtain⟨q,C,e⟩:=List.mem_map.1 aF;obtain⟨p,c,rfl⟩:=List.mem_map.1 C;exact ak p c e
 ·rw[List.map_cons]at c;rcases List.mem_cons.1 c with rfl|c;·exact a6
  obtain⟨q,C,rfl⟩:=List.mem_map.1 c;rw[aq _ (a4 q C)];exact keep _ c
 ·have al:j≠i:=λe=>by
   subst e;have ap:l08 o=false:=by unfold skA at X;rw[L]at X;exact X
   rw[hisa]at ap;cases ap
  rw[getD_set_ne false al]at y;have aX:u≠d:=λe=>by subst e;exact al (ac j i (t02 o) l u J (by simpa using m) (by rw[t00];exact F) D)
  rw[aq u aX];exact ax i l u X m D y
 ·by_cases e:j=i;·grind[List.mem_cons_self]
  rw[getD_set_ne false e]at R;obtain⟨au,aD⟩:=ai i l a5 aw z' m D y I R;exact⟨au,mC _ aD⟩
 rcases List.mem_cons.1 c with rfl|c;·exact⟨j,o,L,hisa,F,by simp[aL]⟩
 obtain⟨i,l,m,D,y,I⟩:=ab p c;exact⟨i,l,m,D,y,getD_set_true I⟩
theorem A0l{a m:Type}{f:a->m}:∀ {l:List a},(l.map f).Nodup->∀ {p q:a},p∈l->q∈l->f p=f q->p=q
 | [],_,p,q,h,_,_=>nomatch h
 |x::l,b,p,q,g,j,e=>by
  rw[List.map_cons,List.nodup_cons]at b;rcases List.mem_cons.1 g with c|i<;>rcases List.mem_cons.1 j with d|k;·rw[c,d]
  ·grind
  ·grind
  exact A0l b.2 i k e
theorem n0x{c:List Oper}{st:St}{A:Asg}{U:FL}{ad:List BE}{K:St->Hp->Prop}{aa:Array Bool} (W:∀(i j:Nat) (M ac:Oper) (d:Nat),(p7 c)[i]?=some M->(p7 c)[j]?=some ac->M.dst=some d->ac.dst=some d->i=j) (ao:∀ o∈p7 c,∀ d,o.dst=some d->d<st.n) (aq:∀ i,skA c i=true->(A i).2.2 = .pu (.val undef)) (ak:∀ o∈c,l08 o=true->∃ t d z,o.op = .alloc t/\o.guard=none/\o.dst=some d/\Q02 P t=some z/\∀ av∈c,Operand.tmp d ∉ av.op.operands) (ai:Z0k (p7 c) A U ad (p7 c).length) (al:∀ h',Sub h h'->V0k h' U st.fr λfr=>doA (A07 P) c { st with fr:=fr } h' K) (Y:∀ j,j<c.length->aa.getD j false=true) (y:B0g P h0 w0 c st h A aa a w):∃ st' h' be oe H,K st' h'/\Sim P h0 w0 be oe H st' h' a w:=by
 obtain⟨N,aD,w1,ab,Z,S,ar,ah,aF⟩:=y;obtain⟨be,oe,H,h',fr,an,E,keep,g⟩:=e0s (K:=λst h=>doA (A07 P) c st h K) (ops:=(p7 c).toArray) aq (by simpa using W) (by simpa using ai) al (λj s=>Y j (by simpa [z0l] using s)) ar;have au:T2 h0 w0 (c07 H (N.map λp=>p.2)) w:=ab.trans (a0j ab.vis (λp J=>by grind) S E.mv);have Q:∀ p∈N,H p.2.1=none:=λp J=>E.mv.none_of (Z p J).2 (Z p J).1;have ay:=E.more (l:=N.map λp=>p.2) (λp J=>by grind) au;have F:∀ o∈c,l08 o=true->∃ t d z b,o.op = .alloc t/\o.dst=some d/\Q02 P t=some z/\(d,b,Obj.cells z.cells t (0,0))∈N/\a.tmps.getD d undef=ptr b 0:=λo u q=>by obtain⟨t,d,z,C,m,D,k,v⟩:=ak o u q;obtain⟨j,s⟩:=List.getElem?_of_mem u;obtain⟨b,I⟩:=ah j o t d z s C D k (Y j (List.getElem?_eq_some_iff.1 s).1);exact⟨t,d,z,b,C,D,k,I,keep _ (List.mem_map.2 ⟨_,I,rfl⟩)⟩
 have ap:∀ b,H b=none->h' b=none:=λb I=>by
  cases e:h' b with
  |none=>rfl
  |some o=>rw[E.sub b o e]at I;cases I
 refine(X0q (K:=K) (fd:=V5 (p7 c).toArray.toList st.fr) c { st with fr:=fr } be ay (λt aH=>?_) (λo u q=>?_) ?_ (λi cs ty y o u q d x=>?_) (λi az e sz by_ nn xs aC y am o u q d x=>?_) an).elim λst' L=>L.elim λbe' L=>⟨st',h',be',oe,_,L.1,L.2⟩
 ·refine J2.fr (st:=st) (fr:=fr) (g t λi M O T=>?_);have O:(p7 c)[i]?=some M:=by simpa using O
  rw[u00]at O;grind[l08,skA,absurd,t00,List.mem_of_getElem?]
 ·obtain⟨t,d,z,b,C,m,D,k,v⟩:=F o u q;have R:=S09 v;obtain⟨j,s⟩:=List.getElem?_of_mem u;refine⟨d,t,z,C,m,ao (t02 o) (List.mem_of_getElem? (i:=j) (by rw[u00,s];rfl)) d (by rw[t00];exact m),D,by rw[R];exact v,by rw[R];exact x08 S (List.mem_map.2 ⟨_,k,rfl⟩),by rw[R];exact ap b (Q _ k)⟩
 ·rw[List.pairwise_iff_getElem];intro i j y s aG q aj d ae x X e;obtain⟨t,V,z,b,C,m,D,k,v⟩:=F _ (List.getElem_mem y) q;obtain⟨aK,aB,z',aA,O,T,aJ,aw,ax⟩:=F _ (List.getElem_mem s) aj;rw[m]at x;cases x;rw[T]at X;cases X;rw[S09 v,S09 ax]at e;subst e;have:=A0l (f:=λp:Nat×Nat×Obj=>p.2.1) (by have:=S;rw[List.map_map]at this;exact this) k aw rfl;have ag:d=ae:=congrArg Prod.fst this;subst ag;have:=W i j (t02 c[i]) (t02 c[j]) d (by rw[u00,List.getElem?_eq_getElem y];rfl) (by rw[u00,List.getElem?_eq_getElem s];rfl) (by rw[t00];exact m) (by rw[t00];exact T);omega
 ·obtain⟨t,V,z,b,C,m,D,k,v⟩:=F o u q;rw[m]at x;cases x;rw[S09 v];intro e;obtain⟨_,vs,_,G⟩:=E.box i cs ty y;rw[e,Q _ k]at G;cases G
 obtain⟨t,V,z,b,C,m,D,k,v⟩:=F o u q;rw[m]at x;cases x;rw[S09 v];intro af;obtain⟨_,_,_,_,G⟩:=(E.own i az e sz by_ nn xs y).block am;rw[af,Q _ k]at G;cases G
theorem d0z{ops:Array Oper}{Q:Exit->Act->World->Prop}{Inv:Array Bool->Act->World->Prop}(hB:∀(k:Nat) (o:Oper),ops.toList[k]?=some o->∀ e∈o.after,Region.binds .any e=true->e.on<k)
  (hstep:∀ listed a w j o,listed.size=ops.size->listed.getD j true=false->ops[j]?=some o->(∀ e∈o.after,Region.binds .any e=true->listed.getD e.on false=true)->Inv listed a w ->
   (Region.wanted o (yielded ops a.tmps)=true->o.wp P a w (Inv (listed.setIfInBounds j true)) Q)/\(Region.wanted o (yielded ops a.tmps)=false->Inv (listed.setIfInBounds j true) (a.put o.dst undef) w))
  (hQ:∀ listed a w,(∀ j,j<ops.size->listed.getD j false=true)->Inv listed a w->Q .normal a w) :
  ∀(fuel:Nat) (listed:Array Bool) (a:Act) (w:World),listed.size=ops.size->listed.toList.count true+fuel=ops.size->Inv listed a w->wpAny P .any ops Q fuel listed a w
 |0,listed,a,w,hsz,hc,hi=>by
  have hall':∀ j,j<ops.size->listed.getD j false=true:=λj hj=>by
   have h1:∀ b∈listed.toList,true=b:=List.count_eq_length.1 (by grind)
   have hlt:j<listed.size:=by omega
   have:=h1 listed[j] (by simp)
   simp[hlt,←this]
  refine⟨?_,hQ listed a w hall' hi⟩
  cases hr:Region.ready .any ops listed with
  |nil=>rfl
  |cons j r =>
   grind[Region.ready,List.mem_cons_self,mem_ready,Array.getElem?_eq_some_iff]
 |fuel+1,listed,a,w,hsz,hc,hi=>by
  refine⟨λhr=>hQ listed a w (v0l hB hsz hr) hi,λj hj=>?_⟩
  obtain⟨h1,o,h2,h3⟩:=mem_ready.1 hj
  unfold wpOp
  simp only[h2]
  obtain⟨ht,hf⟩:=hstep listed a w j o hsz h1 h2 h3 hi
  have next:∀ a' w',Inv (listed.setIfInBounds j true) a' w'->wpAny P .any ops Q fuel (listed.setIfInBounds j true) a' w':=λa' w' hi'=>d0z hB hstep hQ fuel _ a' w' (by simpa using hsz) (by rw[count_set h1];omega) hi'
  cases hw:Region.wanted o (yielded ops a.tmps)with
  |true =>
   rw[if_pos rfl]
   exact .inl (Oper.wp_mono next (ht hw))
  |false =>
   grind
theorem C0g{x:Nat}:∀ {l:List Nat},Q0q x l=true↔x∈l
 | []=>by simp[Q0q]
 |y::r=>by simp only[Q0q,Bool.or_eq_true,List.mem_cons,C0g (l:=r)];simp_all
theorem B0l{ops:List Oper}{i:Nat}:∀ {l:List Nat},N0e ops i l=true->∃ j o,j∈l/\ops[j]?=some o/\n02 i o=true
 | [],h=>by cases h
 |j::r,h=>by
  simp only[N0e,Bool.or_eq_true]at h;rcases h with h|h;·grind[n08,List.mem_cons_self]
  obtain⟨c,o,a,b⟩:=B0l h;grind
theorem a0e{ops:List Oper}{G:Nat->Prop}(a:∀ i j o,G j->ops[j]?=some o->n02 i o=true->G i):∀(n:Nat) (acc:List Nat),(∀ j∈acc,G j)->∀ i∈o0l ops n acc,G i
 |0,acc,h=>h
 |n+1,acc,h=>by
  unfold o0l;split;·rename_i b;obtain⟨j,o,c,d,e⟩:=B0l b;exact a0e a n _ λi f=>by grind
  exact a0e a n acc h
theorem b0e{d:Nat}:∀ {l:List Oper},z0d d l=false->∀ o∈l,o.dst≠some d
 | [],_,o,h=>nomatch h
 |y::r,a,o,h=>by
  simp only[z0d,Bool.or_eq_false_iff]at a;rcases List.mem_cons.1 h with rfl|h;·intro b;simp_all
  exact b0e a.2 o h
theorem y09{b:List Nat}{t:Nat}:∀ {l:List Oper} {k:Nat},m08 b t l k=true->∀(i:Nat) (o:Oper),l[i]?=some o->o.dst=some t->k+i∈b
 | [],k,_,i,o,h,_=>by simp at h
 |y::r,k,a,i,o,h,c=>by
  simp only[m08,Bool.and_eq_true]at a;cases i with
  |zero =>simp_all[C0g]
  |succ i =>have:=y09 a.2 i o (by simpa using h) c;grind
theorem G0d{i d:Nat}:∀ {l:List Oper},J09 i d l=true->∀ o∈l,Operand.tmp d∈o.op.operands->n02 i o=true
 | [],_,o,h,_=>nomatch h
 |y::r,b,o,h,c=>by
  simp only[J09,Bool.and_eq_true,Bool.or_eq_true]at b;rcases List.mem_cons.1 h with rfl|h
  ·rcases b.1 with a|a
   ·have e:w0b d o.op.operands.toList=false:=by simpa using a
    exact absurd (show Operand.tmp d∈o.op.operands.toList by simpa using c) (f09 e)
   exact a
  exact G0d b.2 o h c
theorem b0j:∀ {l:List Oper},n0o l=true->∀ o∈l,I0e o.op=false
 | [],_,o,h=>nomatch h
 |y::r,a,o,h=>by
  simp only[n0o,Bool.and_eq_true]at a;rcases List.mem_cons.1 h with rfl|h;·simpa using a.1
  exact b0j a.2 o h
def K05(o:Oper)(f:Operand->Value):Option Value:=match o.op with
 | .extract x k=>match f x with
  | .tuple vs=>vs[k]?
  |_=>none
 | .move x=>some (f x)
 | .assign x=>some (f x)
 | .pick c x y=>match f c with
  | .bool q=>some (if q=true then f x else f y)
  |_=>none
 |_=>none
theorem Y07{x:Operand}{a b:Act}(h:∀ t∈r0g x,a.tmps.getD t undef=b.tmps.getD t undef):a.eval x=b.eval x:=by
 cases x with
 |tmp t=>exact h t (List.mem_singleton.2 rfl)
 |const v=>rfl
 |global g=>rfl
 |func f=>rfl
theorem d07{o:Oper}{a:List Nat}(h:y0d o=some a):o.guard=none/\((∃ x k,o.op = .extract x k/\a=r0g x)∨(∃ x,o.op = .move x/\a=r0g x)∨(∃ x,o.op = .assign x/\a=r0g x)∨∃ c x y,o.op = .pick c x y/\a=r0g c++(r0g x++r0g y)):=by
 unfold y0d at h;split at h;·cases h
 rename_i b;refine⟨b,?_⟩;split at h;·rename_i x k e;cases h;exact .inl ⟨x,k,e,rfl⟩
 ·rename_i x e;cases h;exact .inr (.inl ⟨x,e,rfl⟩)
 ·rename_i x e;cases h;exact .inr (.inr (.inl ⟨x,e,rfl⟩))
 ·rename_i c x y e;cases h;exact .inr (.inr (.inr ⟨c,x,y,e,rfl⟩))
 cases h
theorem J0b{o:Oper}{g:List Nat}{a b:Act}(h:y0d o=some g)(e:∀ t∈g,a.tmps.getD t undef=b.tmps.getD t undef):K05 o a.eval=K05 o b.eval:=by
 obtain⟨_,⟨x,k,d,rfl⟩|⟨x,d,rfl⟩|⟨x,d,rfl⟩|⟨c,x,y,d,rfl⟩⟩:=d07 h;·unfold K05;rw[d];simp only[Y07 e]
 ·unfold K05;rw[d];simp only[Y07 e]
 ·unfold K05;rw[d];simp only[Y07 e]
 unfold K05;rw[d];simp only[Y07 (x:=c) λt f=>e t (List.mem_append_left _ f),Y07 (x:=x) λt f=>e t (List.mem_append_right _ (List.mem_append_left _ f)),Y07 (x:=y) λt f=>e t (List.mem_append_right _ (List.mem_append_right _ f))]
theorem c0j{o:Oper}{f:List Nat}{a:Act}{v:Value}(h:y0d o=some f)(b:K05 o a.eval=some v)(w:World):(execOp a.eval o).run P w = .ok (.value v) w:=by
 obtain⟨_,⟨x,k,e,_⟩|⟨x,e,_⟩|⟨x,e,_⟩|⟨c,x,y,e,_⟩⟩:=d07 h
 ·unfold K05 at b;rw[e]at b;simp only at b;split at b;·rename_i vs d;unfold execOp;rw[e];simp only[Instr.extract,d,b];rfl
  cases b
 ·unfold K05 at b;rw[e]at b;cases b;unfold execOp;rw[e];rfl
 ·unfold K05 at b;rw[e]at b;cases b;unfold execOp;rw[e];rfl
 unfold K05 at b;rw[e]at b;simp only at b;split at b;·rename_i q d;cases b;unfold execOp;rw[e];simp only[d,asBool];cases q<;>rfl
 cases b
theorem o0x{o:Oper}{g:List Nat}{a:Act}{w:World}{N:Act->World->Prop}(h:y0d o=some g)(b:o.wp P a w N λ_ _ _=>False):∃ v,K05 o a.eval=some v/\N (a.put o.dst v) w:=by
 obtain⟨_,⟨x,k,e,_⟩|⟨x,e,_⟩|⟨x,e,_⟩|⟨c,x,y,e,_⟩⟩:=d07 h
 ·cases hx:K05 o a.eval with
  |some v =>refine⟨v,rfl,?_⟩;unfold Oper.wp at b;rw[c0j h hx w]at b;exact b
  |none =>
   exfalso;unfold K05 at hx;rw[e]at hx;simp only at hx;unfold Oper.wp execOp at b;rw[e]at b;simp only[Instr.extract]at b;split at hx;·rename_i vs f;rw[f]at b;simp only[hx]at b;exact b
   rename_i d;generalize a.eval x=z at b d;cases z<;>first|exact b|exact absurd rfl (d _)
 ·refine⟨_,by unfold K05;rw[e],?_⟩;unfold Oper.wp execOp at b;rw[e]at b;exact b
 ·refine⟨_,by unfold K05;rw[e],?_⟩;unfold Oper.wp execOp at b;rw[e]at b;exact b
 cases hx:K05 o a.eval with
 |some v =>refine⟨v,rfl,?_⟩;unfold Oper.wp at b;rw[c0j h hx w]at b;exact b
 |none =>
  exfalso;unfold K05 at hx;rw[e]at hx;simp only at hx;unfold Oper.wp execOp at b;rw[e]at b;simp only at b;split at hx;·cases hx
  rename_i d;generalize a.eval c=z at b d;cases z<;>first|exact b|exact absurd rfl (d _)
def d0j(as a:Act)(D:Nat->Prop):Prop:=as.tmps.size=a.tmps.size/\as.defers=a.defers/\∀ d,¬ D d->as.tmps.getD d undef=a.tmps.getD d undef
theorem e07(a:Act)(d u:Nat)(v:Value):(a.put (some d) v).tmps.getD u undef=if d=u/\d<a.tmps.size then v else a.tmps.getD u undef:=by by_cases e:d=u;all_goals simp_all[Act.put,if_neg,Array.getElem?_setIfInBounds_ne]
theorem d0j.put{as a:Act}{b:Nat->Prop}(l:d0j as a b)(d:Option Nat)(v:Value):d0j (as.put d v) (a.put d v) b:=by
 cases d with
 |none=>exact l
 |some d =>refine⟨by simp[Act.put,l.1],l.2.1,λu c=>?_⟩;rw[e07,e07,l.1,l.2.2 u c]
theorem p0x{o:Oper}{as a:Act}{w:World}{k:Nat->Prop}{N:Act->World->Prop}{Q:Exit->Act->World->Prop}(l:d0j as a k)(q:I0e o.op=false)(y:∀ d,Operand.tmp d∈o.op.operands -> ¬ k d) (i:o.wp P as w N λ_ _ _=>False):o.wp P a w (λm j=>∃ g,N g j/\d0j g m k/\(∃ v,g=as.put o.dst v∨∃ x,g = { as with defers:=x }.put o.dst v)/\∃ v,m=a.put o.dst v∨∃ x,m = { a with defers:=x }.put o.dst v) Q:=by
 have t:execOp as.eval o=execOp a.eval o:=execOp_congr o (λcs b e=>by rw[e]at q;cases q) λx z=>by
  cases x with
  |tmp d=>exact l.2.2 d (y d z)
  |_=>rfl
 unfold Oper.wp at *;rw[t]at i;generalize (execOp a.eval o).run P w=r at i;have fin:∀(v:Value) (j:World),N (as.put o.dst v) j->∃ g,N g j/\d0j g (a.put o.dst v) k/\(∃ v,g=as.put o.dst v∨∃ x,g = { as with defers:=x }.put o.dst v)/\∃ s,a.put o.dst v=a.put o.dst s∨∃ x,a.put o.dst v = { a with defers:=x }.put o.dst s :=
  λv j h=>⟨_,h,l.put o.dst v,⟨v,.inl rfl⟩,v,.inl rfl⟩
 cases r with
 |ok n j =>
  cases n with
  |value v=>exact fin v j i
  |skip=>exact fin undef j i
  |defer d =>refine⟨_,i,d0j.put (as := { as with defers:=d::as.defers }) (a := { a with defers:=d::a.defers }) ⟨l.1,by simp[l.2.1],l.2.2⟩ o.dst undef,⟨_,.inr ⟨_,rfl⟩⟩,_,.inr ⟨_,rfl⟩⟩
  |enter f args =>
   refine Calls.mono i λe p h=>?_;cases e with
   |returned v=>exact fin v p h
   |panicked c=>exact h.elim
   |outgrown=>obtain⟨_,_,h⟩:=h;exact h.elim
  |row row args=>exact Rows.mono i λv p h=>fin v p h
  |_=>exact i.elim
 |halt u j=>cases u<;>exact i.elim
theorem Sim.like{st:St}{as a:Act}{h0:Hp}{w0:World}{be:Nat->Nat}{oe:Nat->Value}{H h:Hp}{w:World}(b:Sim P h0 w0 be oe H st h as w){c:Nat->Prop}(l:d0j as a c)(e:∀ d,¬ c d):Sim P h0 w0 be oe H st h a w :=
 ⟨b.mv,b.sub,b.box,b.pub,b.own,b.frz,b.bb,b.oo,b.bo,by rw[←l.2.1];exact b.dfr,by rw[←l.1];exact b.siz,λt=>by rw[←l.2.2 t (e t)];exact b.fr t⟩
theorem C0l:∀ {l:List Oper} {k:Nat},c0v k l=true->(∀ o∈l,o.guard=none)/\∀(i:Nat) (o:Oper),l[i+1]?=some o->n02 (k+i) o=true
 | [],k,h=>⟨λo b=>(nomatch b),λi o a=>(nomatch a)⟩
 | [x],k,h=>by rw[c0v]at h;grind
 |x::y::r,k,h=>by
  rw[c0v]at h;simp only[Bool.and_eq_true]at h;obtain⟨c,d⟩:=C0l (l:=y::r) h.2;refine⟨λo b=>?_,λi o a=>?_⟩;·grind
  cases i with
  |zero=>grind
  |succ i =>grind
theorem N0o{o:Oper}{st:St}{K:St->Hp->Prop}{Q:Exit->Act->World->Prop}(p:Sim P h0 w0 be oe H st h a w)(k:A07 P o st h K): o.wp P a w (λf j=>∃ st' h' be' oe' e,K st' h'/\Sim P h0 w0 be' oe' e st' h' f j) Q:=by refine Oper.wp_mono (λf j n=>?_) (H02 p k);obtain⟨av,st',h',v,be',oe',e,l,rfl,q,g,s⟩:=n;obtain⟨A,t,u,y,z⟩:=K06 (ops := #[o]) (i:=0) (rs:=⟨st',h',[],[]⟩) (ch:=[]) (c:=true) (v:=v) q ⟨(λx b=>nomatch b),(λx b=>nomatch b),(λd ch av m=>nomatch m)⟩ (by rfl) rfl (λ_=>g) (λh=>by cases h) l;grind
theorem e0f{c d:List Oper}{a:List Nat}:∀ {l:List Oper} {k:Nat},v0i c d a l k=true->∀(i:Nat) (o:Oper),l[i]?=some o->Q0q (k+i) a=true∨W0r c d a (k+i) o=true
 | [],k,_,i,o,h=>by simp at h
 |y::r,k,b,i,o,h=>by
  simp only[v0i,Bool.and_eq_true,Bool.or_eq_true]at b;cases i with
  |zero=>grind
  |succ i =>have:=e0f b.2 i o (by simpa using h);grind
theorem e0j{c d:List Oper}{b:List Nat}:∀ {e:List Nat},V0r c d b e=true->∀ t∈e,z0d t d=false/\m08 b t c 0=true
 | [],_,t,h=>by cases h
 |x::r,a,t,h=>by
  simp only[V0r,Bool.and_eq_true,Bool.not_eq_true']at a;rcases List.mem_cons.1 h with rfl|h;·exact a.1
  exact e0j a.2 t h
theorem Y0q{c a:List Oper}{b:List Nat}{i:Nat}{o:Oper}(h:W0r c a b i o=true):∃ e d,y0d o=some e/\o.dst=some d/\z0d d a=false/\(∀ t∈e,z0d t a=false/\m08 b t c 0=true)/\J09 i d a=true:=by
 unfold W0r at h;split at h;·rename_i t d f g;simp only[Bool.and_eq_true,Bool.not_eq_true']at h;exact⟨t,d,f,g,h.1.1,e0j h.1.2,h.2⟩
 cases h
theorem O0t{ops:Array Oper}{m:Nat}{st:St}{K:St->Hp->Prop}{Q:Exit->Act->World->Prop}(hb:okZ P st.n m ops.toList=true)(he:evT P (A07 P) m ops.toList st h K) (hQ:∀ a w st h be oe H,K st h->Sim P h0 w0 be oe H st h a w->Q .normal a w) (s:Sim P h0 w0 be oe H st h a w):wpAny P .any ops Q ops.size (Array.replicate ops.size false) a w:=by
 simp only[okZ,U06,Y08,Bool.and_eq_true,Bool.or_eq_true]at hb;obtain⟨⟨⟨⟨⟨⟨⟨b1,b2⟩,b3⟩,b4⟩,b5⟩,b6⟩,b7⟩,b8⟩:=hb;generalize hpre:ops.toList.take m=pre at b1 b2 b3 b4 b5 b8;obtain⟨hn,hD⟩:=u08 b1;have hB:∀(k:Nat) (o:Oper),(p7 pre)[k]?=some o->∀ e∈o.after,Region.binds .any e=true->e.on<k:=λk o hk e he' hb=>by have:=v08 b2 k o hk e he' hb;omega
 have hdep:=D0a b3;have hgd:=F0a b4;have hal:=I0o b5;have hBB:∀(k:Nat) (o:Oper),ops.toList[k]?=some o->∀ e∈o.after,Region.binds .any e=true->e.on<k:=λk o hk e he' hb=>by have:=v08 b6 k o hk e he' hb;omega
 obtain⟨sq1,sq2⟩:=C0l b7;unfold evT at he;rw[hpre]at he;obtain⟨A,Lf,Bf,_,_,hP,hall,hfin⟩:=Z0i (ops:=p7 pre) hD (p7 pre) 0 [] [] (λ_=>([],true,.pu .dead)) (λj=>by simp) (by simp)
  ⟨λt x h=>(by cases h),λi oi d hi=>by omega,λi hi=>by omega,λx hx=>(by cases hx)⟩ he
 have hpl:pre.length=min m ops.size:=by rw[←hpre];simp
 have hpg:∀ j,j<m->ops.toList[j]?=pre[j]?:=λj hj=>by rw[←hpre,List.getElem?_take,if_pos hj]
 have hdg:∀ j,(ops.toList.drop m)[j]?=ops.toList[m+j]?:=λj=>List.getElem?_drop;have hsr:∀(i:Nat) (oi:Oper) (d:Nat),(p7 pre)[i]?=some oi->oi.dst=some d->skA pre i=true->∀ o'∈p7 pre,Operand.tmp d ∉ o'.op.operands:=λi oi d q1 q2 q3 o' ho' hc=>by
  rw[u00]at q1;unfold skA at q3;cases e:pre[i]? with
  |none=>rw[e]at q1;cases q1
  |some o0 =>
   rw[e]at q1 q3;cases q1;obtain⟨t,d1,z,k1,k2,k3,k4,k5⟩:=hal o0 (List.mem_of_getElem? e) q3;rw[t00,k3]at q2;cases q2;obtain⟨j,hj⟩:=List.getElem?_of_mem ho';rw[u00]at hj;cases e2:pre[j]? with
   |none=>rw[e2]at hj;cases hj
   |some o1 =>rw[e2]at hj;cases hj;exact k5 o1 (List.mem_of_getElem? e2) (M0o hc)
 have hsb:∀ i,skA pre i=true->(A i).2.2 = .pu (.val undef):=λi q3=>by
  unfold skA at q3;cases e:pre[i]? with
  |none=>rw[e]at q3;cases q3
  |some o0 =>rw[e]at q3;obtain⟨t,d1,z,k1,k2,k3,k4,k5⟩:=hal o0 (List.mem_of_getElem? e) q3;obtain⟨Lj,bj,_,_,_,_,_,hu⟩:=hall i (t02 o0) (Nat.zero_le _) (by rw[u00,e];rfl);refine hu _ ?_;unfold t02;rw[k1];rfl
 let Rest:Nat->Act->World->Prop:=λk a w=>∃ st' h' be oe H,doT (A07 P) (ops.toList.drop k) st' h' K/\Sim P h0 w0 be oe H st' h' a w
 let ml:=o0l ops.toList m [m]
 let Dl:Array Bool->Nat->Prop:=λlisted u=>∃(i:Nat) (o:Oper),pre[i]?=some o/\listed.getD i false=false/\o.dst=some u
 let Lat:Array Bool->Act->Act->Prop:=λlisted as a=>∀(i:Nat) (o:Oper) (t:List Nat) (d:Nat),pre[i]?=some o->listed.getD i false=false->y0d o=some t->o.dst=some d->K05 o a.eval=some (as.tmps.getD d undef)
 let Inv:Array Bool->Act->World->Prop:=λlisted a w=>(∀(j:Nat) (o:Oper),ops[j]?=some o->listed.getD j false=true->∀ e∈o.after,Region.binds .any e=true->listed.getD e.on false=true) /\
  (((∀ k,m<=k->listed.getD k false=false)/\B0g P h0 w0 pre st h A listed a w)∨∃ k as,m<k/\k<=ops.size/\(∀ i,i<k->listed.getD i false=true∨(i<m/\i ∉ ml))/\(∀ i,k<=i->listed.getD i false=false)/\Rest k as w/\d0j as a (Dl listed)/\Lat listed as a)
 have lateOf:m<ops.size->∀(i:Nat) (o:Oper),pre[i]?=some o->i ∉ ml->∃ t d,y0d o=some t/\o.dst=some d/\z0d d (ops.toList.drop m)=false/\(∀ x∈t,z0d x (ops.toList.drop m)=false/\m08 ml x pre 0=true)/\J09 i d (ops.toList.drop m)=true:=λhm i o hi hml=>by
  rcases b8 with h|h
  ·exfalso;have:ops.toList.drop m = []:=by
    cases e:ops.toList.drop m with
    |nil=>rfl
    |cons x r=>rw[e]at h;cases h
   have:=List.drop_eq_nil_iff.1 this;simp at this;omega
  have:=e0f h.1 i o hi;rw[Nat.zero_add]at this;rcases this with h1|h1;·exact absurd (C0g.1 h1) hml
  exact Y0q h1
 have noselT:m<ops.size->n0o (ops.toList.drop m)=true:=λhm=>by
  rcases b8 with h|h
  ·exfalso;have:ops.toList.drop m = []:=by
    cases e:ops.toList.drop m with
    |nil=>rfl
    |cons x r=>rw[e]at h;cases h
   have:=List.drop_eq_nil_iff.1 this;simp at this;omega
  exact h.2
 have preD:∀(i j:Nat) (oi oj:Oper) (d:Nat),pre[i]?=some oi->pre[j]?=some oj->oi.dst=some d->oj.dst=some d->i=j:=λi j oi oj d h1 h2 h3 h4 =>
  hD i j (t02 oi) (t02 oj) d (by rw[u00,h1];rfl) (by rw[u00,h2];rfl) (by rw[t00];exact h3) (by rw[t00];exact h4)
 have preN:∀(i:Nat) (o:Oper) (d:Nat),pre[i]?=some o->o.dst=some d->d<st.n:=λi o d h1 h2 =>
  hn (t02 o) (List.mem_of_getElem? (i:=i) (by rw[u00,h1];rfl)) d (by rw[t00];exact h2)
 have unl:∀ {listed:Array Bool} {j:Nat},listed.getD j true=false->listed.getD j false=false/\j<listed.size:=λ{listed j} hj=>by
  rcases Nat.lt_or_ge j listed.size with h|h;·simp[h]at hj ⊢;exact hj
  simp[Array.getElem?_eq_none h]at hj
 have allpre:∀ {listed:Array Bool} {a:Act} {w:World},(∀ j,j<pre.length->listed.getD j false=true)->B0g P h0 w0 pre st h A listed a w->Rest m a w:=λ{listed a w} hl hi =>
  n0x (K:=λst h=>doT (A07 P) (ops.toList.drop m) st h K) hD hn hsb hal hP hfin hl hi
 have tail:∀ {Q:Exit->Act->World->Prop} {k:Nat} {o:Oper} {a:Act} {w:World},ops[k]?=some o->Rest k a w->o.wp P a w (Rest (k+1)) Q:=λ{Q k o a w} ho hr=>by
  obtain⟨st',h',be,oe,H,hd,s'⟩:=hr;have hk:k<ops.toList.length:=by simpa using (Array.getElem?_eq_some_iff.1 ho).1
  have e:ops.toList.drop k=o::ops.toList.drop (k+1):=by
   rw[List.drop_eq_getElem_cons hk];congr 1;have:ops.toList[k]?=some o:=by simpa using ho
   rw[List.getElem?_eq_getElem hk]at this;exact oJ this
  rw[e]at hd;exact N0o s' hd
 have virt:m<ops.size->∀ {listed:Array Bool} {a:Act} {w:World},listed.size=ops.size->(∀ i,i<m->i∈ml->listed.getD i false=true)->B0g P h0 w0 pre st h A listed a w ->
   ∀ k,k<=pre.length->∃ l2 as,l2.size=ops.size/\(∀ i,i<k->l2.getD i false=true)/\(∀ i,k<=i->l2.getD i false=listed.getD i false)/\B0g P h0 w0 pre st h A l2 as w /\
    d0j as a (λu=>∃(i:Nat) (o:Oper),i<k/\pre[i]?=some o/\listed.getD i false=false/\o.dst=some u) /\
    ∀(i:Nat) (o:Oper) (t:List Nat) (d:Nat),i<k->pre[i]?=some o->listed.getD i false=false->y0d o=some t->o.dst=some d->K05 o a.eval=some (as.tmps.getD d undef):=by
  intro hmN listed a w hsz hml hA k
  induction k with
  |zero=>exact λ_=>⟨listed,a,hsz,λi hi=>by omega,λi _=>rfl,hA,⟨rfl,rfl,λ_ _=>rfl⟩,λi o t d hi=>by omega⟩
  |succ k ih =>
   intro hk
   obtain⟨l2,as,z1,z2,z3,z4,z5,z6⟩:=ih (by omega)
   cases hlk:listed.getD k false with
   |true =>
    refine⟨l2,as,z1,λi hi=>?_,λi hi=>z3 i (by omega),z4,⟨z5.1,z5.2.1,λu hu=>z5.2.2 u λ⟨i,o,q1,q2⟩=>hu ⟨i,o,by omega,q2⟩⟩,λi o t d hi q1 q2 q3 q4=>?_⟩
    ·by_cases e:i=k
     ·subst e;rw[z3 i (Nat.le_refl _)];exact hlk
     ·exact z2 i (by omega)
    ·have:i≠k:=λe=>by subst e;rw[hlk]at q2;cases q2
     exact z6 i o t d (by omega) q1 q2 q3 q4
   |false =>
    obtain⟨o,ho⟩:∃ o,pre[k]?=some o:=⟨pre[k],List.getElem?_eq_getElem (by omega)⟩
    have hkm:k<m:=by omega
    have hkml:k ∉ ml:=λh=>by rw[hml k hkm h]at hlk;cases hlk
    obtain⟨t,d,y1,y2,y3,y5,y6⟩:=lateOf hmN k o ho hkml
    have hg:=(d07 y1).1
    have hl2k:l2.getD k false=false:=by rw[z3 k (Nat.le_refl _)];exact hlk
    have hks:k<l2.size:=by rw[z1];omega
    have hun2:l2.getD k true=false:=by
     simp[hks]at hl2k ⊢;exact hl2k
    have hoL:ops.toList[k]?=some o:=by rw[hpg k hkm];exact ho
    have st1:=(l0y (Q:=λ_ _ _=>False) hD hn hB hdep hgd hP (λj o ho=>hall j o (Nat.zero_le _) ho) hsr hsb hal hun2 ho (λe he1 he2=>z2 e.on (hBB k o hoL e he1 he2)) z4).1 (by unfold Region.wanted;rw[hg])
    obtain⟨v,v1,v2⟩:=o0x y1 st1
    have hasz:as.tmps.size=st.n:=by
     obtain⟨_,_,_,_,_,_,iu,_,_⟩:=z4
     obtain⟨_,_,_,_,_,s,_⟩:=iu
     exact s.siz
    have htne:∀ x∈t,¬ ∃(i:Nat) (o:Oper),i<k/\pre[i]?=some o/\listed.getD i false=false/\o.dst=some x:=λx hx ⟨i,o',q1,q2,q3,q4⟩=>by
     have:=y09 (y5 x hx).2 i o' q2 q4
     rw[Nat.zero_add]at this
     rw[hml i (by omega) this]at q3;cases q3
    rw[J0b y1 λx hx=>z5.2.2 x (htne x hx)]at v1
    rw[y2]at v2
    refine⟨l2.setIfInBounds k true,as.put (some d) v,by simpa using z1,λi hi=>?_,λi hi=>?_,v2,⟨by simp[Act.put,z5.1],z5.2.1,λu hu=>?_⟩,λi o' t' d' hi q1 q2 q3 q4=>?_⟩
    ·by_cases e:k=i
     ·subst e;simp[hks]
     ·rw[getD_set_ne false e];exact z2 i (by omega)
    ·rw[getD_set_ne false (by omega)];exact z3 i (by omega)
    ·rw[e07,if_neg λe=>hu ⟨k,o,by omega,ho,hlk,by rw[y2,e.1]⟩]
     exact z5.2.2 u λ⟨i,o',q1,q2⟩=>hu ⟨i,o',by omega,q2⟩
    ·rw[e07]
     by_cases e:i=k
     ·subst e
      rw[ho]at q1;cases q1
      rw[y1]at q3;cases q3
      rw[y2]at q4;cases q4
      rw[if_pos ⟨rfl,by rw[hasz];exact preN i o d ho y2⟩]
      exact v1
     ·rw[if_neg λh=>e (preD i k o' o d' q1 ho q4 (by rw[y2,h.1]))]
      exact z6 i o' t' d' (by omega) q1 q2 q3 q4
 refine d0z (Inv:=Inv) hBB (λlisted a w j o hsz hun ho hrd hi=>?_) (λlisted a w hl hi=>?_) ops.size _ a w (by simp) (by simp[List.count_replicate]) ⟨λj o _ h=>?_,.inl ⟨λk _=>?_,B0g.start s⟩⟩;rotate_left 2;·simp[Array.getElem?_replicate]at h;split at h<;>cases h
 ·simp[Array.getElem?_replicate];split<;>simp
 rotate_left 1
 ·rcases hi.2 with⟨hm,hA⟩|⟨k,as,k1,k2,k3,k4,hr,lk,lt⟩
  ·have hms:ops.size<=m:=by
    rcases Nat.lt_or_ge m ops.size with h|h;·have:=hm m (Nat.le_refl _);rw[hl m h]at this;cases this
    exact h
   obtain⟨st',h',be,oe,H,hd,s'⟩:=allpre (λj hj=>hl j (by omega)) hA;rw[List.drop_eq_nil_of_le (by simpa using hms)]at hd;exact hQ a w st' h' be oe H hd s'
  have hk:k=ops.size:=by
   rcases Nat.lt_or_ge k ops.size with h|h;·have:=k4 k (Nat.le_refl _);rw[hl k h]at this;cases this
   omega
  subst hk;obtain⟨st',h',be,oe,H,hd,s'⟩:=hr;rw[List.drop_eq_nil_of_le (by simp)]at hd;refine hQ a w st' h' be oe H hd (s'.like lk λu ⟨i,o,q1,q2,q3⟩=>?_);have:=(List.getElem?_eq_some_iff.1 q1).1;rw[hl i (by omega)]at q2;cases q2
 obtain⟨hcl,hi⟩:=hi;obtain⟨hjf,hjs⟩:=unl hun;have hcl':∀(i:Nat) (oi:Oper),ops[i]?=some oi->(listed.setIfInBounds j true).getD i false=true->∀ e∈oi.after,Region.binds .any e=true->(listed.setIfInBounds j true).getD e.on false=true:=λi oi h1 h2 e he1 he2=>by
  by_cases hij:j=i;·subst hij;rw[ho]at h1;cases h1;exact getD_set_true (hrd e he1 he2)
  rw[getD_set_ne false hij]at h2;exact getD_set_true (hcl i oi h1 h2 e he1 he2)
 have hoL:ops.toList[j]?=some o:=by simpa using ho
 have hjlt:j<ops.size:=(Array.getElem?_eq_some_iff.1 ho).1;by_cases hjm:j<m
 ·rcases hi with⟨hm,hA⟩|⟨k,as,k1,k2,k3,k4,hr,lk,lt⟩
  ·have hop:pre[j]?=some o:=by rw[←hpg j hjm];exact hoL
   have st1:=l0y (Q:=Q) hD hn hB hdep hgd hP (λj o ho=>hall j o (Nat.zero_le _) ho) hsr hsb hal hun hop hrd hA;have hyd:Region.wanted o (yielded ops a.tmps)=Region.wanted o (yielded (p7 pre).toArray a.tmps):=by
    unfold Region.wanted;cases hg:o.guard with
    |none=>rfl
    |some p =>
     obtain⟨i,wv⟩:=p;obtain⟨e,he1,he2,he3⟩:=r03 (hgd (t02 o) (List.mem_of_getElem? (i:=j) (by rw[u00,hop];rfl)) i wv (by rw[L0o];exact hg));rw[K0o]at he1;have hlt:=hBB j o hoL e he1 he2;rw[he3]at hlt;have hig:=hpg i (by omega);have:yielded ops a.tmps i=yielded (p7 pre).toArray a.tmps i:=by
      unfold yielded;have e1:ops[i]?=pre[i]?:=by rw[←hig];simp
      have e2:(p7 pre).toArray[i]?=(pre[i]?).map t02:=by simp[u00]
      rw[e1,e2];cases pre[i]? with
      |none=>rfl
      |some o0=>simp[t00]
     simp only[this]
   rw[hyd];have up:∀ a' w',B0g P h0 w0 pre st h A (listed.setIfInBounds j true) a' w'->Inv (listed.setIfInBounds j true) a' w':=λa' w' hx=>⟨hcl',.inl ⟨λk hk=>by rw[getD_set_ne false (by omega)];exact hm k hk,hx⟩⟩;exact⟨λhw=>Oper.wp_mono up (st1.1 hw),λhw=>up _ _ (st1.2 hw)⟩
  have hop:pre[j]?=some o:=by rw[←hpg j hjm];exact hoL
  have hjml:j ∉ ml:=by
   rcases k3 j (by omega)with h|h;·rw[hjf]at h;cases h
   exact h.2
  obtain⟨t,d,y1,y2,y3,y5,y6⟩:=lateOf (by omega) j o hop hjml;have hg:=(d07 y1).1;refine⟨λ_=>?_,λhw=>by unfold Region.wanted at hw;rw[hg]at hw;cases hw⟩;unfold Oper.wp;rw[c0j y1 (lt j o t d hop hjf y1 y2) w];refine⟨hcl',.inr ⟨k,as,k1,k2,λi hi=>?_,λi hi=>?_,hr,⟨by rw[y2];simp[Act.put,lk.1],by rw[y2];exact lk.2.1,λu hu=>?_⟩,λi o' t' d' q1 q2 q3 q4=>?_⟩⟩
  ·rcases k3 i hi with h|h;·exact .inl (getD_set_true h)
   exact .inr h
  ·rw[getD_set_ne false (by omega)];exact k4 i hi
  ·rw[y2,e07];by_cases e:d=u
   ·subst e;by_cases hlt:d<a.tmps.size;·rw[if_pos ⟨rfl,hlt⟩]
    rw[if_neg λh=>hlt h.2];have e1:∀(x:Act),¬ d<x.tmps.size->x.tmps.getD d undef=undef:=λx hx=>by simp[Array.getElem?_eq_none (Nat.le_of_not_lt hx)]
    rw[e1 a hlt,e1 as (by rw[lk.1];exact hlt)]
   rw[if_neg λh=>e h.1];refine lk.2.2 u λ⟨i,o',q1,q2,q3⟩=>?_;by_cases e2:j=i;·subst e2;rw[hop]at q1;cases q1;rw[y2]at q3;cases q3;exact e rfl
   exact hu ⟨i,o',q1,by rw[getD_set_ne false e2];exact q2,q3⟩
  have e2:j≠i:=λe2=>by subst e2;simp[hjs]at q2
  rw[getD_set_ne false e2]at q2;have hi':=(List.getElem?_eq_some_iff.1 q1).1;have himl:i ∉ ml:=by
   rcases k3 i (by omega)with h|h;·rw[q2]at h;cases h
   exact h.2
  obtain⟨t2,d2,x1,x2,x3,x5,x6⟩:=lateOf (by omega) i o' q1 himl;rw[q3]at x1;cases x1;rw[←lt i o' t' d' q1 q2 q3 q4];refine J0b q3 λx hx=>?_;rw[y2,e07,if_neg λh=>?_];have:=y09 (x5 x hx).2 j o hop (by rw[y2,h.1]);rw[Nat.zero_add]at this;exact hjml this
 have hg:o.guard=none:=sq1 o (List.mem_of_getElem? (i:=j-m) (by rw[hdg];rw[show m+(j-m)=j by omega];exact hoL));have prev:m<j->listed.getD (j-1) false=true:=λhlt=>by have:=sq2 (j-m-1) o (by rw[hdg];rw[show m+(j-m-1+1)=j by omega];exact hoL);obtain⟨e,he1,he2,he3⟩:=r03 this;have:=hrd e he1 he2;rw[he3,show m+(j-m-1)=j-1 by omega]at this;exact this
 refine⟨λ_=>?_,λhw=>by unfold Region.wanted at hw;rw[hg]at hw;cases hw⟩;have hmt:o∈ops.toList.drop m:=List.mem_of_getElem? (i:=j-m) (by rw[hdg,show m+(j-m)=j by omega];exact hoL);have go:∀ as,(∀ i,i<j->listed.getD i false=true∨(i<m/\i ∉ ml))->(∀ i,j<=i->listed.getD i false=false)->Rest j as w->d0j as a (Dl listed)->Lat listed as a->o.wp P a w (Inv (listed.setIfInBounds j true)) Q:=λas q1 q2 hr lk lt=>by
  have hjD:∀ u,Dl (listed.setIfInBounds j true) u↔Dl listed u:=λu=>by
   constructor;·rintro⟨i,o',p1,p2,p3⟩;have:=(List.getElem?_eq_some_iff.1 p1).1;rw[getD_set_ne false (by omega)]at p2;exact⟨i,o',p1,p2,p3⟩
   rintro⟨i,o',p1,p2,p3⟩;have:=(List.getElem?_eq_some_iff.1 p1).1;exact⟨i,o',p1,by rw[getD_set_ne false (by omega)];exact p2,p3⟩
  have lateU:∀(i:Nat) (o':Oper),pre[i]?=some o'->listed.getD i false=false->i ∉ ml:=λi o' p1 p2=>by
   have:=(List.getElem?_eq_some_iff.1 p1).1;rcases q1 i (by omega)with h|h;·rw[p2]at h;cases h
   exact h.2
  refine Oper.wp_mono (λa' w' hx=>?_) (p0x (Q:=Q) lk (b0j (noselT (by omega)) o hmt) (λu hu ⟨i,o',p1,p2,p3⟩=>?_) (tail (Q:=λ_ _ _=>False) ho hr))
  ·obtain⟨as',hr',lk',⟨v1,hv1⟩,v2,hv2⟩:=hx;have e1:∀ u,o.dst≠some u->as'.tmps.getD u undef=as.tmps.getD u undef:=λu hu=>by
    cases hd:o.dst with
    |none =>rw[hd]at hv1;rcases hv1 with h|⟨x,h⟩<;>rw[h]<;>rfl
    |some d =>rw[hd]at hv1 hu;rcases hv1 with h|⟨x,h⟩<;>rw[h,e07,if_neg λh=>hu (by rw[h.1])]
   have e2:∀ u,o.dst≠some u->a'.tmps.getD u undef=a.tmps.getD u undef:=λu hu=>by
    cases hd:o.dst with
    |none =>rw[hd]at hv2;rcases hv2 with h|⟨x,h⟩<;>rw[h]<;>rfl
    |some d =>rw[hd]at hv2 hu;rcases hv2 with h|⟨x,h⟩<;>rw[h,e07,if_neg λh=>hu (by rw[h.1])]
   refine⟨hcl',.inr ⟨j+1,as',by omega,by omega,λi hi=>?_,λi hi=>?_,hr',⟨lk'.1,lk'.2.1,λu hu=>lk'.2.2 u λh=>hu ((hjD u).2 h)⟩,λi o' t d p1 p2 p3 p4=>?_⟩⟩
   ·by_cases e:j=i;·subst e;left;simp[hjs]
    rw[getD_set_ne false e];exact q1 i (by omega)
   ·rw[getD_set_ne false (by omega)];exact q2 i (by omega)
   have hi':=(List.getElem?_eq_some_iff.1 p1).1;rw[getD_set_ne false (by omega)]at p2;obtain⟨t2,d2,x1,x2,x3,x5,x6⟩:=lateOf (by omega) i o' p1 (lateU i o' p1 p2);rw[p3]at x1;cases x1;rw[p4]at x2;cases x2;rw[e1 d (b0e x3 o hmt),J0b p3 λx hx=>e2 x (b0e (x5 x hx).1 o hmt)];exact lt i o' t d p1 p2 p3 p4
  obtain⟨t2,d2,x1,x2,x3,x5,x6⟩:=lateOf (by omega) i o' p1 (lateU i o' p1 p2);rw[p3]at x2;cases x2;obtain⟨e,he1,he2,he3⟩:=r03 (G0d x6 o hmt hu);have:=hrd e he1 he2;rw[he3,p2]at this;cases this
 rcases hi with⟨hm,hA⟩|⟨k,as,k1,k2,k3,k4,hr,lk,lt⟩
 ·have hjm':j=m:=by
   rcases Nat.lt_or_ge m j with h|h;·have:=prev h;rw[hm (j-1) (by omega)]at this;cases this
   omega
  subst hjm';have hml:∀ i,i<j->i∈ml->listed.getD i false=true:=λi hi hmi=>by
   have:=a0e (G:=λi=>i=j∨listed.getD i false=true) (ops:=ops.toList) (λi' j' o' hG ho' he'=>?_) j [j] (λx hx => .inl (by simpa using hx)) i hmi
   ·rcases this with h|h;·omega
    exact h
   obtain⟨e,he1,he2,he3⟩:=r03 he';rw[←he3];right;rcases hG with rfl|hG;·rw[hoL]at ho';cases ho';exact hrd e he1 he2
   exact hcl j' o' (by simpa using ho') hG e he1 he2
  obtain⟨l2,as,z1,z2,z3,z4,z5,z6⟩:=virt hjlt (by assumption) hml hA pre.length (Nat.le_refl _);refine go as (λi hi=>?_) hm (allpre (λi hi=>z2 i hi) z4) ⟨z5.1,z5.2.1,λu hu=>z5.2.2 u λ⟨i,o',p1,p2⟩=>hu ⟨i,o',p2⟩⟩ (λi o' t d p1 p2 p3 p4=>z6 i o' t d (List.getElem?_eq_some_iff.1 p1).1 p1 p2 p3 p4);by_cases h:i∈ml;·exact .inl (hml i hi h)
  exact .inr ⟨hi,h⟩
 have hjk:j=k:=by
  have h1:k<=j:=by
   rcases Nat.lt_or_ge j k with h|h
   ·rcases k3 j h with h2|h2;·rw[hjf]at h2;cases h2
    omega
   exact h
  rcases Nat.lt_or_ge k j with h|h;·have:=prev (by omega);rw[k4 (j-1) (by omega)]at this;cases this
  omega
 subst hjk;exact go as k3 k4 hr lk lt
end
section
variable {P:Program} {h0:Hp} {w0:World} {be:Nat->Nat} {oe:Nat->Value} {H:Hp} {h:Hp} {a:Act} {w:World}
structure N0c (P:Program) (st:St) (ops:List Oper) (k:Nat) (L:List (Nat×H00)) (E:List (Nat×Oper)):Prop where
 key:∀ t f,U5 L t=some f->∃(i:Nat) (oi:Oper),i<k/\ops[i]?=some oi/\oi.dst=some t
 each:∀(j:Nat) (o:Oper),j<k->ops[j]?=some o->o.guard=none/\((j,o)∈E∨((∀ p∈E,p.1≠j)/\∃ av,v0d P L o st=some av/\∀ d,o.dst=some d->U5 L d=some (.pu av)))
 eff:∀ p∈E,p.1<k/\ops[p.1]?=some p.2/\∀ d,p.2.dst=some d->∃ F,U5 L d=some (.ef F)
 nd:(E.map λp=>p.1).Nodup
theorem N0c.add{st:St}{ops:List Oper}{k:Nat}{L:List (Nat×H00)}{w C:List (Nat×Oper)}{o:Oper}{f:H00} (H:∀(i j:Nat) (m b:Oper) (d:Nat),ops[i]?=some m->ops[j]?=some b->m.dst=some d->b.dst=some d->i=j) (J:∀(j:Nat) (o:Oper) (t i:Nat) (m:Oper),ops[j]?=some o->Operand.tmp t∈o.op.operands->ops[i]?=some m->m.dst=some t->i<j) (s:N0c P st ops k L w) (u:ops[k]?=some o) (K:o.guard=none) (A:(C=w/\∃ av,f = .pu av/\v0d P L o st=some av)∨(C=w ++ [(k,o)]/\∃ n,f = .ef n)):N0c P st ops (k+1) (o0g o.dst f L) C:=by
 have no:∀ d,o.dst=some d->U5 L d=none:=λd c=>by
  cases h:U5 L d with
  |none=>rfl
  |some g =>obtain⟨i,m,F,z,D⟩:=s.key d g h;have:=H i k m o d z u D c;omega
 have val:∀ t,U5 (o0g o.dst f L) t=if o.dst=some t then some f else U5 L t:=λt=>by
  cases c:o.dst with
  |none=>simp[o0g]
  |some d =>show U5 ((d,f)::L) t=_;rw[w08];simp only[Option.some.injEq]
 have up:∀ t g,U5 L t=some g->U5 (o0g o.dst f L) t=some g:=λt g l=>by
  rw[val];split;·rename_i e;rw[no t e]at l;cases l
  exact l
 have E:∀(j:Nat) (b:Oper),j<=k->ops[j]?=some b->v0d P L b st=v0d P (o0g o.dst f L) b st:=λj b M v=>B0o λt l=>by
  rw[val];split;·rename_i e;have:=J j b t k o v l u e;omega
  rfl
 have lt:∀ p∈w,p.1<k:=λp a=>(s.eff p a).1;refine⟨λt g l=>?_,λj b M v=>?_,λp a=>?_,?_⟩
 ·rw[val]at l;split at l;·rename_i e;exact⟨k,o,oM,u,e⟩
  obtain⟨i,m,F,z⟩:=s.key t g l;exact⟨i,m,oM,z⟩
 ·rcases Nat.lt_or_ge j k with h|h
  ·obtain⟨Q,q⟩:=s.each j b h v;refine⟨Q,?_⟩;rcases q with q|⟨q,av,R,S⟩
   ·left;rcases A with⟨rfl,_⟩|⟨rfl,_⟩;·exact q
    exact List.mem_append_left _ q
   right;refine⟨λp a=>?_,av,by rw[←E j b oM v];exact R,λd c=>up d _ (S d c)⟩;rcases A with⟨rfl,_⟩|⟨rfl,_⟩;·exact q p a
   rcases List.mem_append.1 a with a|a;·exact q p a
   simp at a;subst a;simp;omega
  have:j=k:=oM;subst this;rw[u]at v;cases v;refine⟨K,?_⟩;rcases A with⟨rfl,av,rfl,a⟩|⟨rfl,n,rfl⟩;·right;exact⟨λp a=>by have:=lt p a;omega,av,by rw[←E j o (Nat.le_refl _) u];exact a,λd c=>by rw[val,if_pos c]⟩
  left;simp
 ·have G:p∈w->p.1<k+1/\ops[p.1]?=some p.2/\∀ d,p.2.dst=some d->∃ n,U5 (o0g o.dst f L) d=some (.ef n):=λa=>by obtain⟨F,z,D⟩:=s.eff p a;exact⟨oM,z,λd c=>by obtain⟨n,I⟩:=D d c;exact⟨n,up d _ I⟩⟩
  rcases A with⟨rfl,_⟩|⟨rfl,n,rfl⟩;·exact G a
  rcases List.mem_append.1 a with a|a;·exact G a
  simp at a;subst a;exact⟨oS,u,λd c=>⟨n,by rw[val,if_pos c]⟩⟩
 rcases A with⟨rfl,_⟩|⟨rfl,_⟩;·exact s.nd
 rw[List.map_append,List.nodup_append];refine⟨s.nd,oS,λx N y O e=>?_⟩;obtain⟨p,a,rfl⟩:=List.mem_map.1 N;have:=lt p a;simp at O;omega
theorem K0b{ops:List Oper}{st:St}{K:List (Nat×H00)->List (Nat×Oper)->Prop}
  (e:∀(i j:Nat) (c v:Oper) (d:Nat),ops[i]?=some c->ops[j]?=some v->c.dst=some d->v.dst=some d->i=j)
  (f:∀(j:Nat) (o:Oper) (t i:Nat) (c:Oper),ops[j]?=some o->Operand.tmp t∈o.op.operands->ops[i]?=some c->c.dst=some t->i<j) :
  ∀(l:List Oper) (k:Nat) (L:List (Nat×H00)) (b:List (Nat×Oper)),(∀ j,l[j]?=ops[k+j]?)->N0c P st ops k L b->v0b P st l k L b K->∃ u n m,ops.length<=u/\K n m/\N0c P st ops u n m
 | [],k,L,b,g,h,a=>⟨k,L,b,by have:=g 0;simpa using this,a,h⟩
 |o::l,k,L,b,g,h,a=>by
  have s:ops[k]?=some o:=by simpa using (g 0).symm
  have q:∀ j,l[j]?=ops[k+1+j]?:=λj=>by have:=g (j+1);simpa [Nat.add_assoc,Nat.add_comm 1 j] using this
  simp only[v0b]at a
  split at a
  ·exact a.elim
  ·rename_i p
   split at a
   ·rename_i av w
    rw[I06]at a
    exact K0b e f l (k+1) _ _ q (h.add e f s p (.inl ⟨rfl,av,rfl,w⟩)) a
   ·exact K0b e f l (k+1) _ _ q (h.add e f s p (.inr ⟨rfl,_,rfl⟩)) a
theorem q0x{rd:List Nat}{N:Nat×List Nat}{m n:Nat}{fr:List (Nat×AV)}{bx:List BSt}{ow:List Own}{L:List (Nat×H00)}{h:Hp}{K:St->Hp->Prop}{j:Nat}{o:Oper}{A B:List (Nat×Oper)}(e:∀ y∈A++B,n02 y.1 o=false)
  (c:T0k rd N P (m+1) (A++(j,o)::B) L ⟨n,fr,bx,ow⟩ h K):r0h L fr o.op.operands.toList [] λd=>z00 P o ⟨n,d,bx,ow⟩ h λav st' h'=>match st' with
  |⟨_,_,a,b⟩=>i0y (Y0u N j o) rd bx a/\a06 av λav=>R02 a λa=>R02 b λb=>T0k rd N P m (A++B) (o0g o.dst (.pu av) L) ⟨n,fr,a,b⟩ h' K:=by
 simp only[T0k]at c
 exact d0s (C:=[]) (x:=(j,o)) (by simpa using e) c
def e0z(P:Program)(h0:Hp)(w0:World)(ops:Array Oper)(n:Nat)(fr:List (Nat×AV))(e:List BSt)(g:List Own)(c:List (Nat×Oper))(b:List (Nat×H00))(K:St->Hp->Prop)(f:Array Bool)(a:Act)(w:World):Prop :=
 ∃(r:List (Nat×Oper)) (L:List (Nat×H00)) (bx:List BSt) (ow:List Own) (h:Hp) (be:Nat->Nat) (oe:Nat->Value) (H:Hp),(r.map λp=>p.1).Nodup/\(∀ p∈r,p∈c/\f.getD p.1 true=false)/\(∀ p∈c,p∈r∨f.getD p.1 false=true) /\
  (w0d bx (w05 b ⟨n,fr,e,g⟩ ops.toList)=w0d e (w05 b ⟨n,fr,e,g⟩ ops.toList)∨∀ k,k<ops.size->f.getD k false=true∨k∈p0g c)/\Sim P h0 w0 be oe H ⟨n,V5 ops.toList fr,bx,ow⟩ h a w /\
  T0k (w05 b ⟨n,fr,e,g⟩ ops.toList) (ops.size,p0g c) P (U0k r) r L ⟨n,fr,bx,ow⟩ h K /\
  (∀ t,(U5 b t=none->U5 L t=none)/\∀ av,U5 b t=some (.pu av)->U5 L t=some (.pu av)) /\
  ∀(j:Nat) (o:Oper) (d:Nat),ops[j]?=some o->o.dst=some d->f.getD j false=true->∃ av,U5 L d=some (.pu av)/\J2 ⟨n,fr,bx,ow⟩ be oe av (a.tmps.getD d undef)
theorem Q0z{ops:Array Oper}{n aP:Nat}{fr:List (Nat×AV)}{M:List BSt}{aa:List Own}{D:List (Nat×Oper)}{T:List (Nat×H00)}{K:St->Hp->Prop}{Q:Exit->Act->World->Prop}{s:Array Bool}{j:Nat}{o:Oper} (aA:∀(i j:Nat) (c aQ:Oper) (d:Nat),ops.toList[i]?=some c->ops.toList[j]?=some aQ->c.dst=some d->aQ.dst=some d->i=j) (aM:∀ o∈ops.toList,∀ d,o.dst=some d->d<n) (aw:N0c P ⟨n,fr,M,aa⟩ ops.toList aP T D) (br:ops.toList.length<=aP) (a4:s.getD j true=false) (ar:ops[j]?=some o) (bj:s.size=ops.size) (aF:∀ t,Operand.tmp t∈o.op.operands->∀(i:Nat) (c:Oper),ops.toList[i]?=some c->c.dst=some t->s.getD i false=true) (aH:∀ e∈o.after,Region.binds .any e=true->s.getD e.on false=true) (ap:e0z P h0 w0 ops n fr M aa D T K s a w):o.guard=none/\o.wp P a w (e0z P h0 w0 ops n fr M aa D T K (s.setIfInBounds j true)) Q:=by
 obtain⟨r,L,bx,ow,h',be,oe,H,Y,Z,aG,aC,R,O,U,af⟩:=ap;have ab:ops.toList[j]?=some o:=by simpa using ar
 have aj:o∈ops.toList:=List.mem_of_getElem? ab;have ai:j<ops.toList.length:=(List.getElem?_eq_some_iff.1 ab).1;have aL:j<s.size:=by simpa [bj] using ai
 have aK:=g0n a4;have bo:(∀ p∈D,p.1≠j) -> ¬ ∀ k,k<ops.size->s.getD k false=true∨k∈p0g D:=λa5 e=>by
  rcases e j (by simpa using ai)with b|b;·rw[aK]at b;cases b
  obtain⟨p,l,F⟩:=D0o b;exact a5 p l F
 have up:(∀ k,k<ops.size->s.getD k false=true∨k∈p0g D)->∀ k,k<ops.size->(s.setIfInBounds j true).getD k false=true∨k∈p0g D:=λe k X=>(e k X).imp (λh=>getD_set_true h) id;obtain⟨a3,bb⟩:=aw.each j o oM ab;refine⟨a3,?_⟩;have aW:∀ t,U5 L t≠none->∃(i:Nat) (c:Oper),ops.toList[i]?=some c/\c.dst=some t:=λt q=>by
  cases h0':U5 T t with
  |none=>exact absurd ((U t).1 h0') q
  |some f=>obtain⟨i,c,_,m,N⟩:=aw.key t f h0';exact⟨i,c,m,N⟩
 have frame:∀ t,(∀ ad∈ops.toList,ad.dst≠some t)->J2 ⟨n,fr,bx,ow⟩ be oe (L3 fr t) (a.tmps.getD t undef):=λt q=>by have g:=R.fr t;change J2 _ be oe (L3 (V5 ops.toList fr) t) _ at g;rw[w03 q]at g;exact J2.fr (st:=⟨n,V5 ops.toList fr,bx,ow⟩) (fr:=fr) g
 have au:∀ t,Operand.tmp t∈o.op.operands->(∀ av,U5 L t=some (.pu av)->J2 ⟨n,fr,bx,ow⟩ be oe av (a.tmps.getD t undef))/\(U5 L t=none->J2 ⟨n,fr,bx,ow⟩ be oe (L3 fr t) (a.tmps.getD t undef)):=λt q=>by
  refine⟨λav aB=>?_,λbd=>frame t λad bf C=>?_⟩;·obtain⟨i,c,b,m⟩:=aW t (by rw[aB];simp);obtain⟨J,u,F⟩:=af i c t (by simpa using b) m (aF t q i c b m);rw[aB]at u;cases u;exact F
  obtain⟨i,ap,e⟩:=List.getElem_of_mem bf;have b:ops.toList[i]?=some ad:=by rw[List.getElem?_eq_getElem ap,e]
  obtain⟨J,u,_⟩:=af i ad t (by simpa using b) C (aF t q i ad b C);rw[bd]at u;cases u
 have ac:∀ i,i≠j->∀ d,(s.setIfInBounds j true).getD i d=s.getD i d:=λi z d=>getD_set_ne d (Ne.symm z);have aR:∀ {E:List BSt} {G:List Own} {W:Hp} {be':Nat->Nat} {oe':Nat->Value} {S:Hp} {v:Value} {ae:World},Sim P h0 w0 be' oe' S ⟨n,V5 ops.toList fr,E,G⟩ W a ae->Sim P h0 w0 be' oe' S ⟨n,V5 ops.toList fr,E,G⟩ W (a.put o.dst v) ae:=by
  intro E G W be' oe' S v ae s1;cases C:o.dst with
  |none=>exact s1
  |some d =>
   have l:=s1.put (d:=d) (av := .dead) (v:=v) (aM o aj d C) trivial;refine l.refr (fr:=V5 ops.toList fr) λt=>?_;have g:=l.fr t;change J2 _ _ _ (L3 ((d,.dead)::V5 ops.toList fr) t) _ at g;rw[F4]at g;split at g;·rename_i e;subst e;rw[K04 aj C];trivial
   exact g
 have aU:∀(v:Value) (i:Nat) (c:Oper) (d:Nat),ops[i]?=some c->c.dst=some d->i≠j->(a.put o.dst v).tmps.getD d undef=a.tmps.getD d undef:=λv i c d b m z=>by
  cases C:o.dst with
  |none=>rfl
  |some ax =>
   have aq:ax≠d:=λe=>by subst e;exact z (aA i j c o ax (by simpa using b) ab m C)
   simp[Act.put,Array.getElem?_setIfInBounds_ne aq]
 have aV:∀(v:Value) (d:Nat),o.dst=some d->(a.put o.dst v).tmps.getD d undef=v:=λv d C=>by
  have ai:d<a.tmps.size:=by rw[R.siz];exact aM o aj d C
  rw[C];simp[Act.put,ai]
 have keep:∀ p∈D,p∈r∨(s.setIfInBounds j true).getD p.1 false=true:=λp l=>(aG p l).imp id λh=>getD_set_true h;rcases bb with aJ|⟨aN,av,bg,a0⟩
 ·have a6:(j,o)∈r:=(aG _ aJ).resolve_right λb=>by rw[aK]at b;cases b
  obtain⟨A,B,rfl⟩:=List.append_of_mem a6;have aq:∀ p∈A++B,p.1≠j:=λp l e=>by
   rw[List.map_append,List.map_cons,List.nodup_append,List.nodup_cons]at Y;rcases List.mem_append.1 l with l|l;·exact Y.2.2 _ (List.mem_map.2 ⟨p,l,rfl⟩) j oS e
   exact Y.2.1.1 (List.mem_map.2 ⟨p,l,e⟩)
  have bh:∀ y∈A++B,n02 y.1 o=false:=λy ak=>by
   cases hc:n02 y.1 o;·rfl
   obtain⟨e,an,ao,a2⟩:=r03 hc;have ag:=aH e an ao;have am:=g0n (Z y (by rcases List.mem_append.1 ak with ak|ak<;>simp[ak])).2;rw[a2,am]at ag;cases ag
  rw[h0n,show(A++(j,o)::B).length=U0k (A++B)+1 by rw[h0n];simp;omega]at O;have O:=q0x bh O;obtain⟨az,O,ag⟩:=y05 (acc:=[]) (st:=⟨n,fr,bx,ow⟩) (stX:=⟨n,fr,bx,ow⟩) (be:=be) (oe:=oe) (val:=λt=>a.tmps.getD t undef) (λt=>trivial) (λt q=>au t (by simpa using q)) O;have bm:Sim P h0 w0 be oe H ⟨n,az,bx,ow⟩ h' a w:=R.refr (fr:=az) λt=>J2.fr (st:=⟨n,fr,bx,ow⟩) (fr:=V5 ops.toList fr) (ag t);refine Oper.wp_mono (λbq ae bk=>?_) (H02 bm O);obtain⟨J,⟨I,ay,E,G⟩,W,v,be',oe',S,X,rfl,s2,am,V⟩:=bk;obtain⟨aO,X⟩:=X;rw[I06,H04,H04]at X;have bc:I=n:=by have u:a.tmps.size=I:=s2.siz;have F:a.tmps.size=n:=R.siz;omega
  subst bc;have aX:I8 ⟨I,fr,bx,ow⟩ be oe ⟨I,fr,E,G⟩ be' oe':=⟨V.bl,V.be,V.sm⟩;have aY:I8 ⟨I,V5 ops.toList fr,bx,ow⟩ be oe ⟨I,V5 ops.toList fr,E,G⟩ be' oe':=⟨V.bl,V.be,V.sm⟩;have bn:Sim P h0 w0 be' oe' S ⟨I,V5 ops.toList fr,E,G⟩ W a ae :=
   s2.refr (fr:=V5 ops.toList fr) λt=>J2.fr (st:=⟨I,V5 ops.toList fr,E,G⟩) (fr:=ay) ((R.fr t).grow aY)
  have val:∀ t,U5 (o0g o.dst (.pu J) L) t=if o.dst=some t then some (.pu J)else U5 L t:=λt=>by
   cases C:o.dst with
   |none=>simp[o0g]
   |some d =>show U5 ((d,.pu J)::L) t=_;rw[w08];simp only[Option.some.injEq]
  refine⟨A++B,o0g o.dst (.pu J) L,E,G,W,be',oe',S,?_,λp l=>?_,λp l=>?_,?_,aR bn,X,λt=>?_,λi c d b m N=>?_⟩;·rw[List.map_append,List.map_cons]at Y;rw[List.map_append];exact Y.sublist ((List.sublist_cons_self _ _).append_left _)
  ·rw[ac _ (aq p l)];exact Z p (by rcases List.mem_append.1 l with l|l<;>simp[l])
  ·rcases keep p l with g|g
   ·rcases List.mem_append.1 g with g|g;·exact .inl (List.mem_append_left _ g)
    rcases List.mem_cons.1 g with rfl|g;·right;simp[aL]
    exact .inl (List.mem_append_right _ g)
   exact .inr g
  ·cases hl:Y0u (ops.size,p0g D) j o;·rw[hl]at aO;exact aC.imp (λe=>aO.trans e) up
   right;intro k ba;by_cases hkj:k=j;·subst hkj;left;simp[aL]
   rw[ac k hkj];rcases F0d (show x0b (p0g D) ops.size j o=true from hl) k ba hkj with⟨e,an,ao,rfl⟩|Z;·exact .inl (aH e an ao)
   exact .inr Z
  ·rw[val];split;·rename_i q;obtain⟨_,_,ah⟩:=aw.eff (j,o) aJ;obtain⟨bp,ah⟩:=ah t q;exact⟨λe=>(by rw[ah]at e;cases e),λav e=>(by rw[ah]at e;cases e)⟩
   exact U t
  by_cases z:i=j;·subst z;rw[ar]at b;cases b;exact⟨J,by rw[val,if_pos m],by rw[aV v d m];exact J2.fr (st:=⟨I,ay,E,G⟩) (fr:=fr) am⟩
  rw[ac _ z]at N;obtain⟨al,u,F⟩:=af i c d b m N;have a1:o.dst≠some d:=λe=>z (aA i j c o d (by simpa using b) ab m e);exact⟨al,by rw[val,if_neg a1];exact u,by rw[aU v i c d b m z];exact F.grow aX⟩
 have aD:w0d bx (w05 T ⟨n,fr,M,aa⟩ ops.toList)=w0d M (w05 T ⟨n,fr,M,aa⟩ ops.toList):=aC.resolve_right (bo aN);have aS:∀ {av:AV} {x:Value},J2 ⟨n,fr,bx,ow⟩ be oe av x->J2 ⟨n,V5 ops.toList fr,bx,ow⟩ be oe av x:=λg=>J2.fr (st:=⟨n,fr,bx,ow⟩) (fr:=V5 ops.toList fr) g;obtain⟨v,bi,aZ⟩:=M0t (st:=⟨n,fr,M,aa⟩) (stX:=⟨n,V5 ops.toList fr,bx,ow⟩) R (λbs x i off u F=>w0l aD (Y0i u F aj)) bg (λt q=>⟨λav e=>aS ((au t q).1 av ((U t).2 av e)),λe=>aS ((au t q).2 ((U t).1 e))⟩);refine G9 bi ?_;refine⟨r,L,bx,ow,h',be,oe,H,Y,λp l=>?_,keep,.inl aD,aR R,O,U,λi c d b m N=>?_⟩;·rw[ac _ (aN p (Z p l).1)];exact Z p l
 by_cases z:i=j;·subst z;rw[ar]at b;cases b;exact⟨av,(U d).2 av (a0 d m),by rw[aV v d m];exact J2.fr (st:=⟨n,V5 ops.toList fr,bx,ow⟩) (fr:=fr) aZ⟩
 rw[ac _ z]at N;obtain⟨al,u,F⟩:=af i c d b m N;exact⟨al,u,by rw[aU v i c d b m z];exact F⟩
theorem P0t{ops:Array Oper}{st:St}{K:St->Hp->Prop}{Q:Exit->Act->World->Prop}(y:Sim P h0 w0 be oe H st h a w)(u:Y08 st.n ops.toList=true) (ad:v0b P st ops.toList 0 [] [] λL l=>T0k (w05 L st ops.toList) (ops.size,p0g l) P (U0k l) l L st h K) (ac:∀ a w st h be oe H,K st h->Sim P h0 w0 be oe H st h a w->Q .normal a w):wpAny P .any ops Q ops.size (Array.replicate ops.size false) a w:=by
 simp only[Y08,Bool.and_eq_true]at u;obtain⟨⟨V,W⟩,X⟩:=u;obtain⟨am,N⟩:=u08 V;have M:∀(k:Nat) (o:Oper),ops.toList[k]?=some o->∀ e∈o.after,Region.binds .any e=true->e.on<k:=λk o aj e G u=>by have:=v08 W k o aj e G u;omega
 have O:=D0a X;obtain⟨az,E,l,ak,z,D⟩:=K0b (ops:=ops.toList) N (λj o t i x m q s ab=>by obtain⟨e,G,u,rfl⟩:=O o (List.mem_of_getElem? m) t q i x s ab;exact M j o m e G u) ops.toList 0 [] [] (λj=>oS) ⟨λt f h=>(by cases h),λj o S=>oM,λp c=>(by cases c),oS⟩ ad;obtain⟨n,fr,bx,ow⟩:=st;have lt:∀ p∈l,p.1<ops.size:=λp c=>by have:=(List.getElem?_eq_some_iff.1 (D.eff p c).2.1).1;simpa using this
 refine d0z (Inv:=e0z P h0 w0 ops n fr bx ow l E K) M (λaw a w j o aq S A R b=>?_) (λaw a w I b=>?_) ops.size _ a w oS (by simp[List.count_replicate]) ?_
 ·obtain⟨ag,au⟩:=Q0z (Q:=Q) N am D ak S A aq (λt ar i x ah ai=>by obtain⟨e,ae,af,rfl⟩:=O o (List.mem_of_getElem? (i:=j) (by simpa using A)) t ar i x ah ai;exact R e ae af) R b;have:Region.wanted o (yielded ops a.tmps)=true:=by unfold Region.wanted;rw[ag]
  exact⟨λ_=>au,λh=>by rw[this]at h;cases h⟩
 ·obtain⟨r,L,bx,ax,h',be,oe,H,_,ao,_,_,y,z,T,J⟩:=b;have ap:r = []:=by
   cases r with
   |nil=>rfl
   |cons p aA =>obtain⟨Z,aa⟩:=ao p mS;have:=I p.1 (lt p Z);rw[g0n aa]at this;cases this
  subst ap;simp only[U0k,T0k,H04]at z;refine ac a w _ h' be oe H z (y.refr (fr:=N0q L fr) λt=>?_);rw[A0g];cases hL:U5 L t with
  |none =>
   have al:∀ C∈ops.toList,C.dst≠some t:=λC an F=>by
    obtain⟨i,b,e⟩:=List.getElem_of_mem an;have m:ops[i]?=some C:=by rw[←e];simp at b ⊢
    obtain⟨U,v,_⟩:=J i C t m F (I i (by simpa using b));rw[hL]at v;cases v
   have g:=y.fr t;change J2 _ be oe (L3 (V5 ops.toList fr) t) _ at g;rw[w03 al]at g;exact g
  |some f =>
   cases f with
   |ef ay=>trivial
   |pu av =>
    cases h0':U5 E t with
    |none=>rw[(T t).1 h0']at hL;cases hL
    |some f =>obtain⟨i,x,_,q,s⟩:=D.key t f h0';have b:=(List.getElem?_eq_some_iff.1 q).1;obtain⟨U,v,Y⟩:=J i x t (by simpa using q) s (I i (by simpa using b));rw[hL]at v;cases v;exact J2.fr (st:=⟨n,fr,bx,ax⟩) (fr:=V5 ops.toList fr) Y
 refine⟨l,E,bx,ow,h,be,oe,H,D.nd,λp c=>⟨c,by simp[lt p c]⟩,λp c => .inl c,.inl rfl,y.refr (fr:=V5 ops.toList fr) λt=>?_,z,λt=>⟨id,λav=>id⟩,λj o d m q s=>?_⟩
 ·by_cases hx:∃ o∈ops.toList,o.dst=some t;·obtain⟨o,m,q⟩:=hx;rw[K04 m q];trivial
  rw[w03 λo A F=>hx ⟨o,A,F⟩];exact y.fr t
 simp[Array.getElem?_replicate]at s;split at s<;>cases s
end
section
variable {P:Program} {h0:Hp} {w0:World} {Q:Exit->Act->World->Prop} {ops:Array Oper} {K:RS->Prop}
theorem O0o{be:Nat->Nat}{oe:Nat->Value}{H:Hp}{rs:RS}{a:Act}{w:World}{o:Oper}{i:Nat}{e:RS->Prop}(f:Sim P h0 w0 be oe H rs.st rs.h a w)(r:F0b ops be oe rs a i)(m:ops[i]?=some o) {ch:List (Nat×Bool)} {c:Bool} (j:I01 rs.bs o.guard=some ch) (d:cB rs.bs ch=some c) (k:evG P o ch c rs λav=>V0d o.dst i ch av rs e) : ∃ v b,e b/\F0b ops be oe b (a.put o.dst v) (i+1)/\Sim P h0 w0 be oe H b.st b.h (a.put o.dst v) w/\Region.wanted o (yielded ops a.tmps)=c /\ (c=true->∀ g,CW H w g->o.quietAt P a (CW H w) g v)/\(c=false->v=undef):=by
 obtain⟨av,l,n⟩:=L0t f r d k;have p:=u0l r j d;cases c;·obtain⟨b,q,_,s,t⟩:=K06 (v:=undef) f r m d (λh=>by cases h) (λ_=>rfl) l;grind
 grind[K06]
theorem L0b{be:Nat->Nat}{oe:Nat->Value}{H:Hp}{rs:RS}{a:Act}{w:World}{i:Nat}{ch:List (Nat×Bool)}(c:Sim P h0 w0 be oe H rs.st rs.h a w)(r:F0b ops be oe rs a i)(d:cB rs.bs ch=some true): ∀ l,Sim P h0 w0 be oe H { rs.st with fr:=j0o rs ch l } rs.h a w
 | []=>c
 | .tmp t::l=>by
  have b:=L0b c r d l;have j:∀ f g,I8 { rs.st with fr:=f } be oe { rs.st with fr:=g } be oe:=λ_ _=>⟨Nat.le_refl _,λ_ _=>rfl,λi c h=>⟨c,h,Nat.le_refl _,λ_=>rfl⟩⟩;refine⟨b.mv,b.sub,λi cs ty p=>?_,b.pub,b.own,b.frz,b.bb,b.oo,b.bo,b.dfr,b.siz,λk=>?_⟩;·obtain⟨m,vs,n,o⟩:=b.box i cs ty p;exact⟨m,vs,n.grow (j _ _),o⟩
  show J2 _ be oe (L3 ((t,rdG rs ch (.tmp t))::j0o rs ch l) k) _;rw[F4];by_cases e:t=k;·subst e;rw[if_pos rfl];obtain⟨q,g,e⟩:=c0f c r d (.tmp t);rw[e];exact(c.rdA g).grow (j rs.st.fr _)
  rw[if_neg e];exact(b.fr k).grow (j _ _)
 | .const _::l=>L0b c r d l
 | .global _::l=>L0b c r d l
 | .func _::l=>L0b c r d l
theorem L05(q:∀ rs a w be oe H,K rs->Sim P h0 w0 be oe H rs.st rs.h a w->Q .normal a w):∀(l:List Oper) (i:Nat) (rs:RS) (a:Act) (w:World) (be:Nat->Nat) (oe:Nat->Value) (H:Hp), (∀ j,l[j]?=ops[i+j]?)->Sim P h0 w0 be oe H rs.st rs.h a w->F0b ops be oe rs a i->X0a P l i rs K->wpList P ops Q l a w
 | [],i,rs,a,w,be,oe,H,_,p,_,b=>q rs a w be oe H b p
 |o::l,i,rs,a,w,be,oe,H,J,p,r,b=>by
  have E:ops[i]?=some o:=by simpa using (J 0).symm
  have u:∀ j,l[j]?=ops[i+1+j]?:=λj=>by have:=J (j+1);grind
  have N:∀ ch c,I01 rs.bs o.guard=some ch->cB rs.bs ch=some c->(evG P o ch c rs λav=>V0d o.dst i ch av rs λrs=>X0a P l (i+1) rs K)->wpList P ops Q (o::l) a w:=by
   intro ch c s d b;obtain⟨v,n,f,L,k,y,R,x⟩:=O0o p r E s d b;unfold wpList;rw[y];cases c;·rw[if_neg oS,←x rfl];exact L05 q l (i+1) n _ w be oe H u k L f
   rw[if_pos rfl];refine .inl (Oper.wp_of_quiet (C:=CW H w) (K:=λD=>D=a.put o.dst v) (T2.refl p.mv.vis) (λD A m e=>?_) ⟨v,R rfl,rfl⟩);subst e;exact L05 q l (i+1) n _ A be oe H u (k.still (hf:=H) (λ_ _ h=>h) m) L f
  have M:∀ ch c,I01 rs.bs o.guard=some ch->cB rs.bs ch=some c->((c=true->z00 P o { rs.st with fr:=j0o rs ch o.op.operands.toList } rs.h λav st h=>V0d o.dst i ch av { rs with st:=st,h:=h } λrs=>X0a P l (i+1) rs K) /\
    (c=false->V0d o.dst i ch (.val (.bool false)) rs λrs=>X0a P l (i+1) rs K))->wpList P ops Q (o::l) a w:=by
   intro ch c s d b
   have y:=u0l r s d
   unfold wpList
   rw[y]
   cases c with
   |false =>
    rw[if_neg oS]
    obtain⟨n,f,_,k,z⟩:=K06 (v:=undef) p r E d (λh=>by cases h) (λ_=>rfl) (b.2 rfl)
    exact L05 q l (i+1) n _ w be oe H u z k f
   |true =>
    rw[if_pos rfl]
    refine .inl (Oper.wp_mono (λD A x=>?_) (H02 (Q:=Q) (L0b p r d o.op.operands.toList) (b.1 rfl)))
    obtain⟨av,st',h',v,be',oe',F,G,rfl,I,g,t⟩:=x
    obtain⟨n,f,_,k,z⟩:=K06 (rs := { rs with st:=st',h:=h' }) (ch:=ch) (c:=true) (v:=v) I (r.grow (⟨t.1,t.2,t.3⟩:I8 rs.st be oe st' be' oe')) E d (λ_=>g) (λh=>by cases h) G
    exact L05 q l (i+1) n _ A be' oe' F u z k f
  simp only[X0a]at b;split at b
  ·rename_i O S;have y:Region.wanted o (yielded ops a.tmps)=true:=by unfold Region.wanted;rw[O]
   unfold wpList;rw[if_pos y];refine .inl (Oper.wp_mono (λD A x=>?_) (H02 (Q:=Q) p b));obtain⟨av,st',h',v,be',oe',F,G,rfl,I,g,t⟩:=x;obtain⟨n,f,_,k,z⟩:=K06 (rs := { rs with st:=st',h:=h' }) (ch:=[]) (c:=true) (v:=v) I (r.grow t) E rfl (λ_=>g) (λh=>by cases h) G;exact L05 q l (i+1) n _ A be' oe' F u z k f
  split at b
  ·rename_i ch s;split at b
   ·rename_i c d;split at b;·exact N ch c s d b
    exact M ch c s d b
   exact b.elim
  exact b.elim
theorem D0l{be:Nat->Nat}{oe:Nat->Value}{H:Hp}{w:World}(f:∀ rs a w be oe H,K rs->Sim P h0 w0 be oe H rs.st rs.h a w->Q .normal a w):∀(l:List Oper) (i:Nat) (rs:RS) (a:Act), (∀ j,l[j]?=ops[i+j]?)->Sim P h0 w0 be oe H rs.st rs.h a w->F0b ops be oe rs a i->evQ P l i rs K->wpQuiet P ops (CW H w) (λk=>∀ d,CW H w d->Q .normal k d) l a
 | [],i,rs,a,_,e,_,b=>λd m=>f rs a d be oe H b (e.still (hf:=H) (λ_ _ h=>h) m)
 |o::l,i,rs,a,g,e,r,b=>by
  have s:ops[i]?=some o:=by simpa using (g 0).symm
  have q:∀ j,l[j]?=ops[i+1+j]?:=λj=>by have:=g (j+1);grind
  simp only[evQ]at b;split at b
  ·rename_i ch p;split at b
   ·rename_i c n;obtain⟨v,C,y,z,A,u,t,D⟩:=O0o e r s p n b;have x:=D0l f l (i+1) C _ q A z y;unfold wpQuiet;rw[u];cases c;·grind
    rw[if_pos rfl];exact⟨v,t rfl,x⟩
   exact b.elim
  exact b.elim
theorem F0b.init{be:Nat->Nat}{oe:Nat->Value}{st:St}{h:Hp}{a:Act}:F0b ops be oe ⟨st,h,[],[]⟩ a 0 :=
 ⟨(λx b=>nomatch b),(λx b=>nomatch b),(λd ch av c=>nomatch c)⟩
def s0v(P:Program)(h0:Hp)(w0:World)(Q:Ex->St->Hp->Prop):Exit->Act->World->Prop
 | .normal,a,w=>∃ st h be oe H,Q .normal st h/\Sim P h0 w0 be oe H st h a w
 | .exit i,a,w=>∃ st h be oe H,Q (.exit i) st h/\Sim P h0 w0 be oe H st h a w
 | .ret,a,w=>∃ st h be oe H,Q .ret st h/\Sim P h0 w0 be oe H st h a w
 |_,_,_=>False
variable {be:Nat->Nat} {oe:Nat->Value} {H:Hp} {st:St} {h:Hp} {a:Act} {w:World}
theorem k0n{Q:Ex->St->Hp->Prop}{id:Nat}{d:Bool}(b:Sim P h0 w0 be oe H st h a w)(c:ev P (.region id ops d) Q st h):(Code.region id ops d).wp P (s0v P h0 w0 Q) a w:=by
 cases d
 ·simp only[ev]at c;split at c;·exact wp_region_list ((H0o (h0:=h0) (w0:=w0) c.1 c.2 λa w st h be oe H e b=>⟨st,h,be,oe,H,e,b⟩).2 b)
  exact wp_region_list (L05 (K:=λrs=>Q .normal rs.st rs.h) (λrs a w be oe H e b=>⟨rs.st,rs.h,be,oe,H,e,b⟩) _ 0 ⟨st,h,[],[]⟩ a w be oe H (λj=>oS) b F0b.init c)
 rcases c with⟨⟨f,g⟩,c⟩|c|c|⟨⟨f,g⟩,c⟩|⟨m,⟨f,g⟩,c⟩;·refine wp_region_quiet (C:=CW H w) f g (T2.drawn b.mv.vis _ (by first|exact Nat.le_succ _|exact Nat.le_add_right _ _|exact Nat.le_refl _)) ?_;exact D0l (K:=λrs=>Q .normal rs.st rs.h) (λrs a w be oe H e b=>⟨rs.st,rs.h,be,oe,H,e,b⟩) _ 0 ⟨st,h,[],[]⟩ a (λj=>oS) b F0b.init c
 ·exact c.elim
 ·obtain⟨⟨f,g⟩,c⟩:=c;exact wp_region_any f (P0t (b.still (hf:=H) (λ_ _ h=>h) (T2.drawn b.mv.vis _ oG)) g c λa w st h be oe H e b=>⟨st,h,be,oe,H,e,b⟩)
 ·exact wp_region_any f ((H0o (h0:=h0) (w0:=w0) g c λa w st h be oe H e b=>⟨st,h,be,oe,H,e,b⟩).1 (b.still (hf:=H) (λ_ _ h=>h) (T2.drawn b.mv.vis _ (by first|exact Nat.le_succ _|exact Nat.le_add_right _ _|exact Nat.le_refl _))))
 exact wp_region_any f (O0t g c (λa w st h be oe H e b=>⟨st,h,be,oe,H,e,b⟩) (b.still (hf:=H) (λ_ _ h=>h) (T2.drawn b.mv.vis _ (by first|exact Nat.le_succ _|exact Nat.le_add_right _ _|exact Nat.le_refl _))))
end
theorem f07(x:Nat):∀ l:List Nat,k0d x l=true↔x∈l
 | []=>by simp[k0d]
 |y::r=>by
  simp only[k0d];cases h:Nat.beq x y;·simp[f07 x r,Nat.ne_of_beq_eq_false h]
  simp_all
theorem G0a{x:Nat}{l:List Nat}(h:k0d x l=false):x ∉ l:=λa=>by grind[f07]
theorem E0l:∀(l:List Nat) (K:List Nat->Prop),s0g l K=K l
 | [],K=>rfl
 |x::r,K=>by simp only[s0g,E0l r]
theorem f0f:∀(n:Nat) {K:List Value->Prop},P0e n K->∀ vs:List Value,vs.length=n->K vs
 |0,K,h,vs,a=>by rw[List.length_eq_zero_iff.1 a];exact h
 |n+1,K,h,[],a=>by cases a
 |n+1,K,h,v::vs,a=>f0f n (h v) vs (by simpa using a)
theorem g0f:∀(n:Nat) {K:List (LV)->Prop},Q0e n K->∀ os:List (LV),os.length=n->K os
 |0,K,h,vs,a=>by rw[List.length_eq_zero_iff.1 a];exact h
 |n+1,K,h,[],a=>by cases a
 |n+1,K,h,v::vs,a=>g0f n (h v) vs (by simpa using a)
theorem c0e{c:Type}:∀(a b:List c) (K:List c->List c->Prop),y0b a.length (a++b) K=K a b
 | [],b,K=>rfl
 |x::a,b,K=>by simp only[List.length_cons,List.cons_append,y0b,c0e a b]
theorem D0g(e:St):∀(l:List Nat) {K:List Value->Prop},d0x l e K->∃ vs,vs.length=l.length/\K vs /\ ∀ acc t,(L3 (t0g l vs acc) t=L3 acc t/\t ∉ l)∨(∃ v,L3 (t0g l vs acc) t = .val v/\rdA e (L3 e.fr t) = .val v)
 | [],K,h=>⟨[],rfl,h,λacc t => .inl ⟨rfl,oS⟩⟩
 |b::r,K,h=>by
  simp only[d0x]at h;split at h
  ·rename_i v i;obtain⟨vs,c,d,f⟩:=D0g e r h;refine⟨v::vs,by simp[c],d,λacc t=>?_⟩;rcases f ((b,.val v)::acc) t with⟨a,g⟩|a
   ·by_cases e':b=t;·simp_all[t0g,F4,if_true]
    simp_all[t0g,F4,if_neg,Ne.symm]
   exact .inr a
  exact h.elim
def y08(B:Nat->Nat->Prop):List S6->Prop
 | []=>True
 | .val _::r=>y08 B r
 | .own i k::r=>B i k/\y08 B r
def ShC(e:St):List S6->List S6->Prop
 | [],[]=>True
 | .val _::r,.val _::a=>ShC e r a
 | .own i _::r,.own j c::a=>i=j/\(∃ b,rdA e (.own j c) = .own j b)/\ShC e r a
 |_,_=>False
def EqC(e:St):List S6->List S6->Prop
 | [],[]=>True
 | .val v::r,.val d::a=>v=d/\EqC e r a
 | .own i _::r,.own j c::a=>i=j/\(∃ b,rdA e (.own j c) = .own j b)/\EqC e r a
 |_,_=>False
theorem EqC.sh{e:St}:∀ {cs cs':List S6},EqC e cs cs'->ShC e cs cs'
 | [],[],_=>trivial
 | .val _::r,.val _::a,h=>EqC.sh (cs:=r) (cs':=a) h.2
 | .own i _::r,.own j b::a,h=>⟨h.1,h.2.1,EqC.sh (cs:=r) (cs':=a) h.2.2⟩
 | [],_::_,h=>h.elim
 | .val _::_,[],h=>h.elim
 | .own _ _::_,[],h=>h.elim
 | .val _::_,.own _ _::_,h=>h.elim
 | .own _ _::_,.val _::_,h=>h.elim
theorem h0f{e:St}{i k a b:Nat}(h:rdA e (.own i k) = .own a b):a=i/\b=k:=by grind[rdA]
theorem H0a{g e:St}:∀(cs cs':List S6),N09 g e cs cs'=true->ShC e cs cs'
 | [],[],_=>trivial
 | .val _::r,.val _::c,h=>H0a r c h
 | .own i _::r,.own j k::c,h=>by
  simp only[N09]at h;split at h;·rename_i a b f d;obtain⟨rfl,_⟩:=h0f d;exact⟨Nat.eq_of_beq_eq_true f,⟨_,d⟩,H0a r c h⟩
  cases h
 | [],_::_,h=>by cases h
 | .val _::_,[],h=>by cases h
 | .own _ _::_,[],h=>by cases h
 | .val _::_,.own _ _::_,h=>by cases h
 | .own _ _::_,.val _::_,h=>by cases h
theorem E0g(e:St):∀(cs cs':List S6),ShC e cs cs'->∀ {K:List Value->Prop},q0o cs' e K->∃ vs,K vs/\∃ a,(∀(f:List Value) (c:List S6->List Value->Prop),V06 cs (vs++f) c=c a f)/\EqC e a cs' /\ (∀ B,y08 B cs->y08 B a)
 | [],[],_,K,h=>⟨[],h,[],λ_ _=>rfl,trivial,λ_ h=>h⟩
 | .val _::r,.val v::n,b,K,h=>by obtain⟨vs,g,a,o,l,m⟩:=E0g e r n b (K:=λvs=>K (v::vs)) h;exact⟨v::vs,g,.val v::a,λf c=>by grind[V06],⟨rfl,l⟩,λB d=>m B d⟩
 | .own i k::r,.own j p::n,b,K,h=>by obtain⟨vs,g,a,o,l,m⟩:=E0g e r n b.2.2 (K:=K) h;exact⟨vs,g,.own i k::a,λf c=>by simp only[V06,o],⟨b.1,b.2.1,l⟩,λB d=>⟨d.1,m B d.2⟩⟩
 | [],_::_,h,_,_=>h.elim
 | .val _::_,[],h,_,_=>h.elim
 | .own _ _::_,[],h,_,_=>h.elim
 | .val _::_,.own _ _::_,h,_,_=>h.elim
 | .own _ _::_,.val _::_,h,_,_=>h.elim
theorem F0g(e:St):∀(cs:List S6) {K:List Value->Prop},q0o cs e K->∃ vs,K vs/\∀(b:List Value) (a:List S6->List Value->Prop),V06 cs (vs++b) a=a cs b
 | [],K,h=>⟨[],h,λ_ _=>rfl⟩
 | .val v::r,K,h=>by obtain⟨vs,c,d⟩:=F0g e r (K:=λvs=>K (v::vs)) h;grind[V06]
 | .own i k::r,K,h=>by obtain⟨vs,c,d⟩:=F0g e r (K:=K) h;grind[V06]
theorem F0l{a:Type}(l:List a)(i:Nat)(x:a)(h:nth l i=some x):F02 l i x=l:=by grind[n08,List.getElem?_eq_some_iff,S0e,List.set_getElem_self]
theorem f0s(e:St):∀(is:List Nat) {K:List Value->Prop},O0i is e K->∃ ws,K ws/\∀ a,K09 is ws e.bx a=a e.bx
 | [],K,h=>⟨[],h,λ_=>rfl⟩
 |i::r,K,h=>by
  simp only[O0i]at h;split at h;·rename_i cs ty g;obtain⟨vs,b,c⟩:=F0g e cs h;obtain⟨ws,d,f⟩:=f0s e r b;grind[K09,F0l]
  exact h.elim
theorem g0s(e:St):∀(is:List Nat) {K:List (LV)->Prop},p0l is e K->∃ os,os.length=is.length/\K os/\∀ a,L09 is os e.ow a=a e.ow
 | [],K,h=>⟨[],rfl,h,λ_=>rfl⟩
 |i::r,K,h=>by
  simp only[p0l]at h;split at h;·rename_i g ty sz by_ nn xs f;obtain⟨ws,b,c,d⟩:=g0s e r h;grind[L09,F0l]
  exact h.elim
theorem h0s(e:St):∀(is:List Nat) (bx:List BSt),(∀ i∈is,∃ cs ty cs',nth bx i=some (.live cs ty)/\nth e.bx i=some (.live cs' ty)/\ShC e cs cs')->∀ {K:List Value->Prop},O0i is e K ->
  ∃ ws,K ws/\∃ b,(∀ d,K09 is ws bx d=d b)/\b.length=bx.length/\(∀ i,i ∉ is->nth b i=nth bx i) /\
   (∀ i∈is,∃ c ty cs',nth b i=some (.live c ty)/\nth e.bx i=some (.live cs' ty)/\EqC e c cs') /\
   (∀ B,(∀ i cs ty,nth bx i=some (.live cs ty)->y08 B cs)->(∀ i cs ty,nth b i=some (.live cs ty)->y08 B cs))
 | [],bx,_,K,h=>⟨[],h,bx,λ_=>rfl,rfl,λ_ _=>rfl,oS,λ_ h=>h⟩
 |i::r,bx,s,K,h=>by
  obtain⟨cs,ty,cs',p,f,q⟩:=s i mS
  simp only[O0i,f]at h
  obtain⟨vs,u,c,C,m,D⟩:=E0g e cs cs' q h
  have g:=o04 p
  have t:∀ j∈r,∃ k o l,nth (F02 bx i (.live c ty)) j=some (.live k o)/\nth e.bx j=some (.live l o)/\ShC e k l:=λj a=>by
   rw[n9 _ _ _ g]
   by_cases ej:j=i
   ·subst ej
    rw[if_pos rfl]
    exact⟨c,ty,cs',rfl,f,m.sh⟩
   grind
  obtain⟨ws,v,b,E,w,n,x,y⟩:=h0s e r _ t u
  refine⟨vs++ws,v,b,λd=>by grind[K09],by rw[w,Z08],λj a=>?_,λj a=>?_,λB A=>y B λj z F a=>?_⟩
  ·simp only[List.mem_cons,not_or]at a
   rw[n j a.2,n9 _ _ _ g,if_neg a.1]
  ·by_cases hr:j∈r
   ·exact x j hr
   ·rcases List.mem_cons.1 a with rfl|a
    ·refine⟨c,ty,cs',?_,f,m⟩
     rw[n j hr,n9 _ _ _ g,if_pos rfl]
    ·exact absurd a hr
  grind[n9]
theorem i0s(g:St):∀(is:List Nat) (ow:List Own),(∀ i∈is,∃ f e sz by_ nn k c a xs,nth ow i=some ⟨f,.live e sz by_ nn k⟩/\nth g.ow i=some ⟨c,.live e sz by_ a xs⟩/\(nn=true->a=true)) ->
  ∀ {K:List (LV)->Prop},p0l is g K->∃ os,os.length=is.length/\K os/\∃ d,(∀ l,L09 is os ow l=l d)/\(∀ i,i ∉ is->nth d i=nth ow i) /\
   (∀ i∈is,∃ f e sz by_ nn c a xs,nth d i=some ⟨f,.live e sz by_ nn xs⟩/\nth g.ow i=some ⟨c,.live e sz by_ a xs⟩/\(nn=true->a=true)) /\
   (∀ i,(nth d i).map (·.stamp)=(nth ow i).map (·.stamp))
 | [],ow,_,K,h=>⟨[],rfl,h,ow,λ_=>rfl,λ_ _=>rfl,oS,λ_=>rfl⟩
 |i::r,ow,w,K,h=>by
  obtain⟨f,e,sz,by_,nn,k,c,a,xs,p,q,v⟩:=w i mS
  simp only[p0l,q]at h
  have m:=o04 p
  have x:∀ j∈r,∃ D o u n t k c a E,nth (F02 ow i ⟨f,.live e sz by_ nn xs⟩) j=some ⟨D,.live o u n t k⟩/\nth g.ow j=some ⟨c,.live o u n a E⟩/\(t=true->a=true):=λj b=>by
   rw[n9 _ _ _ m]
   grind
  obtain⟨os,y,z,d,A,s,C,F⟩:=i0s g r _ x h
  refine⟨xs::os,by simp[y],z,d,λl=>by simp only[L09,p,A],λj b=>?_,λj b=>?_,λj=>?_⟩
  ·simp only[List.mem_cons,not_or]at b
   rw[s j b.2,n9 _ _ _ m,if_neg b.1]
  ·by_cases hr:j∈r
   ·exact C j hr
   ·rcases List.mem_cons.1 b with rfl|b
    ·refine⟨f,e,sz,by_,nn,c,a,xs,?_,q,v⟩
     rw[s j hr,n9 _ _ _ m,if_pos rfl]
    ·exact absurd b hr
  grind[n9]
theorem M0b{A:Ann}{m e:St}:∀(i:Nat) (bx c:List BSt),u0g A m e i bx c->∀ k b,nth bx k=some b -> (i+k∈A.boxes/\∃ cs ty cs',b = .live cs ty/\nth c k=some (.live cs' ty)/\ShC e cs cs')∨(i+k ∉ A.boxes/\nth c k=some b/\T0q A.owns b=true)
 |i,[],_,_,k,b,a=>by cases k<;>cases a
 |i,x::r,[],h,_,_,_=>by cases h
 |i,x::r,y::f,h,k,b,a=>by
  simp only[u0g]at h;split at h
  ·rename_i d;split at h
   ·rename_i cs ty cs' n;split at h
    ·rename_i g j;have:=Nat.eq_of_beq_eq_true g;subst this;cases k with
     |zero=>cases a;exact .inl ⟨(f07 _ _).1 d,cs,ty,cs',rfl,rfl,H0a _ _ j⟩
     |succ k=>have:=M0b (i+1) r f h k b a;rwa [show i+1+k=i+(k+1) from oM]at this
    exact h.elim
   exact h.elim
  rename_i d;split at h
  ·rename_i l;obtain⟨rfl,h⟩:=h;cases k with
   |zero=>cases a;exact .inr ⟨G0a d,rfl,l⟩
   |succ k=>have:=M0b (i+1) r f h k b a;rwa [show i+1+k=i+(k+1) from oM]at this
  exact h.elim
theorem N0b{A:Ann}:∀(i:Nat) (ow f:List Own),v0g A i ow f->∀ k b,nth ow k=some b -> (i+k∈A.owns/\∃ g e sz by_ nn n j d xs,b=⟨g,.live e sz by_ nn n⟩/\nth f k=some ⟨j,.live e sz by_ d xs⟩/\(nn=true->d=true)/\(i+k∈A.kept->g=j))∨(i+k ∉ A.owns/\nth f k=some b)
 |i,[],_,_,k,b,a=>by cases k<;>cases a
 |i,x::r,[],h,_,_,_=>by cases h
 |i,x::r,y::m,h,k,b,a=>by
  simp only[v0g]at h;split at h
  ·rename_i c;split at h
   ·rename_i g e sz by_ nn n j u v t d xs;split at h
    ·rename_i o p q s l;have:=Nat.eq_of_beq_eq_true o;subst this;have:=Nat.eq_of_beq_eq_true p;subst this;have:=Nat.eq_of_beq_eq_true q;subst this;cases k with
     |zero=>cases a;exact .inl ⟨(f07 _ _).1 c,_,_,_,_,_,_,_,_,_,rfl,rfl,(λh=>by subst h;exact s),λh=>by rw[show k0d i A.kept=true from(f07 _ _).2 h]at l;exact Nat.eq_of_beq_eq_true l⟩
     |succ k=>have:=N0b (i+1) r m h k b a;rwa [show i+1+k=i+(k+1) from oM]at this
    exact h.elim
   exact h.elim
  rename_i c;obtain⟨rfl,h⟩:=h;cases k with
  |zero=>cases a;exact .inr ⟨G0a c,rfl⟩
  |succ k=>have:=N0b (i+1) r m h k b a;rwa [show i+1+k=i+(k+1) from oM]at this
def i0f(A:Ann)(st:St):AV->Prop
 | .val _ | .hel _ _ _ _ | .dead=>True
 | .agg cs=>X0r cs=true
 | .box i _=>i<st.bx.length
 | .own i k=>(i ∉ A.owns∨i∈A.kept)/\stamp st i=some k
 | .oel _ _ _ _ _=>False
theorem j0s{st:St}{av:AV}{i off:Nat}(h:rdA st av = .box i off):i<st.bx.length:=by
 cases av with
 |box j o =>simp only[rdA]at h;split at h;all_goals simp_all[o04]
 |own j k =>grind[rdA]
 |oel j s idx sz k =>grind[rdA]
 |_=>cases h
theorem G0g{st:St}{av:AV}{i k:Nat}(h:rdA st av = .own i k):stamp st i=some k:=by grind[v0a,stamp]
theorem d0e(A:Ann)(ds:List Nat)(st:St):∀(l:List (Nat×AV)) {K:List (Nat×AV)->Prop},M09 A ds st l K->∃ a,K a/\∀ t,t ∉ ds -> L3 a t = .dead∨(L3 a t=rdA st (L3 l t)/\i0f A st (L3 a t))
 | [],K,h=>⟨[],h,λt _ => .inl rfl⟩
 |(j,av)::r,K,h=>by
  have put:∀ f,(f = .dead∨(f=rdA st av/\i0f A st f))->(M09 A (j::ds) st r λl=>K ((j,f)::l))->∃ a,K a/\∀ t,t ∉ ds ->
    L3 a t = .dead∨(L3 a t=rdA st (L3 ((j,av)::r) t)/\i0f A st (L3 a t)):=by
   intro f q h
   obtain⟨a,c,d⟩:=d0e A (j::ds) st r h
   refine⟨_,c,λt m=>?_⟩
   rw[F4,F4]
   by_cases e:j=t
   ·rw[if_pos e,if_pos e];exact q
   ·rw[if_neg e,if_neg e];exact d t λg=>by
     rcases List.mem_cons.1 g with k|k
     ·exact e k.symm
     ·exact m k
  simp only[M09]at h;split at h;·rename_i g;obtain⟨a,c,d⟩:=d0e A ds st r h;refine⟨a,c,λt m=>?_⟩;rw[F4,if_neg (λe=>m (by rw[←e];exact(f07 _ _).1 g))];exact d t m
  split at h
  ·rename_i i k b;split at h;·exact put _ (.inl rfl) h
   rename_i g;refine put _ (.inr ⟨b.symm,?_,G0g b⟩) h;cases c:k0d i A.owns;·exact .inl (G0a c)
   cases d:k0d i A.kept;·exact absurd d (g c)
   exact .inr ((f07 _ _).1 d)
  ·exact put _ (.inl rfl) h
  ·rename_i cs b;split at h;·rename_i s;exact put _ (.inr ⟨b.symm,s⟩) h
   exact put _ (.inl rfl) h
  rename_i c d p;refine put _ (.inr ⟨rfl,?_⟩) h;cases b:rdA st av with
  |own i k=>exact absurd b (c i k)
  |oel i n idx sz k=>exact absurd b (d i n idx sz k)
  |agg cs=>exact absurd b (p cs)
  |box i o=>exact j0s b
  |val v=>trivial
  |hel n idx sz k=>trivial
  |dead=>trivial
def P0o(st:St)(t:Nat)(av:AV):Prop :=
 av = .dead∨(∃ i k,av = .own i k/\stamp st i=some k/\rdA st (L3 st.fr t) = .own i k)∨(∃ i o,av = .box i o/\i<st.bx.length/\rdA st (L3 st.fr t) = .box i o)
theorem e0e(A:Ann)(st:St):∀(l:List Nat) (acc:List (Nat×AV)) {K:List (Nat×AV)->Prop},headD A st l acc K->(∀ p∈acc,P0o st p.1 p.2) -> ∃ a,K a/\(∀ p∈a,p.1∈l∨p∈acc)/\(∀ p∈a,P0o st p.1 p.2)/\(∀ t∈l,t ∉ A.vars->∃ av,(t,av)∈a)/\(∀ p∈acc,p∈a)
 | [],acc,K,h,f=>⟨acc,h,λp c => .inr c,f,oS,λ_ h=>h⟩
 |d::r,acc,K,h,f=>by
  have put:∀ e,P0o st d e->headD A st r ((d,e)::acc) K->∃ a,K a/\(∀ p∈a,p.1∈d::r∨p∈acc)/\(∀ p∈a,P0o st p.1 p.2)/\(∀ t∈d::r,t ∉ A.vars->∃ av,(t,av)∈a)/\(∀ p∈acc,p∈a):=by intro e s h;obtain⟨a,g,j,m,q,n⟩:=e0e A st r _ h (λp c=>by grind);grind
  simp only[headD]at h;split at h;·rename_i u;obtain⟨a,g,j,m,q,n⟩:=e0e A st r _ h f;refine⟨a,g,λp c=>(j p c).imp (mC _) id,m,λt v w=>?_,n⟩;grind[absurd,f07]
  split at h;·rename_i i k b;exact put _ (.inr (.inl ⟨i,k,rfl,G0g b,b⟩)) h
  ·rename_i i o b;exact put _ (.inr (.inr ⟨i,o,rfl,j0s b,b⟩)) h
  exact put _ (.inl rfl) h
theorem f0j:∀(b a:List (Nat×AV)) (t:Nat),(∃ av,(t,av)∈b/\L3 (b++a) t=av)∨((∀ av,(t,av) ∉ b)/\L3 (b++a) t=L3 a t)
 | [],a,t => .inr ⟨oS,rfl⟩
 |(f,av)::r,a,t=>by
  simp only[List.cons_append];rw[F4];by_cases e:f=t;·grind
  rw[if_neg e];rcases f0j r a t with⟨g,c,d⟩|⟨c,d⟩;all_goals grind
theorem g0j{c e:St}:∀(b:List (Nat×AV)),s0h c e b=true->∀ t av,(t,av)∈b->(∀ i k,av = .own i k->∃ a,rdA e (L3 e.fr t) = .own i a)/\(∀ i o,av = .box i o->rdA e (L3 e.fr t) = .box i o)
 | [],_,t,av,h=>by cases h
 |(f,x)::r,g,t,av,h=>by
  have d:s0h c e r=true/\(∀ i k,x = .own i k->∃ a,rdA e (L3 e.fr f) = .own i a)/\(∀ i o,x = .box i o->rdA e (L3 e.fr f) = .box i o):=by simp only[s0h]at g;grind[Nat.eq_of_beq_eq_true,absurd]
  rcases List.mem_cons.1 h with h|h;·cases h;exact d.2
  exact g0j r d.1 t av h
theorem f0e{fr:List (Nat×AV)}:∀(a:List (Nat×AV)),q0l fr a=F0t a->∀ t,L3 a t = .dead∨L3 fr t=L3 a t
 | [],_,t => .inl rfl
 |(b,av)::r,h,t=>by
  rw[F4];simp only[q0l,F0t]at h;cases hd:S0q av
  ·rw[hd]at h;simp only[List.cons.injEq]at h;by_cases e:b=t;·grind
   rw[if_neg e];exact f0e r h.2 t
  rw[hd]at h;by_cases e:b=t;·rw[if_pos e];left;cases av<;>first|rfl|cases hd
  rw[if_neg e];exact f0e r h t
theorem H0g{e l:St}{be:Nat->Nat}{oe:Nat->Value}:∀ {d cs':List S6} {vs:List Value},EqC e d cs'->y08 (λj k=>∃ c,stamp l j=some c/\k<=c) d->C2 e oe cs' vs->C2 l oe d vs
 | [],[],[],_,_,_=>trivial
 | .val v::r,.val q::o,x::vs,h,a,g=>⟨by rw[show x=q from g.1,h.1];rfl,H0g (be:=be) h.2 a g.2⟩
 | .own i k::r,.own j s::o,x::vs,h,a,g=>by obtain⟨n,⟨b,f⟩,h⟩:=h;subst n;obtain⟨⟨c,s1,s2⟩,a⟩:=a;refine⟨⟨c,s1,s2,λ_=>?_⟩,H0g (be:=be) h a g.2⟩;obtain⟨_,m⟩:=h0f f;subst m;obtain⟨t,p,u,w⟩:=g.1;rw[G0g f]at p;grind
 | [],_::_,_,h,_,_=>h.elim
 | .val _::_,[],_,h,_,_=>h.elim
 | .own _ _::_,[],_,h,_,_=>h.elim
 | .val _::_,.own _ _::_,_,h,_,_=>h.elim
 | .own _ _::_,.val _::_,_,h,_,_=>h.elim
 |_,_::_,[],_,_,g=>g.elim
 |_,[],_::_,_,_,g=>g.elim
theorem I0a{os:List Nat}{e c:St}{oe:Nat->Value}(d:∀ j,j ∉ os->∀ a,stamp c j=some a->stamp e j=some a):∀ {cs:List S6} {vs:List Value},O0e os cs=true -> y08 (λj k=>∃ a,stamp c j=some a/\k<=a) cs->C2 e oe cs vs->C2 c oe cs vs
 | [],[],_,_,_=>trivial
 | .val v::r,x::vs,h,b,g=>⟨g.1,I0a d h b g.2⟩
 | .own i k::r,x::vs,h,b,g=>by
  simp only[O0e]at h;split at h;·cases h
  rename_i l;obtain⟨⟨a,s1,s2⟩,b⟩:=b;refine⟨⟨a,s1,s2,λf=>?_⟩,I0a d h b g.2⟩;obtain⟨m,n,o,p⟩:=g.1;grind[G0a]
 | [],_::_,_,_,g=>g.elim
 |_::_,[],_,_,g=>g.elim
section
variable {P:Program} {h0:Hp} {w0:World} {be:Nat->Nat} {oe:Nat->Value} {H:Hp} {h:Hp} {a:Act} {w:World}
theorem t0v{A:Ann}{e l:St}(c:Sim P h0 w0 be oe H e h a w)(O:e.n=l.n) (J:∀ i b,nth l.bx i=some b->(∃ D ty cs',b = .live D ty/\nth e.bx i=some (.live cs' ty)/\EqC e D cs')∨(nth e.bx i=some b/\T0q A.owns b=true)) (Q:∀ i o,nth l.ow i=some o->(∃ c t sz by_ nn C q xs,o=⟨c,.live t sz by_ nn xs⟩/\nth e.ow i=some ⟨C,.live t sz by_ q xs⟩/\(nn=true->q=true))/\i∈A.owns∨(nth e.ow i=some o/\i ∉ A.owns)) (I:∀ i cs ty,nth l.bx i=some (.live cs ty)->y08 (λj k=>∃ c,stamp l j=some c/\k<=c) cs) (hf:∀ t,J2 l be oe (L3 l.fr t) (a.tmps.getD t undef)):Sim P h0 w0 be oe H l h a w:=by
 have R:∀ j,j ∉ A.owns->∀ c,stamp l j=some c->stamp e j=some c:=λj s m aa=>by grind[stamp,nth,absurd]
 have F:∀ i cs ty,nth l.bx i=some (.live cs ty)->∃ cs',nth e.bx i=some (.live cs' ty):=λi cs ty f=>by grind
 have E:∀ i m t sz by_ nn xs,nth l.ow i=some ⟨m,.live t sz by_ nn xs⟩->∃ C q,nth e.ow i=some ⟨C,.live t sz by_ q xs⟩/\(nn=true->q=true):=λi m t sz by_ nn xs f=>by grind
 refine⟨c.mv,c.sub,λi cs ty f=>?_,λi b f=>?_,λi m t sz by_ nn xs f=>?_,λi m v f=>?_,λi j cs ty cs' V f s=>?_,λi j m t sz by_ nn xs s1 U T M S X g f s=>?_,λi cs ty j m t sz by_ nn xs f s=>?_,c.dfr,by rw[c.siz,O],hf⟩
 ·rcases J i _ f with⟨D,W,cs',x,d,p⟩|⟨d,p⟩;·cases x;obtain⟨y,vs,z,G⟩:=c.box i cs' ty d;exact⟨y,vs,H0g (be:=be) p (I i _ _ f) z,G⟩
  obtain⟨y,vs,z,G⟩:=c.box i cs ty d;exact⟨y,vs,I0a R p (I i _ _ f) z,G⟩
 ·rcases J i _ f with⟨D,W,cs',x,d,p⟩|⟨d,p⟩;·cases x
  exact c.pub i b d
 ·obtain⟨C,q,d,p⟩:=E i _ _ _ _ _ _ f;obtain⟨y,z⟩:=c.own i _ _ _ _ _ _ d;refine⟨y,z.imp (λ⟨K,L,Y⟩=>⟨K,L,?_⟩) id⟩;grind
 ·rcases Q i _ f with⟨⟨s1,U,T,M,S,C,q,X,x,d,p⟩,_⟩|⟨d,_⟩;·cases x
  exact c.frz i m v d
 ·obtain⟨N,u⟩:=F i cs ty f;obtain⟨Z,d⟩:=F j cs' V s;exact c.bb i j _ _ _ _ u d
 ·obtain⟨_,_,u,_⟩:=E i _ _ _ _ _ _ f;obtain⟨_,_,d,_⟩:=E j _ _ _ _ _ _ s;exact c.oo i j _ _ _ _ _ _ _ _ _ _ _ _ g u d
 obtain⟨N,u⟩:=F i cs ty f;obtain⟨_,_,d,_⟩:=E j _ _ _ _ _ _ s;exact c.bo i _ _ j _ _ _ _ _ _ u d
end
section
variable {P:Program} {h0:Hp} {w0:World} {be:Nat->Nat} {oe:Nat->Value} {H:Hp} {st:St} {h:Hp} {a:Act} {w:World}
theorem u0v(b:Sim P h0 w0 be oe H st h a w):∀ i cs ty,nth st.bx i=some (.live cs ty)->y08 (λj k=>∃ b,stamp st j=some b/\k<=b) cs:=by
 intro i cs ty l;obtain⟨_,vs,g,_⟩:=b.box i cs ty l;have:∀(cs:List S6) (vs:List Value),C2 st oe cs vs->y08 (λj k=>∃ b,stamp st j=some b/\k<=b) cs:=by
  intro cs;induction cs with
  |nil=>intro vs _;trivial
  |cons c r d =>
   intro vs g;cases vs with
   |nil=>exact g.elim
   |cons v vs =>
    cases c with
    |val x=>exact d vs g.2
    |own j k =>obtain⟨m,e,f,_⟩:=g.1;exact⟨⟨m,e,f⟩,d vs g.2⟩
 exact this cs vs g
theorem Q0o(p:Nat->Prop)(h:∃ n,p n):∃ n,p n/\∀ m,p m->n<=m:=by
 obtain⟨n,a⟩:=h;induction n using Nat.strongRecOn with
 |_ n b =>grind
theorem k0s:∀(a b:List Value),e0x a b=true->a.length=b.length
 | [],[],_=>rfl
 |_::r,_::c,h=>by simp[k0s r c h]
 | [],_::_,h=>by cases h
 |_::_,[],h=>by cases h
theorem f0z{A:Ann}{ds:List Nat}{st e m:St}{f l:List (Nat×AV)}{y:List Value}{av1:∀ t,(L3 (t0g A.vars y (f++l)) t=L3 (f++l) t/\t ∉ A.vars)∨(∃ v,L3 (t0g A.vars y (f++l)) t = .val v/\rdA e (L3 e.fr t) = .val v)} (K:Sim P h0 w0 be oe H e h a w) (Q:m.fr=t0g A.vars y (f++l)) (D:m.bx.length=st.bx.length) (E:∀ i,stamp m i=stamp st i) (ae:∀ i k,(i ∉ A.owns∨i∈A.kept)->stamp st i=some k->stamp e i=stamp m i) (ab:∀ p∈f,p.1∈ds) (L:∀ p∈f,P0o st p.1 p.2) (ac:∀ t∈ds,t ∉ A.vars->∃ av,(t,av)∈f) (s1:∀ t,t ∉ ds->i0f A st (L3 l t)) (T:∀ t av,(t,av)∈f->(∀ i k,av = .own i k->∃ G,rdA e (L3 e.fr t) = .own i G)/\(∀ i o,av = .box i o->rdA e (L3 e.fr t) = .box i o)) (U:∀ t,L3 l t = .dead∨L3 e.fr t=L3 l t):∀ t,J2 m be oe (L3 m.fr t) (a.tmps.getD t undef):=by
 intro t;rw[Q];have b:=K.fr t;have n:=K.rdA b;rcases av1 t with⟨q,ag⟩|⟨v,q,M⟩
 ·rw[q];rcases f0j f l t with⟨av,s,u⟩|⟨s,u⟩
  ·rw[u];obtain⟨X,Y⟩:=T t av s;rcases L _ s with rfl|⟨i,k,rfl,d,_⟩|⟨i,o,rfl,N,_⟩;·trivial
   ·obtain⟨G,C⟩:=X i k rfl;rw[C]at n;refine⟨k,by rw[E,d],Nat.le_refl _,λ_=>?_⟩;obtain⟨z,ak,aa,ai,al,R⟩:=v0a C;exact n.own_cur R
   rw[Y i o rfl]at n;exact⟨by rw[D];exact N,n.2⟩
  rw[u];have V:t ∉ ds:=λad=>by grind
  rcases U t with O|z;·rw[O];trivial
  have d:=s1 t V;rw[z]at b;cases hl:L3 l t with
  |val v=>rw[hl]at b;exact b
  |hel Z idx sz k=>rw[hl]at b;exact b
  |dead=>trivial
  |agg cs =>
   rw[hl]at b d;obtain⟨vs,I,J⟩:=b;refine⟨vs,I,?_⟩;have:∀(cs:List S6) (vs:List Value),X0r cs=true->C2 e oe cs vs->C2 m oe cs vs:=by
    intro cs;induction cs with
    |nil=>intro vs _ g;cases vs<;>exact g
    |cons c r W =>
     intro vs F g;cases vs with
     |nil=>exact g.elim
     |cons v vs =>
      cases c with
      |val x=>exact⟨g.1,W vs F g.2⟩
      |own j k=>cases F
   exact this cs vs d J
  |box i o =>rw[hl]at b d;exact⟨by rw[D];exact d,b.2⟩
  |own i k =>rw[hl]at b d;obtain⟨af,S⟩:=d;obtain⟨aj,I,J,ah⟩:=b;refine⟨k,by rw[E,S],Nat.le_refl _,λ_=>?_⟩;grind
  |oel i Z idx sz k=>rw[hl]at d;exact d.elim
 rw[q];rw[M]at n;exact n
theorem z0h:∀(l:List (Nat×Nat×Nat×Nat)) (st:St) (oe:Nat->Value) {K:St->Prop},Sim P h0 w0 be oe H st h a w->o0o l st K->∃ st' oe',K st'/\Sim P h0 w0 be oe' H st' h a w
 | [],st,oe,K,d,c=>⟨st,oe,c,d⟩
 |(t,e,sz,by_)::r,⟨n,fr,bx,ow⟩,oe,K,d,c=>by
  simp only[o0o]at c;split at c
  ·rename_i j p;rw[K0e]at c;have f:=d.rdA (d.fr t);have k:a.tmps.getD t undef = .slice none 0 0:=by have:rdA ⟨n,fr,bx,ow⟩ (L3 fr t) = .val (.slice none 0 0):=j;rw[show rdA ⟨n,fr,bx,ow⟩ (L3 (St.mk n fr bx ow).fr t) = .val (.slice none 0 0) from this]at f;exact f
   have g:O09 h H (.slice none 0 0) e sz false []:=⟨oS,.inl ⟨rfl,rfl,rfl⟩⟩;obtain⟨s1,m⟩:=d.newOwn (by_:=by_) (λb o i=>i) (T2.refl d.mv.vis) g (by simp[Value.ownBlock]);refine z0h r _ _ (s1.refr (fr:=(t,.own ow.length 0)::fr) λu=>?_) c;rw[F4];by_cases eu:t=u;·subst eu;rw[if_pos rfl,k];exact⟨0,by simp[stamp,Y04],Nat.le_refl _,λ_=>oS⟩
   rw[if_neg eu];exact s1.fr u
  exact c.elim
theorem j0f:∀(l:List (Nat×Nat×Nat×Nat×Nat)) (st:St) (oe:Nat->Value) {K:St->Prop},Sim P h0 w0 be oe H st h a w->N0i l st K->∃ st' oe',K st'/\Sim P h0 w0 be oe' H st' h a w
 | [],st,oe,K,g,f=>⟨st,oe,f,g⟩
 |(i,k,e,sz,by_)::r,⟨n,fr,bx,ow⟩,oe,K,g,f=>by
  simp only[N0i]at f;split at f;rotate_left;·exact f.elim
  rename_i cs ty C;split at f;rotate_left;·exact f.elim
  rename_i O;rw[K0e]at f;have L:O09 h H (.slice none 0 0) e sz false []:=⟨oS,.inl ⟨rfl,rfl,rfl⟩⟩;obtain⟨s1,X⟩:=g.newOwn (by_:=by_) (λb o M=>M) (T2.refl g.mv.vis) L (by simp[Value.ownBlock]);have A:=o04 C;refine j0f r _ (λj=>if j=ow.length then .slice none 0 0 else oe j) ?_ f;have q:I8 ⟨n,fr,bx,ow ++ [⟨0,.live e sz by_ false []⟩]⟩ be (λj=>if j=ow.length then .slice none 0 0 else oe j) ⟨n,fr,F02 bx i (.live (F02 cs k (.own ow.length 0)) ty),ow ++ [⟨0,.live e sz by_ false []⟩]⟩ be (λj=>if j=ow.length then .slice none 0 0 else oe j) :=
   ⟨by simp[Z08],λ_ _=>rfl,λi g h=>⟨g,h,Nat.le_refl _,λ_=>rfl⟩⟩
  have u:∀ j cs' m,nth (F02 bx i (.live (F02 cs k (.own ow.length 0)) ty)) j=some (.live cs' m)->∃ E,nth bx j=some (.live E m):=λj cs' m d=>by grind[n9]
  refine⟨s1.mv,s1.sub,λj cs' m d=>?_,λj b d=>?_,s1.own,s1.frz,λj x T aa U ab G I=>?_,s1.oo,λj cs' m x Y W Z S nn xs d N=>?_,s1.dfr,s1.siz,λt=>(s1.fr t).grow q⟩
  ·rw[n9 _ _ _ A]at d;split at d;·rename_i F;subst F;cases d;obtain⟨y,vs,p,z⟩:=s1.box j cs ty C;refine⟨y,vs,?_,z⟩;obtain⟨v,ac,R⟩:=p.nth O;have Q:v = .slice none 0 0:=R;have:=(p.grow q).upd (k:=k) (c := .own ow.length 0) (v:=v) (by rw[Q];exact⟨0,by simp[stamp,Y04],Nat.le_refl _,λ_=>oS⟩);rwa [show vs.set k v=vs from by grind[List.getElem?_eq_some_iff,List.set_getElem_self]]at this
   obtain⟨y,vs,p,z⟩:=s1.box j cs' m d;exact⟨y,vs,p.grow q,z⟩
  ·rw[n9 _ _ _ A]at d;split at d;·cases d
   exact s1.pub j b d
  ·obtain⟨D,s⟩:=u _ _ _ G;obtain⟨V,J⟩:=u _ _ _ I;exact s1.bb j x _ _ _ _ s J
  obtain⟨D,s⟩:=u _ _ _ d;exact s1.bo j _ _ x _ _ _ _ _ _ s N
theorem g0e:∀(l:List Nat) {st:St} {h:Hp} {K:St->Hp->Prop},Sim P h0 w0 be oe H st h a w->p0o l st h K->∃ st' h',K st' h'/\Sim P h0 w0 be oe H st' h' a w
 | [],st,h,K,b,c=>⟨st,h,c,b⟩
 |t::r,st,h,K,b,c=>by
  simp only[p0o]at c;obtain⟨⟨n,fr,bx,ow⟩,h',d,s1,_⟩:=I05 b (b.rdA (b.fr t)) c;dsimp only at d;split at d
  ·refine g0e r (s1.refr (fr:=(t,.val (a.tmps.getD t undef))::fr) λu=>?_) d;rw[F4];by_cases eu:t=u;·subst eu;rw[if_pos rfl];rfl
   rw[if_neg eu];exact s1.fr u
  exact d.elim
set_option maxHeartbeats 1000000 in
theorem Z0q{Z:Code}{z:List Nat}{Q:Ex->St->Hp->Prop}
  (E:∀(Q:Ex->St->Hp->Prop) (st:St) (h:Hp) (a:Act) (w:World) (be:Nat->Nat) (oe:Nat->Value) (H:Hp),Sim P h0 w0 be oe H st h a w->ev P Z Q st h->Z.wp P (s0v P h0 w0 Q) a w)
  (g:Sim P h0 w0 be oe H st h a w) (f:Y0r (λQ=>ev P Z Q) z Q st h):(Code.loop Z).wp P (s0v P h0 w0 Q) a w:=by
 obtain⟨A,aP,μ,f⟩:=f
 generalize A.vars++z=z at f
 obtain⟨st,oe,f,g⟩:=z0h _ _ _ g f
 obtain⟨st,oe,f,g⟩:=j0f _ _ _ g f
 obtain⟨st,h,f,g⟩:=g0e _ g f
 unfold R0q at f
 obtain⟨F,bs,f,bt⟩:=D0g st _ f
 obtain⟨ad,f,aF⟩:=f0s st _ f
 obtain⟨ac,bf,⟨aa,f⟩,aG⟩:=g0s st _ f
 rw[E0l]at f
 obtain⟨G,f,aU,aC,aD,_⟩:=e0e A st _ _ f (by simp)
 obtain⟨W,a5,s1⟩:=d0e A z st _ f
 have aV:∀ p∈G,p.1∈z:=λp S=>(aU p S).resolve_right (by simp)
 have bG:∀ t,t ∉ z->i0f A st (L3 W t):=λt bo=>by
  rcases s1 t bo with h|⟨_,h⟩
  ·rw[h];trivial
  ·exact h
 have bh:=λ(vs:List Value) (af:vs.length=(F++ad).length) (os:List (LV)) (ap:os.length=ac.length)=>g0f _ (f0f _ a5 vs af) os ap
 let C:List Value->List BSt->List Own->St:=λF bx ow=>⟨st.n,t0g A.vars F (G++W),bx,ow⟩
 let Inv:Nat->Act->World->Prop:=λm a w=>∃(vs:List Value) (os:List (LV)) (ah aA:List Value) (bx:List BSt) (ow:List Own) (h':Hp) (be:Nat->Nat) (oe:Nat->Value) (H:Hp),
  vs.length=(F++ad).length/\os.length=ac.length/\vs=ah++aA/\ah.length=A.vars.length/\(∀ X,K09 A.boxes aA st.bx X=X bx)/\(∀ X,L09 A.owns os st.ow X=X ow) /\
   atI A aP μ m vs os h'/\Sim P h0 w0 be oe H (C ah bx ow) h' a w
 have aQ:=u0v g
 have a3:∀ m a w,Inv m a w->Z.wp P (Exit.then (λa w=>∃ U,Inv U a w/\U<m) (s0v P h0 w0 Q)) a w:=by
  rintro m a w ⟨vs,os,ah,aA,bx,ow,h',be,oe,H,af,ap,rfl,bq,bi,bk,aa,a1⟩
  have T:=e0v (bh _ af os ap) aa
  rw[←bq,c0e,bi,bk]at T
  refine Code.wp_mono (λe aj aB S=>?_) (E _ _ _ _ _ _ _ _ a1 T)
  cases e with
  |normal =>
   obtain⟨e,l,aR,bD,aO,L,s2⟩:=S
   dsimp only at L
   obtain⟨e,l,L,s2⟩:=g0e _ s2 L
   unfold f0v at L
   split at L
   ·rename_i a4 bj
    obtain⟨bg,bn,bm,s⟩:=L
    have M:=Nat.eq_of_beq_eq_true a4
    have D:=M0b 0 _ _ bn
    have ag:=N0b 0 _ _ bm
    simp only[Nat.zero_add]at D ag
    unfold R0q at s
    obtain⟨ae,aJ,s,bu⟩:=D0g e _ s
    have bb:∀(is:List Nat) {K:List Value->Prop},O0i is e K->(∀ i∈is,i∈A.boxes)->(∀ i∈is,(nth st.bx i).isSome=true) ->
      ∀ i∈is,∃ cs ty cs',nth st.bx i=some (.live cs ty)/\nth e.bx i=some (.live cs' ty)/\ShC e cs cs':=by
     intro is K _ bL aq i d
     cases hb:nth st.bx i with
     |none=>have:=aq i d;rw[hb]at this;cases this
     |some b =>
      grind
    have aq:∀ i∈A.boxes,(nth st.bx i).isSome=true:=by
     have ak:∀(is:List Nat) (vs:List Value) (bx:List BSt),(K09 is vs bx λ_=>True)->∀ i∈is,(nth bx i).isSome=true:=by
      intro is
      induction is with
      |nil=>intro vs bx _ i d;cases d
      |cons j r E =>
       intro vs bx u i d
       simp only[K09]at u
       split at u
       ·rename_i cs ty M
        rcases List.mem_cons.1 d with rfl|d
        ·rw[M];rfl
        ·have a6:∀(cs:List S6) (vs:List Value) (K:List S6->List Value->Prop),V06 cs vs K->∃ a b,K a b:=by
          intro cs
          induction cs with
          |nil=>intro vs K h;exact⟨_,_,h⟩
          |cons c r E =>
           intro vs K h
           cases c with
           |val v =>
            cases vs with
            |nil=>exact h.elim
            |cons bM vs=>obtain⟨a,b,h⟩:=E _ _ h;exact⟨_,_,h⟩
           |own i k=>obtain⟨a,b,h⟩:=E _ _ h;exact⟨_,_,h⟩
         obtain⟨a,b,u⟩:=a6 _ _ _ u
         have:=E _ _ u i d
         rw[n9 _ _ _ (o04 M)]at this
         grind
       ·exact u.elim
     exact ak A.boxes ad st.bx (by rw[aF];trivial)
    have bl:∀ i∈A.owns,(nth st.ow i).isSome=true:=by
     have ak:∀(is:List Nat) (vs:List (LV)) (ow:List Own),(L09 is vs ow λ_=>True)->∀ i∈is,(nth ow i).isSome=true:=by
      intro is
      induction is with
      |nil=>intro vs bx _ i d;cases d
      |cons j r E =>
       intro vs ow u i d
       cases vs with
       |nil=>exact u.elim
       |cons x vs =>
        simp only[L09]at u
        split at u
        ·rename_i M
         rcases List.mem_cons.1 d with rfl|d
         ·rw[M];rfl
         ·have:=E _ _ u i d
          rw[n9 _ _ _ (o04 M)]at this
          grind
        ·exact u.elim
     exact ak A.owns ac st.ow (by rw[aG];trivial)
    obtain⟨aN,s,R,aM,bH,bI,bJ,bK⟩:=h0s e A.boxes st.bx (bb _ s (λ_ h=>h) aq) s
    have bc:∀ i∈A.owns,∃ g I sz by_ nn ai V N xs,nth st.ow i=some ⟨g,.live I sz by_ nn ai⟩/\nth e.ow i=some ⟨V,.live I sz by_ N xs⟩/\(nn=true->N=true):=λi d=>by
     cases hb:nth st.ow i with
     |none=>have:=bl i d;rw[hb]at this;cases this
     |some b =>
      rcases ag i b hb with⟨_,g,I,sz,by_,nn,ai,V,N,xs,rfl,l,al,_⟩|⟨q,_⟩
      ·exact⟨g,I,sz,by_,nn,ai,V,N,xs,rfl,l,al⟩
      ·exact absurd d q
    obtain⟨bE,bz,s,O,aK,bA,bB,bC⟩:=i0s e A.owns st.ow bc s
    split at s
    rotate_left
    ·exact s.elim
    rename_i bd
    rw[←aJ,c0e,aM,aK]at s
    obtain⟨ab,aZ,an⟩:=g0x s
    have ar:∀ i,stamp (C ae R O) i=stamp st i:=λi=>by
     have:=bC i
     unfold stamp
     simp only[C]
     cases q:nth O i<;>cases l:nth st.ow i<;>rw[q,l]at this<;>simp at this<;>simp[this]
    refine⟨ab,⟨ae++aN,bE,ae,aN,R,O,l,aR,bD,aO,?_,?_,rfl,aJ,aM,aK,aZ,?_⟩,an⟩
    ·rw[←af];exact k0s _ _ bd
    ·rw[bz]
     have:ac.length=A.owns.length:=bf
     rw[this]
    ·refine t0v (A:=A) s2 M ?_ ?_ ?_ ?_
     ·intro i b d
      by_cases y:i∈A.boxes
      ·obtain⟨aS,ty,cs',aw,ax,ay⟩:=bJ i y
       have:nth R i=some b:=d
       rw[aw]at this
       cases this
       exact .inl ⟨aS,ty,cs',rfl,ax,ay⟩
      ·have:nth R i=some b:=d
       rw[bI i y]at this
       rcases D i b this with⟨q,_⟩|⟨_,l,al⟩
       ·exact absurd q y
       ·exact .inr ⟨l,al⟩
     ·intro i o d
      by_cases y:i∈A.owns
      ·obtain⟨aL,I,sz,by_,nn,V,N,xs,aw,ax,ay⟩:=bB i y
       have:nth O i=some o:=d
       rw[aw]at this
       cases this
       exact .inl ⟨⟨aL,I,sz,by_,nn,V,N,xs,rfl,ax,ay⟩,y⟩
      ·have:nth O i=some o:=d
       rw[bA i y]at this
       rcases ag i o this with⟨q,_⟩|⟨_,l⟩
       ·exact absurd q y
       ·exact .inr ⟨l,y⟩
     ·intro i cs ty d
      have:=bK _ aQ i cs ty d
      have ba:(λj k=>∃ g,stamp (C ae R O) j=some g/\k<=g)=(λj k=>∃ g,stamp st j=some g/\k<=g):=by
       funext j k;rw[ar]
      rw[ba]
      exact this
     ·refine f0z (A:=A) (ds:=z) (st:=st) (av1:=λt=>bu (G++W) t) s2 rfl bH ar ?_ aV aC aD bG (g0j G bj) (f0e _ bg)
      intro i k d am
      show stamp e i=stamp (C ae R O) i
      rw[ar i]
      cases hb:nth st.ow i with
      |none=>unfold stamp at am;rw[hb]at am;cases am
      |some b =>
       rcases ag i b hb with⟨q,aL,I,sz,by_,nn,ai,V,N,xs,rfl,l,_,aX⟩|⟨_,l⟩
       ·have:=aX (d.resolve_left (λh=>h q))
        simp[stamp,hb,l,this]
       ·unfold stamp
        rw[hb,l]
   ·exact L.elim
  |exit i=>exact S
  |ret=>exact S
  |_=>exact S
 have a2:Sim P h0 w0 be oe H (C F st.bx st.ow) h a w:=by
  refine g.refr (fr:=t0g A.vars F (G++W)) λt=>?_
  have aW:=g.fr t
  have J:=g.rdA aW
  rcases bt (G++W) t with⟨q,br⟩|⟨v,q,l⟩
  ·rw[q]
   rcases f0j G W t with⟨av,az,ab⟩|⟨az,ab⟩
   ·rw[ab]
    rcases aC _ az with rfl|⟨i,k,rfl,_,T⟩|⟨i,o,rfl,_,T⟩
    ·trivial
    ·rw[T]at J;exact J
    ·rw[T]at J;exact J
   ·rw[ab]
    have bp:t ∉ z:=λC=>by
     obtain⟨av,y⟩:=aD t C br
     exact az av y
    rcases s1 t bp with h|⟨h,_⟩
    ·rw[h];trivial
    ·rw[h];exact J
  ·rw[q]
   rw[l]at J
   exact J
 obtain⟨bv,aa⟩:=d0v (μ:=μ) aa
 have aY:Inv bv a w:=⟨F++ad,ac,F,ad,st.bx,st.ow,h,be,oe,H,rfl,rfl,rfl,bs,aF,aG,aa,a2⟩
 classical
 let Y:Act->World->Nat:=λa w=>if D:∃ m,Inv m a w then Classical.choose (Q0o _ D)else 0
 refine wp_loop (λa w=>∃ m,Inv m a w) Y ⟨_,aY⟩ λa w D=>?_
 have a0:Y a w=Classical.choose (Q0o _ D):=by simp only[Y,dif_pos D]
 refine Code.wp_mono (λe aj aB aH=>?_) (a3 _ a w (Classical.choose_spec (Q0o _ D)).1)
 cases e with
 |normal =>
  obtain⟨U,ao,an⟩:=aH
  refine⟨⟨U,ao⟩,?_⟩
  have au:∃ m,Inv m aj aB:=⟨U,ao⟩
  have:Y aj aB=Classical.choose (Q0o _ au):=by simp only[Y,dif_pos au]
  rw[a0,this]
  exact Nat.lt_of_le_of_lt ((Classical.choose_spec (Q0o _ au)).2 U ao) an
 |_=>exact aH
end
section
variable {P:Program} {h0:Hp} {w0:World} {be:Nat->Nat} {oe:Nat->Value} {H:Hp} {st:St} {h:Hp} {a:Act} {w:World}
theorem v0v(c:Code):∀(Q:Ex->St->Hp->Prop) (st:St) (h:Hp) (a:Act) (w:World) (be:Nat->Nat) (oe:Nat->Value) (H:Hp),Sim P h0 w0 be oe H st h a w->ev P c Q st h->c.wp P (s0v P h0 w0 Q) a w:=by
 induction c with
 |skip=>exact λQ st h a w be oe H f j=>wp_skip ⟨st,h,be,oe,H,j,f⟩
 |region id ops d=>grind[k0n]
 |seq x y o p =>
  intro Q st h a w be oe H f j;refine wp_seq (Code.wp_mono (λe a w l=>?_) (o _ _ _ _ _ _ _ _ f j));cases e with
  |normal=>obtain⟨st,h,be,oe,H,k,f⟩:=l;exact p _ _ _ _ _ _ _ _ f k
  |exit i=>exact l
  |ret=>exact l
  |_=>exact l
 |cond c x y o p =>
  intro Q st h a w be oe H f j;simp only[ev]at j;split at j;·rename_i b m;have g:=f.rdO c;rw[m]at g;exact wp_cond_split g (λe=>o _ _ _ _ _ _ _ _ f (j.1 e)) (λe=>p _ _ _ _ _ _ _ _ f (j.2 e))
  exact j.elim
 |block id c n =>
  intro Q st h a w be oe H f j;refine wp_block (Code.wp_mono (λe a w l=>?_) (n _ _ _ _ _ _ _ _ f j));cases e with
  |normal=>exact l
  |exit i =>
   obtain⟨st,h,be,oe,H,k,f⟩:=l;simp only[Exit.inBlock];dsimp only at k;cases m:Nat.beq i id;·rw[m]at k;rw[if_neg (Nat.ne_of_beq_eq_false m)];exact⟨st,h,be,oe,H,k,f⟩
   rw[m]at k;rw[if_pos (Nat.eq_of_beq_eq_true m)];exact⟨st,h,be,oe,H,k,f⟩
  |ret=>exact l
  |_=>exact l
 |loop c n=>exact λQ st h a w be oe H f j=>Z0q n f j
 |exit i=>exact λQ st h a w be oe H f j=>wp_exit ⟨st,h,be,oe,H,j,f⟩
 |ret=>exact λQ st h a w be oe H f j=>wp_ret ⟨st,h,be,oe,H,j,f⟩
 |_=>exact λQ st h a w be oe H f j=>j.elim
def r0x(tmps:Array Value):ResultVar->Sem Value
 | .tmp t=>pure (tmps.getD t undef)
 | .cell a t=>do loadVar t (←asAddr (tmps.getD a undef))
theorem h0e:∀(l:List ResultVar) (st:St) (h:Hp) {K:List Value->St->Hp->Prop},Sim P h0 w0 be oe H st h a w->U0q P l st h K -> ∃ vs st' h',K vs st' h'/\Sim P h0 w0 be oe H st' h' a w/\(l.mapM (r0x a.tmps)).run P w = .ok vs w
 | [],st,h,K,c,d=>⟨[],st,h,d,c,rfl⟩
 | .tmp t::r,st,h,K,c,d=>by obtain⟨n,f,m,s1,_⟩:=I05 c (c.rdA (c.fr t)) d;obtain⟨vs,u,q,p,s2,s⟩:=h0e r n f s1 m;grind[Sem.run_bind,r0x,Sem.run_pure,Result.andThen_ok]
 | .cell t ty::r,st,h,K,c,d=>by
  simp only[U0q]at d;split at d
  ·rename_i i off s;split at d
   ·rename_i cs J D;have g:=c.rdA (c.fr t);rw[s]at g;obtain⟨f,vs,q,z⟩:=c.box i cs J D;obtain⟨av,v,F,G,I⟩:=R.load_row (H:=H) (b:=be i) (o:=0) (be:=be) d q (λj v A=>by simp[Hp.cell,z,A]);obtain⟨n,f,m,s1,_⟩:=I05 c G F;obtain⟨L,u,y,p,s2,E⟩:=h0e r n f s1 m;refine⟨_,u,y,p,s2,?_⟩;have C:(loadVar ty ⟨be i,off,none⟩).run P w = .ok v w:=by obtain⟨x,k,e⟩:=R.wpR_sound _ _ w c.mv.vis (I (λx _=>x=v) rfl);rw[Nat.zero_add]at k;rw[k,e]
    have k:a.tmps.getD t undef=ptr (be i) off:=g.2;simp only[List.mapM_cons,Sem.run_bind,r0x,k,ptr,asAddr,Sem.run_pure,Result.andThen_ok,C,E]
   exact d.elim
  exact d.elim
theorem G0l:∀(args:List Value) (i s:Nat),L3 (R0e i args) s = .dead∨L3 (R0e i args) s = .val (if i<=s then args.getD (s-i) undef else undef)
 | [],i,s => .inl rfl
 |v::r,i,s=>by
  simp only[R0e];rw[F4];by_cases e:i=s;·subst e;right;simp
  rw[if_neg e];rcases G0l r (i+1) s with h'|h';all_goals grind
theorem T2.less{h h' H:Hp}{w d:World}(m:T2 h w H d)(c:∀ b o,h' b=some o->H b=some o):T2 h w h' d:=by
 refine⟨m.os,m.tape,m.output,m.size,m.keep,λb o a=>m.vis b o (c b o a),λb a=>?_,m.fz,m.dn⟩;cases hc:h' b with
 |none=>exact absurd hc a
 |some o=>exact m.fresh b (by rw[c b o hc];simp)
theorem a0r{f:FuncId}{fn:Func}{args:List Value}{n:Value->Hp->Prop}(hf:P.funcs[f]?=some fn)(l:X0y P fn args h n):Tr P f args.toArray h n:=by
 refine⟨λw C=>?_⟩;unfold X0y at l;split at l
 ·rename_i c y;split at l
  ·rename_i q;have q:=Nat.le_of_ble_eq_true q;have D:Sim P h w (λ_=>0) (λ_=>undef) h ⟨fn.ntmps,R0e 0 args,[],[]⟩ h { tmps:=args.toArray++Array.replicate (fn.ntmps-args.toArray.size) undef,defers:=[] } w:=by
    refine⟨T2.refl C,λ_ _ h=>h,(λi cs ty d=>nomatch d),(λi b d=>nomatch d),(λi a e sz by_ nn xs d=>nomatch d),(λi a v d=>nomatch d),(λi j cs ty cs' L d=>nomatch d),
     (λi j a e sz by_ nn xs I F K E G M g d=>nomatch d),(λi cs ty j a e sz by_ nn xs d=>nomatch d),rfl,by simp;omega,λa=>?_⟩
    rcases G0l args 0 a with h'|h';·grind[J2,L3,R0e]
    show J2 _ _ _ (L3 (R0e 0 args) a) _;rw[h'];simp only[Nat.zero_le,if_true,Nat.sub_zero];show _=_;simp only[Array.getD_eq_getD_getElem?];grind
   refine calls_of_wp hf y (Code.wp_mono (λe m p o=>?_) (v0v c _ _ _ _ _ _ _ _ D l));have fin:∀ {st h' be oe H},U0q P fn.results.toList st h' (λvs _ h=>n (t0o vs) h)->Sim P h w be oe H st h' m p->m.defers = []/\∃ v,(results fn m.tmps).run P p = .ok v p/\∃ s h',Ending.returned v = .returned s/\n s h'/\T2 h w h' p:=by
    intro st h' be oe H k a;obtain⟨vs,J,u,t,s2,z⟩:=h0e _ _ _ a k;refine⟨a.dfr,t0o vs,?_,t0o vs,u,rfl,t,s2.mv.less s2.sub⟩;have A:results fn m.tmps=(fn.results.mapM (r0x m.tmps) >>= λvs=>pure (if h:vs.size=1 then vs[0]else .tuple vs)):=by unfold results;congr 1
    rw[A,Array.mapM_eq_mapM_toList];simp only[Sem.run_bind,Sem.run_map,z,Result.andThen_ok,Sem.run_pure];cases vs with
    |nil=>rfl
    |cons x r=>cases r<;>rfl
   cases e with
   |normal=>obtain⟨st,h',be,oe,H,k,a⟩:=o;exact fin k a
   |ret=>obtain⟨st,h',be,oe,H,k,a⟩:=o;exact fin k a
   |exit i=>obtain⟨st,h',be,oe,H,k,a⟩:=o;exact k.elim
   |_=>exact o.elim
  exact l.elim
 exact l.elim
end
open Go.RowKit Go.ChangeShapes Go.WideShapes Go.ChangeAt
theorem Tr.val{P:Program}{f:FuncId}{args:Array Value}{h:Hp}{x:Value}{a:Value->Hp->Prop}(t:Tr P f args h λv h'=>v=x/\h'=h)(d:a x h):Tr P f args h a :=
 t.mono λ_ _ ⟨b,c⟩=>by rw[b,c];exact d
theorem Tr.calls{P:Program}{f:FuncId}{args:Array Value}{c:World}{x:Value}(t:Tr P f args (λb=>c.heap[b]?) λv h'=>v=x/\∀ b o,c.heap[b]?=some o->h' b=some o): Calls P f args c λe d=>e = .returned x/\Below c.heap.size c d/\∀ a:Addr,a.block<c.heap.size->d.frozen? a=c.frozen? a:=by
 refine(t.run c (λb o h=>h)).mono ?_;rintro e d ⟨v,h',rfl,⟨rfl,g⟩,m⟩;refine⟨rfl,⟨m.os,m.tape,m.output,m.size,λk i=>?_⟩,m.fz⟩;have:c.heap[k]?=some c.heap[k]:=by simp[i]
 rw[this];exact m.vis _ _ (g k _ this)
theorem w64{x:Int}(a : -9223372036854775808<=x)(b:x<=9223372036854775807):IntKind.i64.wrap x=x:=by simp[IntKind.wrap,IntKind.signed,IntKind.bits];omega
theorem Q0t{n:Nat}(h:n<=maxLen):n<=9223372036854775807:=by grind[maxLen]
def H0(x:Int):Prop := -9223372036854775808<=x/\x<=9223372036854775807
theorem t0A{x:Int}(h:(Lit.int .i64 x).wf=true):H0 x:=by simpa [Lit.wf,IntKind.min,IntKind.max,IntKind.signed,IntKind.bits,H0] using h
section
variable {H:Type} {enc:TypeId×Value->H} {P:Program}
theorem H0d(i:laidOutB P=true){c f:World}(g:Below c.heap.size c f){m:Nat->Bool}:∀ {e:List TypeId} {vs:List Value} {ds:List (DataW H)} {b:List MemPlace},
  (∀ t∈e,P.readableRec t=true/\t<P.types.size)->DataW.TrodAll enc P c 0 (λ_=>true) true e vs ds b->(∀ p∈b,p.block<c.heap.size)->(∀ p∈b,m p.block=true) ->
  DataW.TrodAll enc P f 0 m true e vs ds b
 | [],vs,ds,b,_,h,_,_=>by
  obtain⟨rfl,rfl,rfl⟩:=trodAll_nil h
  exact rfl
 |t::e,vs,ds,b,l,h,j,k=>by
  obtain⟨v,z,d,y,p,q,rfl,rfl,rfl,n,o⟩:=trodAll_cons h
  obtain⟨u,w⟩:=l t mS
  refine⟨p,q,WideElems.Trod_stays i u w n (λx a=>g.same (j x (List.mem_append_left _ a))) (λx a=>k x (List.mem_append_left _ a)),?_,rfl⟩
  exact H0d i g (λt s=>l t (mC _ s)) o (λx a=>j x (List.mem_append_right _ a)) (λx a=>k x (List.mem_append_right _ a))
theorem T0h{f:Func}{h:ChangeSpec}{n fresh y x:Bool}{i d:World}{args:Array Value}{v:Value}{ds k:List (DataW H)}{e pa pv:List MemPlace} (l:DataW.Whole enc P f.params.toList h.vars n i args.toList ds k e) (u:∀(b:Nat) (g:Nat->Bool) (z:Bool),DataW.TrodAll enc P d b g z f.resultTypes.toList (v.resultList f.resultTypes.size) (h.fn H (ds++k)).results []) (o:∀ g:Nat->Bool,(∀ p∈e,g p.block=true)->DataW.TrodAll enc P d 0 g true f.params.toList args.toList (h.fn H (ds++k)).args pa) (w:∀ g:Nat->Bool,(∀ p∈e,g p.block=true)->DataW.TrodVars enc P d g h.vars (h.fn H (ds++k)).vars pv) (q:e=pa++pv) (C:i.keptBut d (·∈e)) (A:∀ a:Addr,a.block<i.heap.size->d.frozen? a=i.frozen? a) (D:∀(j:Nat) (t:TypeId) (r:Value),f.resultTypes[j]?=some t->(v.resultList f.resultTypes.size)[j]?=some r->Value.okWide P d .any 0 t r) : h.post enc P f n fresh y x i args v d:=by
 have m:=λp c=>l.lt (p:=p) c;refine⟨ds,k,e,[],pa,pv,l,u _ _ _,o _ (λp c=>by simpa using m p c),w _ (λp c=>by simpa using m p c),World.keptBut_mono (λp c=>⟨c,.inr (by rwa [q,List.mem_append]at c)⟩) C,λ_=>?_⟩;obtain⟨_,_,_,_,_,E,F⟩:=l;have s:([]++pa)++pv=e:=by simp[q]
 refine⟨D,_,_,([]++pa)++pv,⟨[]++pa,pv,trodAll_append (o _ (λ_ _=>rfl)) (u _ _ _),w _ (λ_ _=>rfl),rfl,?_,?_⟩,λp c _=>by rwa [s]at c⟩;·intro b off c;rw[s]at c;rw[A _ (m _ c)];exact E b off c
 grind
theorem w0v{f:Func}{c:ChangeSpec}{g fresh w o:Bool}{b d:World}{args:Array Value}{ds h:List (DataW H)}{s:List MemPlace}{n:TypeId} (D:laidOutB P=true) (F:∀ t∈f.params.toList,P.readableRec t=true/\t<P.types.size) (m:c.vars = []) (j:c.fn H (ds++h) = { results:=[.lit (.bool true)],args:=ds }) (k:f.resultTypes = #[n]) (l:P.underlying n=some .bool) (e:DataW.Whole enc P f.params.toList c.vars g b args.toList ds h s) (u:Below b.heap.size b d) (x:∀ a:Addr,a.block<b.heap.size->d.frozen? a=b.frozen? a):c.post enc P f g fresh w o b args (.bool true) d:=by
 have E:=λp y=>e.lt (p:=p) y;have v:=e;obtain⟨p,q,C,i,rfl,_,_⟩:=e;rw[m]at i;obtain⟨rfl,rfl⟩:=trodVars_none i;refine T0h (pa:=p) (pv:=[]) v (λ_ _ _=>?_) (λA z=>?_) (λA z=>?_) rfl (u.frame _) x (ok_one k rfl (okWide_bool_mk l _));·rw[j,k];exact trodAll_mk1 (shut_bool l _)
 ·grind[H0d,List.mem_append_left]
 rw[j,m];exact rfl
end
end Go.H
