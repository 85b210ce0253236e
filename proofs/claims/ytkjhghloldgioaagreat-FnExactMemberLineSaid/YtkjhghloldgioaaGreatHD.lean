/- The library of the walks, part HD: plain laws over the model. -/
import Derived.Test.YtkjhghloldgioaaGreatHC
import Derived.ProofKit
namespace Go.H
set_option linter.unusedVariables false
set_option linter.unusedSimpArgs false
theorem F7{i:Nat}{o:Oper}(h:Z8 i o=true):∃ e∈o.after,Region.binds .any e=true/\e.on=i:=by
 unfold Z8 at h
 rw[List.any_eq_true]at h
 simp_all
theorem q06{o:Oper}{t:Nat}:∀ {l:List Oper} {i:Nat},i01 o t l i=true->∀ k x,l[k]?=some x->x.dst=some t->Z8 (i+k) o=true
 | [],i,h,k,x,a,b=>by simp at a
 |y::r,i,h,0,x,a,b=>by
  simp_all[i01,Nat.beq_refl,Bool.and_eq_true]
 |y::r,i,h,k+1,x,a,b=>by
  simp only[List.getElem?_cons_succ]at a
  have c:i01 o t r (i+1)=true:=by
   simp only[i01]at h
   grind
  have:=q06 c k x a b
  rwa [show i+1+k=i+(k+1) from by omega]at this
theorem n02{o:Oper}{ops:List Oper}:∀ {l:List Operand},F08 o ops l=true->∀ t,Operand.tmp t∈l->i01 o t ops 0=true
 | [],h,t,a=>by cases a
 | .tmp u::r,h,t,a=>by
  simp only[F08,Bool.and_eq_true]at h
  rcases List.mem_cons.1 a with e|a
  ·cases e;exact h.1
  ·exact n02 h.2 t a
 | .const v::r,h,t,a=>by
  rcases List.mem_cons.1 a with e|a
  ·cases e
  ·exact n02 (l:=r) h t a
 | .global v::r,h,t,a=>by
  rcases List.mem_cons.1 a with e|a
  ·cases e
  ·exact n02 (l:=r) h t a
 | .func v::r,h,t,a=>by
  rcases List.mem_cons.1 a with e|a
  ·cases e
  ·exact n02 (l:=r) h t a
theorem y05{ops:List Oper}:∀ {l:List Oper},W0j ops l=true->∀ o∈l,∀ t,Operand.tmp t∈o.op.operands->∀ k x,ops[k]?=some x->x.dst=some t->∃ e∈o.after,Region.binds .any e=true/\e.on=k
 | [],h,o,a=>by cases a
 |y::r,h,o,a=>by
  simp only[W0j,Bool.and_eq_true]at h
  rcases List.mem_cons.1 a with rfl|a
  ·intro t d k x c b
   have:=q06 (n02 h.1 t (by simpa using d)) k x c b
   simp_all[Nat.zero_add,F7]
  ·exact y05 h.2 o a
theorem y04{d:Nat}:∀ {l:List Oper},g06 d l=true->∀ o∈l,o.dst≠some d
 | [],h,o,a=>by cases a
 |y::r,h,o,a=>by
  simp only[g06]at h
  split at h
  ·rename_i c b
   simp only[Bool.and_eq_true,Bool.not_eq_true']at h
   rcases List.mem_cons.1 a with rfl|a
   ·grind[Nat.ne_of_beq_eq_false]
   ·exact y04 h.2 o a
  ·rename_i b
   rcases List.mem_cons.1 a with rfl|a
   ·grind
   ·exact y04 h o a
theorem N03{n:Nat}:∀ {l:List Oper},K0g n l=true->(∀ o∈l,∀ d,o.dst=some d->d<n) /\
  ∀(i j:Nat) (a b:Oper) (d:Nat),l[i]?=some a->l[j]?=some b->a.dst=some d->b.dst=some d->i=j
 | [],h=>⟨by simp,λi j a b d f=>by simp at f⟩
 |y::r,h=>by
  simp only[K0g]at h
  split at h
  ·rename_i d p
   simp only[Bool.and_eq_true]at h
   obtain⟨⟨v,k⟩,m⟩:=h
   obtain⟨g,s⟩:=N03 m
   have x:=y04 k
   refine⟨λo c e q=>?_,λi j a b e f w t u=>?_⟩
   ·rcases List.mem_cons.1 c with rfl|c
    ·simp_all
    ·exact g o c e q
   grind
  ·rename_i p
   obtain⟨g,s⟩:=N03 h
   grind
theorem E02:∀ {l:List Oper} {j:Nat},a0b l j=true->∀ k o,l[k]?=some o->∀ e∈o.after,Region.binds .any e=true->e.on<j+k
 | [],j,h,k,o,a=>by simp at a
 |y::r,j,h,k,o,a=>by
  simp only[a0b,Bool.and_eq_true,List.all_eq_true]at h
  cases k with
  |zero =>
   simp at a
   subst a
   intro e b c
   have:=h.1 e (by simpa using b)
   simp_all
  |succ k =>
   simp at a
   intro e b c
   have:=E02 h.2 k o a e b c
   omega
def N3:List Oper->List (Nat×AV)->List (Nat×AV)
 | [],fr=>fr
 |o::r,fr=>match o.dst with
  |some d=>(d,.dead)::N3 r fr
  |none=>N3 r fr
theorem r00{t:Nat}:∀ {l:List Oper} {fr:List (Nat×AV)},(∀ o∈l,o.dst≠some t)->D2 (N3 l fr) t=D2 fr t
 | [],fr,h=>rfl
 |o::r,fr,h=>by
  have c:=r00 (fr:=fr) λb a=>h b (mC _ a)
  simp only[N3]
  split
  all_goals simp_all[D3,if_neg,List.mem_cons_self]
theorem k01{t:Nat}:∀ {l:List Oper} {fr:List (Nat×AV)} {o:Oper},o∈l->o.dst=some t->D2 (N3 l fr) t = .dead
 | [],fr,o,h,_=>by cases h
 |y::r,fr,o,h,a=>by
  simp only[N3]
  split
  ·rename_i d b
   rw[D3]
   split
   ·rfl
   ·rename_i c
    rcases List.mem_cons.1 h with rfl|h
    ·grind
    ·exact k01 h a
  ·rename_i b
   rcases List.mem_cons.1 h with rfl|h
   ·rw[a]at b;cases b
   ·exact k01 h a
theorem I9(d:Nat)(f:V5)(r:List (Nat×V5))(s:Nat):P2 ((d,f)::r) s=if d=s then some f else P2 r s:=by
 simp only[P2]
 cases h:Nat.beq d s with
 |true=>rw[if_pos (Nat.eq_of_beq_eq_true h)]
 |false=>rw[if_neg (Nat.ne_of_beq_eq_false h)]
section
variable {P:Program} {h0:Hp} {w0:World} {be:Nat->Nat} {oe:Nat->Value} {H:Hp} {h:Hp} {a:Act} {w:World}
theorem Sim.refr{st:St}(b:Sim P h0 w0 be oe H st h a w){fr:List (Nat×AV)}(hf:∀ t,O1 st be oe (D2 fr t) (a.tmps.getD t undef)):Sim P h0 w0 be oe H { st with fr:=fr } h a w:=by
 have c:F6 st be oe { st with fr:=fr } be oe:=⟨Nat.le_refl _,λ_ _=>rfl,λi b h=>⟨b,h,Nat.le_refl _,λ_=>rfl⟩⟩
 refine⟨b.mv,b.sub,λi cs ty g=>?_,b.pub,b.own,b.frz,b.bb,b.oo,b.bo,b.dfr,b.siz,λt=>(hf t).grow c⟩
 obtain⟨d,vs,e,f⟩:=b.box i cs ty g
 exact⟨d,vs,e.grow c,f⟩
def z04(st:St)(be:Nat->Nat)(oe:Nat->Value)(h:Hp):V5->Value->Prop
 | .pu av,v=>O1 st be oe av v
 | .ef F,v=>F v h
theorem M01{L:List (Nat×V5)}{st:St}{h:Hp}{val:Nat->Value}{K:List (Nat×AV)->Prop}:∀ {l:List Operand} {acc:List (Nat×AV)},
  (∀ t,O1 st be oe (D2 acc t) (val t))->(∀ t,Operand.tmp t∈l->(∀ f,P2 L t=some f->z04 st be oe h f (val t))/\(P2 L t=none->O1 st be oe (D2 st.fr t) (val t))) ->
  d0c L st h l acc K->∃ fr,K fr/\∀ t,O1 st be oe (D2 fr t) (val t)
 | [],acc,c,b,a=>⟨acc,a,c⟩
 | .tmp t::r,acc,c,b,a=>by
  have i:∀ u,Operand.tmp u∈r->_:=λu d=>b u (mC _ d)
  have j:=b t mS
  have put:∀ av,O1 st be oe av (val t)->∀ u,O1 st be oe (D2 ((t,av)::acc) u) (val u):=λav g u=>by
   grind[D3]
  simp only[d0c]at a
  split at a
  ·rename_i av e
   exact M01 (put av (j.1 _ e)) i a
  ·rename_i F e
   exact M01 (put (.val (val t)) rfl) i (a _ (j.1 _ e))
  ·rename_i e
   exact M01 (put _ (j.2 e)) i a
 | .const v::r,acc,c,b,a=>M01 (l:=r) c (λu d=>b u (mC _ d)) a
 | .global v::r,acc,c,b,a=>M01 (l:=r) c (λu d=>b u (mC _ d)) a
 | .func v::r,acc,c,b,a=>M01 (l:=r) c (λu d=>b u (mC _ d)) a
def J0q(P:Program)(st:St)(h:Hp)(L:List (Nat×V5))(o:Oper):Prop :=
 o.guard=none/\∃ f,(∀ d,o.dst=some d->P2 L d=some f)/\match f with
  | .pu av=>T0i P L o st=some av
  | .ef F=>(∀ v b c,Sub b c->F v b->F v c)/\∀ a,Sub h a->d0c L st a o.op.operands.toList [] λfr=>U7 P o { st with fr:=fr } a (q0q { st with fr:=fr } a F)
theorem Z09:∀ {L:List (Nat×V5)} {t:Nat} {f:V5},P2 L t=some f->(t,f)∈L
 | [],t,f,h=>by cases h
 |(d,a)::r,t,f,h=>by
  rw[I9]at h
  split at h
  ·grind
  ·exact mC _ (Z09 h)
theorem x0o{st:St}{L:List (Nat×V5)}{o:Oper}{av:AV}{val:Nat->Value}(a:T0i P L o st=some av)
  (l:∀ t,Operand.tmp t∈o.op.operands->(∀ f,P2 L t=some f->z04 st be oe h f (val t))/\(P2 L t=none->O1 st be oe (D2 st.fr t) (val t))) :
  ∃ fr,(∀ t,O1 st be oe (D2 fr t) (val t))/\U7 P o { st with fr:=fr } h λi st' j=>i=av/\st' = { st with fr:=fr }/\j=h:=by
 have one:∀ x:Operand,(∀ t,x = .tmp t->Operand.tmp t∈o.op.operands)->rdS L st x ≠ .dead->∃ fr,(∀ t,O1 st be oe (D2 fr t) (val t))/\rdO { st with fr:=fr } x=rdS L st x:=by
  intro x b c
  cases x with
  |tmp t =>
   obtain⟨k,m⟩:=l t (b t rfl)
   have mk:∀ A,O1 st be oe A (val t)->∀ u,O1 st be oe (D2 [(t,A)] u) (val u):=λA g u=>by
    rw[D3]
    split
    ·grind
    ·trivial
   have rd:∀ A,rdO { st with fr:=[(t,A)] } (.tmp t)=rdA st A:=λA=>by
    show Go.H.rdA _ (D2 [(t,A)] t)=_
    rw[D3,if_pos rfl]
    obtain⟨n,fr,bx,ow⟩:=st
    cases A<;>rfl
   cases hL:P2 L t with
   |none=>grind[rdS]
   |some f =>
    cases f with
    |pu A=>exact⟨_,mk _ (k _ hL),by grind[rdS]⟩
    |ef F=>grind[absurd,rdS]
  |const v=>exact⟨[],λt=>trivial,rfl⟩
  |global v=>exact⟨[],λt=>trivial,rfl⟩
  |func v=>exact⟨[],λt=>trivial,rfl⟩
 unfold T0i at a
 split at a
 ·rename_i x b
  have c:rdS L st x ≠ .dead:=λe=>by rw[e]at a;cases a
  obtain⟨fr,g,e⟩:=one x (λt d=>by grind[Op.operands]) c
  refine⟨fr,g,?_⟩
  simp only[U7,b,e]
  revert a
  cases rdS L st x<;>intro a<;>first|(cases a;done)|(cases a;simp;done)
 ·rename_i x b
  have c:rdS L st x ≠ .dead:=λe=>by rw[e]at a;cases a
  obtain⟨fr,g,e⟩:=one x (λt d=>by grind[Op.operands]) c
  refine⟨fr,g,?_⟩
  simp only[U7,b,e]
  revert a
  cases rdS L st x<;>intro a<;>first|(cases a;done)|(cases a;simp;done)
 ·rename_i t x b
  have c:rdS L st x ≠ .dead:=λe=>by rw[e]at a;cases a
  obtain⟨fr,g,e⟩:=one x (λt d=>by grind[Op.operands]) c
  refine⟨fr,g,?_⟩
  simp only[U7,b,e]
  split at a
  all_goals grind[c0c,A03,y0f,G5]
 ·cases a
def O0p(P:Program)(h0:Hp)(w0:World)(ops:Array Oper)(st:St)(h:Hp)(L:List (Nat×V5))(listed:Array Bool)(a:Act)(w:World):Prop :=
 ∃ be oe H b,Sub h b/\Sim P h0 w0 be oe H { st with fr:=N3 ops.toList st.fr } b a w /\
  ∀ j o d f,ops[j]?=some o->o.dst=some d->listed.getD j false=true->P2 L d=some f->z04 st be oe b f (a.tmps.getD d undef)
theorem O1.fr{st:St}{fr:List (Nat×AV)}{av:AV}{v:Value}(g:O1 st be oe av v):O1 { st with fr:=fr } be oe av v:=by
 obtain⟨n,a,bx,ow⟩:=st
 show O1 ⟨n,fr,bx,ow⟩ be oe av v
 exact O1.grow (st:=⟨n,a,bx,ow⟩) (st':=⟨n,fr,bx,ow⟩) (be:=be) (oe:=oe) (be':=be) (oe':=oe) (av:=av) (x:=v) ⟨Nat.le_refl _,λ_ _=>rfl,λi b h=>⟨b,h,Nat.le_refl _,λ_=>rfl⟩⟩ g
theorem L9{ops:Array Oper}{st:St}{L:List (Nat×V5)}{listed:Array Bool}{j:Nat}{o:Oper}{Q:Exit->Act->World->Prop}
  (aF:∀(i j:Nat) (c ah:Oper) (d:Nat),ops.toList[i]?=some c->ops.toList[j]?=some ah->c.dst=some d->ah.dst=some d->i=j)
  (aa:∀ o∈ops.toList,∀ d,o.dst=some d->d<st.n)
  (W:∀ t f,(t,f)∈L->∃(i:Nat) (c:Oper),ops.toList[i]?=some c/\c.dst=some t)
  (am:∀(i:Nat) (c:Oper) (d:Nat),ops.toList[i]?=some c->c.dst=some d->∃ f,P2 L d=some f)
  (ab:ops[j]?=some o) (X:∀(j:Nat) (o:Oper),ops.toList[j]?=some o->J0q P st h L o) (ao:∀ t,Operand.tmp t∈o.op.operands->∀(i:Nat) (c:Oper),ops.toList[i]?=some c->c.dst=some t->listed.getD i false=true)
  (N:O0p P h0 w0 ops st h L listed a w):o.wp P a w (O0p P h0 w0 ops st h L (listed.setIfInBounds j true)) Q:=by
 obtain⟨be,oe,H,y,af,E,U⟩:=N
 have ac:ops.toList[j]?=some o:=by simpa using ab
 have Z:o∈ops.toList:=List.mem_of_getElem? ac
 obtain⟨aH,f,hf,ad⟩:=X j o ac
 have aA:∀ d F,P2 L d=some (.ef F)->∀ v l k,Sub l k->F v l->F v k:=λd F K=>by
  obtain⟨i,c,l,k⟩:=W d _ (Z09 K)
  obtain⟨_,aE,ap,az⟩:=X i c l
  rw[ap d k]at K
  cases K
  exact az.1
 have aj:∀ t,Operand.tmp t∈o.op.operands->(∀ f,P2 L t=some f->z04 st be oe y f (a.tmps.getD t undef))/\(P2 L t=none->O1 st be oe (D2 st.fr t) (a.tmps.getD t undef)):=λt O=>by
  refine⟨λf hf=>?_,λax=>?_⟩
  ·obtain⟨i,c,l,k⟩:=W t f (Z09 hf)
   exact U i c t f (by simpa using l) k (ao t O i c l k) hf
  ·have g:=E.fr t
   have au:D2 (N3 ops.toList st.fr) t=D2 st.fr t:=r00 λaD ay D=>by
    obtain⟨i,N,e⟩:=List.getElem_of_mem ay
    obtain⟨f,hf⟩:=am i aD t (by rw[List.getElem?_eq_getElem N,e]) D
    rw[ax]at hf;cases hf
   rw[←au]
   exact O1.fr (st := { st with fr:=N3 ops.toList st.fr }) (fr:=st.fr) g
 have fin:∀ {fr:List (Nat×AV)} {z:Act} {s:World} {p:Hp} {be':Nat->Nat} {oe':Nat->Value} {q:Hp} {v:Value},Sub y p->z=a.put o.dst v->Sim P h0 w0 be' oe' q { st with fr:=fr } p a s ->
   F6 { st with fr:=fr } be oe { st with fr:=fr } be' oe'->z04 st be' oe' p f v->O0p P h0 w0 ops st h L (listed.setIfInBounds j true) z s:=by
  intro fr z s p be' oe' q v ag C G m R
  subst C
  have ak:F6 { st with fr:=N3 ops.toList st.fr } be oe { st with fr:=N3 ops.toList st.fr } be' oe':=⟨m.bl,m.be,m.sm⟩
  have al:F6 st be oe st be' oe':=⟨m.bl,m.be,m.sm⟩
  have s1:Sim P h0 w0 be' oe' q { st with fr:=N3 ops.toList st.fr } p a s :=
   G.refr (fr:=N3 ops.toList st.fr) λt=>O1.fr (st := { st with fr:=N3 ops.toList st.fr }) ((E.fr t).grow ak)
  have s2:Sim P h0 w0 be' oe' q { st with fr:=N3 ops.toList st.fr } p (a.put o.dst v) s:=by
   cases D:o.dst with
   |none=>exact s1
   |some d =>
    have ae:=s1.put (d:=d) (av := .dead) (v:=v) (aa o Z d D) trivial
    refine ae.refr (fr:=N3 ops.toList st.fr) λt=>?_
    have g:=ae.fr t
    grind[D3,k01]
  refine⟨be',oe',q,p,λb x an=>ag b x (af b x an),s2,λi c d g l k V I=>?_⟩
  by_cases hij:j=i
  ·subst hij
   rw[ab]at l;cases l
   rw[hf d k]at I;cases I
   have ar:d<a.tmps.size:=by rw[E.siz];exact aa o Z d k
   have:(a.put o.dst v).tmps.getD d undef=v:=by
    rw[k]
    simp[Act.put,ar]
   rw[this]
   exact R
  ·have aq:listed.getD i false=true:=by rw[getD_set_ne false hij]at V;exact V
   have aw:∀ A,o.dst=some A->A≠d:=λA aG e=>by
    grind
   have:(a.put o.dst v).tmps.getD d undef=a.tmps.getD d undef:=by
    cases D:o.dst with
    |none=>rfl
    |some A=>simp[Act.put,Array.getElem?_setIfInBounds_ne (aw A D)]
   rw[this]
   have ai:=U i c d g l k aq I
   cases g with
   |pu av=>exact O1.grow al ai
   |ef F=>exact aA d F I _ _ _ ag ai
 cases f with
 |pu av =>
  obtain⟨fr,g,M⟩:=x0o (h:=y) ad aj
  have G:Sim P h0 w0 be oe H { st with fr:=fr } y a w:=E.refr (fr:=fr) λt=>O1.fr (g t)
  refine Oper.wp_mono (λz s S=>?_) (a9 G M)
  obtain⟨T,st',p,v,be',oe',q,⟨rfl,rfl,rfl⟩,C,s2,J,m⟩:=S
  exact fin (λ_ _ h=>h) C s2 m (O1.fr (st := { st with fr:=fr }) (fr:=st.fr) J)
 |ef F =>
  obtain⟨fr,M,g⟩:=M01 (acc:=[]) (be:=be) (oe:=oe) (val:=λt=>a.tmps.getD t undef) (λt=>trivial) (λt O=>aj t (by simpa using O)) (ad.2 y af)
  have G:Sim P h0 w0 be oe H { st with fr:=fr } y a w:=E.refr (fr:=fr) λt=>O1.fr (g t)
  refine Oper.wp_mono (λz s S=>?_) (a9 G M)
  obtain⟨T,st',p,v,be',oe',q,Y,C,s2,J,m⟩:=S
  cases T with
  |val u =>
   obtain⟨rfl,aB,aC⟩:=Y
   have R:v=u:=J
   subst R
   exact fin aB C s2 m aC
  |_=>exact Y.elim
theorem a0a{ops:Array Oper}(b:∀(k:Nat) (o:Oper),ops.toList[k]?=some o->∀ e∈o.after,Region.binds .any e=true->e.on<k){listed:Array Bool}(h:listed.size=ops.size)(g:Region.ready .any ops listed = []):
  ∀ j,j<ops.size->listed.getD j false=true:=by
 intro j
 induction j using Nat.strongRecOn with
 |_ j i =>
  intro a
  cases hl:listed.getD j false with
  |true=>rfl
  |false =>
   have f:j<listed.size:=by omega
   have:j∈Region.ready .any ops listed:=by
    refine mem_ready.2 ⟨?_,ops[j],by simp[a],λe d c=>?_⟩
    all_goals grind
   grind
theorem count_set{listed:Array Bool}{j:Nat}(a:listed.getD j true=false):(listed.setIfInBounds j true).toList.count true=listed.toList.count true+1:=by
 have b:j<listed.size:=by
  grind
 simp_all[Array.toList_setIfInBounds,List.count_set]
end
end Go.H
namespace Go.H
set_option linter.unusedVariables false
set_option linter.unusedSimpArgs false
theorem y0o{P:Program}{t:TypeId}{cs:List p5}{off:Nat}{av:AV}(h:c0c P t cs off=some av):A03 P t cs off λa=>a=av:=by
 grind[c0c,A03,y0f,G5]
section
variable {P:Program} {h0:Hp} {w0:World} {be:Nat->Nat} {oe:Nat->Value} {H:Hp} {h:Hp} {a:Act} {w:World}
theorem T04{L:List (Nat×V5)}{st stX:St}{x:Operand}
  (b:∀ t,x = .tmp t->(∀ av,P2 L t=some (.pu av)->O1 stX be oe av (a.tmps.getD t undef))/\(P2 L t=none->O1 stX be oe (D2 st.fr t) (a.tmps.getD t undef))):O1 stX be oe (x04 L st x) (a.eval x):=by
 cases x with
 |tmp t =>
  obtain⟨c,d⟩:=b t rfl
  show O1 stX be oe (x04 L st (.tmp t)) (a.tmps.getD t undef)
  simp only[x04]
  split
  ·grind
  ·trivial
  grind
 |const v=>exact rfl
 |global g=>trivial
 |func f=>trivial
theorem z05{L:List (Nat×V5)}{st stX:St}:∀(l:List Operand) {vs:List (Nat×Value)},(∀ t,Operand.tmp t∈l->O1 stX be oe (x04 L st (.tmp t)) (a.tmps.getD t undef))->b0b L st l=some vs ->
  (∀ p∈vs,p.2=a.eval (.tmp p.1))/\(∀ x∈l,(∃ t v,x = .tmp t/\(t,v)∈vs)∨(∀ m,rho m x=a.eval x))
 | [],vs,G,h=>by cases h;simp
 | .tmp t::r,vs,G,h=>by
  simp only[b0b]at h
  split at h
  ·rename_i v k
   split at h
   ·rename_i n j
    cases h
    obtain⟨c,e⟩:=z05 r (λu d=>G u (mC _ d)) j
    have g:=G t mS
    rw[k]at g
    have g:a.tmps.getD t undef=v:=g
    refine⟨λp i=>?_,λx b=>?_⟩
    ·rcases List.mem_cons.1 i with rfl|i
     ·exact g.symm
     ·exact c p i
    grind
   ·cases h
  ·cases h
 | .global _::r,vs,G,h=>by cases h
 | .const v::r,vs,G,h=>by
  obtain⟨c,e⟩:=z05 r (vs:=vs) (λu d=>G u (mC _ d)) h
  exact⟨c,λx b=>by
   rcases List.mem_cons.1 b with rfl|b
   ·exact .inr λ_=>rfl
   ·exact e x b⟩
 | .func f::r,vs,G,h=>by
  obtain⟨c,e⟩:=z05 r (vs:=vs) (λu d=>G u (mC _ d)) h
  exact⟨c,λx b=>by
   rcases List.mem_cons.1 b with rfl|b
   ·exact .inr λ_=>rfl
   ·exact e x b⟩
theorem a0h{L:List (Nat×V5)}{st stX:St}{o:Oper}{av:AV}(b:U0i P L o st=some av)
  (j:∀ t,Operand.tmp t∈o.op.operands->(∀ av,P2 L t=some (.pu av)->O1 stX be oe av (a.tmps.getD t undef))/\(P2 L t=none->O1 stX be oe (D2 st.fr t) (a.tmps.getD t undef))) :
  ∃ v,(execOp a.eval o).run P w = .ok (.value v) w/\O1 stX be oe av v:=by
 unfold U0i at b
 split at b
 ·rename_i vs f g
  obtain⟨d,e⟩:=z05 (a:=a) (stX:=stX) (be:=be) (oe:=oe) _ (λt h=>T04 (x := .tmp t) λu i=>by grind) g
  split at b
  ·cases b
  ·split at b
   ·rename_i v c
    cases b
    rw[l0c,W09 f d e]at c
    exact⟨v,e0k _ c w,rfl⟩
   ·cases b
 ·cases b
theorem i04{L b:List (Nat×V5)}{st:St}:∀ {l:List Operand},(∀ t,Operand.tmp t∈l->P2 L t=P2 b t)->b0b L st l=b0b b st l
 | [],h=>rfl
 | .tmp t::r,h=>by simp only[b0b,x04,h t mS,i04 λu a=>h u (mC _ a)]
 | .global _::r,h=>rfl
 | .const _::r,h=>i04 (l:=r) λu a=>h u (mC _ a)
 | .func _::r,h=>i04 (l:=r) λu a=>h u (mC _ a)
theorem u0c{L:List (Nat×V5)}{st:St}{o:Oper}{t:TypeId}{x:Operand}{i off:Nat}(b:o.op = .load t x)(a:x04 L st x = .box i off):∀ {l:List Oper},o∈l->i∈G9 L st l
 | [],h=>nomatch h
 |y::r,h=>by
  rcases List.mem_cons.1 h with rfl|h
  ·grind[G9,List.mem_cons_self]
  ·have:=u0c b a h
   grind[G9,mC]
theorem t0e{bx a:List BSt}{i:Nat}:∀ {l:List Nat},L07 bx l=L07 a l->i∈l->nth bx i=nth a i
 | [],_,h=>nomatch h
 |y::r,e,h=>by
  simp only[L07,List.cons.injEq]at e
  rcases List.mem_cons.1 h with rfl|h
  ·exact e.1
  ·exact t0e e.2 h
theorem w0l{L:List (Nat×V5)}{st stX:St}{o:Oper}{av:AV}(m:Sim P h0 w0 be oe H stX h a w)(F:∀ t x i off,o.op = .load t x->x04 L st x = .box i off->nth stX.bx i=nth st.bx i)(c:K07 P L o st=some av)
  (f:∀ t,Operand.tmp t∈o.op.operands->(∀ av,P2 L t=some (.pu av)->O1 stX be oe av (a.tmps.getD t undef))/\(P2 L t=none->O1 stX be oe (D2 st.fr t) (a.tmps.getD t undef))) :
  ∃ v,(execOp a.eval o).run P w = .ok (.value v) w/\O1 stX be oe av v:=by
 unfold K07 at c
 split at c
 ·rename_i x d
  split at c
  ·cases c
   simp_all[T04,Op.operands,execOp]
  ·cases c
 ·rename_i x d
  split at c
  ·cases c
   simp_all[T04,Op.operands,execOp]
  ·cases c
 ·rename_i t x d
  have g:=T04 (L:=L) (st:=st) (stX:=stX) (be:=be) (oe:=oe) (a:=a) (x:=x) λt e=>f t (by rw[d];simp[Op.operands,e])
  split at c
  ·rename_i i off l
   rw[l]at g
   split at c
   ·rename_i cs ty G
    split at c
    ·rename_i C s
     split at c
     ·cases c
      obtain⟨E,vs,p,q⟩:=m.box i cs ty (by grind)
      obtain⟨D,v,y,z,A⟩:=R.load_row (H:=H) (b:=be i) (o:=0) (be:=be) (y0o s) p (λj v u=>by simp[Hp.cell,q,u])
      subst y
      exact⟨v,R.run_of (R.exec_load d g.2 (by simpa using A)) w (O0m m),z⟩
     ·cases c
    ·cases c
   ·cases c
  ·cases c
 ·rename_i t x k d
  have g:=T04 (L:=L) (st:=st) (stX:=stX) (be:=be) (oe:=oe) (a:=a) (x:=x) λt e=>f t (by rw[d];simp[Op.operands,e])
  split at c
  ·rename_i i off n l e
   rw[l]at g
   cases c
   exact⟨ptr (be i) (off+n),R.run_of (R.exec_fieldAddr d e g.2) w (O0m m),g.1,rfl⟩
  ·cases c
 ·split at c
  ·exact a0h c f
  ·cases c
 ·split at c
  ·split at c
   ·exact a0h c f
   ·cases c
  ·cases c
 ·cases c
theorem R00{L:List (Nat×V5)}{st stX:St}{val:Nat->Value}{K:List (Nat×AV)->Prop}:∀ {l:List Operand} {acc:List (Nat×AV)},
  (∀ t,O1 stX be oe (D2 acc t) (val t))->(∀ t,Operand.tmp t∈l->(∀ av,P2 L t=some (.pu av)->O1 stX be oe av (val t))/\(P2 L t=none->O1 stX be oe (D2 st.fr t) (val t))) ->
  c04 L st.fr l acc K->∃ fr,K fr/\∀ t,O1 stX be oe (D2 fr t) (val t)
 | [],acc,c,b,a=>⟨acc,a,c⟩
 | .tmp t::r,acc,c,b,a=>by
  have f:∀ u,Operand.tmp u∈r->_:=λu d=>b u (mC _ d)
  have h:=b t mS
  have put:∀ av,O1 stX be oe av (val t)->∀ u,O1 stX be oe (D2 ((t,av)::acc) u) (val u):=λav g u=>by
   grind[D3]
  simp only[c04]at a
  split at a
  ·rename_i av e
   exact R00 (put av (h.1 _ e)) f a
  ·rename_i F e
   exact R00 (put .dead trivial) f a
  ·rename_i e
   exact R00 (put _ (h.2 e)) f a
 | .const v::r,acc,c,b,a=>R00 (l:=r) c (λu d=>b u (mC _ d)) a
 | .global v::r,acc,c,b,a=>R00 (l:=r) c (λu d=>b u (mC _ d)) a
 | .func v::r,acc,c,b,a=>R00 (l:=r) c (λu d=>b u (mC _ d)) a
theorem b0a:∀(L:List (Nat×V5)) (fr:List (Nat×AV)) (t:Nat),D2 (V0i L fr) t=match P2 L t with
  |some (.pu av)=>av
  |some (.ef _) => .dead
  |none=>D2 fr t
 | [],fr,t=>rfl
 |(d,.pu av)::r,fr,t=>by
  simp only[V0i]
  rw[D3,I9]
  split
  ·rfl
  ·exact b0a r fr t
 |(d,.ef F)::r,fr,t=>by
  simp only[V0i]
  rw[D3,I9]
  split
  ·rfl
  ·exact b0a r fr t
theorem b0h{L a:List (Nat×V5)}{o:Oper}{st:St}(h:∀ t,Operand.tmp t∈o.op.operands->P2 L t=P2 a t):K07 P L o st=K07 P a o st:=by
 have d:∀ x:Operand,(∀ t,x = .tmp t->Operand.tmp t∈o.op.operands)->x04 L st x=x04 a st x:=λx c=>by
  cases x with
  |tmp t=>grind[x04]
  |_=>rfl
 have e:U0i P L o st=U0i P a o st:=by
  unfold U0i
  rw[i04 (l:=o.op.operands.toList) λt b=>h t (by simpa using b)]
 unfold K07
 split
 ·rename_i x c;rw[d x λt b=>by grind[Op.operands]]
 ·rename_i x c;rw[d x λt b=>by grind[Op.operands]]
 ·rename_i t x c;rw[d x λt b=>by grind[Op.operands]]
 all_goals grind[Op.operands,List.mem_cons_self,Call.operands]
theorem S00{L c:List (Nat×V5)}{f:List (Nat×AV)}{K:List (Nat×AV)->Prop}:∀ {l:List Operand} {acc:List (Nat×AV)},(∀ t,Operand.tmp t∈l->P2 L t=P2 c t)->c04 L f l acc K->c04 c f l acc K
 | [],acc,a,h=>h
 | .tmp t::r,acc,a,h=>by
  have e:=a t mS
  have d:∀ u,Operand.tmp u∈r->P2 L u=P2 c u:=λu b=>a u (mC _ b)
  simp only[c04]at h ⊢
  rw[←e]
  split at h
  ·exact S00 d h
  ·exact S00 d h
  ·exact S00 d h
 | .const _::r,acc,a,h=>S00 (l:=r) (λu b=>a u (mC _ b)) h
 | .func _::r,acc,a,h=>S00 (l:=r) (λu b=>a u (mC _ b)) h
 | .global _::r,acc,a,h=>S00 (l:=r) (λu b=>a u (mC _ b)) h
structure j04 (P:Program) (st:St) (h:Hp) (ops:List Oper) (k:Nat) (L:List (Nat×V5)) (X E:List (Nat×Oper)):Prop where
 key:∀ t f,P2 L t=some f->∃(i:Nat) (oi:Oper),i<k/\ops[i]?=some oi/\oi.dst=some t
 cov:∀(i:Nat) (oi:Oper) (d:Nat),i<k->ops[i]?=some oi->oi.dst=some d->∃ f,P2 L d=some f
 each:∀(j:Nat) (o:Oper),j<k->ops[j]?=some o->o.guard=none/\((j,o)∈E∨((∀ p∈E,p.1≠j)/\∃ av,(K07 P L o st=some av∨((j,o)∈X/\L0g P st h L o av))/\∀ d,o.dst=some d->P2 L d=some (.pu av)))
 eff:∀ p∈E,p.1<k/\ops[p.1]?=some p.2/\∀ d,p.2.dst=some d->∃ F,P2 L d=some (.ef F)
 nd:(E.map λp=>p.1).Nodup
 xx:∀ p∈X,p.1<k/\ops[p.1]?=some p.2
theorem j04.add{st:St}{h:Hp}{ops:List Oper}{k:Nat}{L:List (Nat×V5)}{X w E A:List (Nat×Oper)}{o:Oper}{f:V5}
  (Z:∀(i j:Nat) (q b:Oper) (d:Nat),ops[i]?=some q->ops[j]?=some b->q.dst=some d->b.dst=some d->i=j)
  (aa:∀(j:Nat) (o:Oper) (t i:Nat) (q:Oper),ops[j]?=some o->Operand.tmp t∈o.op.operands->ops[i]?=some q->q.dst=some t->i<j)
  (l:j04 P st h ops k L X E) (M:ops[k]?=some o) (C:o.guard=none) (Q:w=X∨w=X ++ [(k,o)])
  (J:(A=E/\∃ av,f = .pu av/\(K07 P L o st=some av∨((k,o)∈w/\L0g P st h L o av)))∨(A=E ++ [(k,o)]/\∃ F,f = .ef F)):j04 P st h ops (k+1) (f06 o.dst f L) w A:=by
 have no:∀ d,o.dst=some d->P2 L d=none:=λd c=>by
  cases h:P2 L d with
  |none=>rfl
  |some g =>
   obtain⟨i,q,u,s,I⟩:=l.key d g h
   grind
 have up:∀ t g,P2 L t=some g->P2 (f06 o.dst f L) t=some g:=λt g m=>by
  cases c:o.dst with
  |none=>exact m
  |some d =>
   show P2 ((d,f)::L) t=some g
   grind[I9]
 have W:∀ d,o.dst=some d->P2 (f06 o.dst f L) d=some f:=λd c=>by
  rw[c];show P2 ((d,f)::L) d=some f;rw[I9,if_pos rfl]
 have dn:∀ t g,P2 (f06 o.dst f L) t=some g->P2 L t=some g∨(o.dst=some t/\g=f):=λt g m=>by
  cases c:o.dst with
  |none=>rw[c]at m;exact .inl m
  |some d =>
   rw[c]at m
   change P2 ((d,f)::L) t=some g at m
   grind[I9]
 have Y:∀(j:Nat) (b:Oper),j<=k->ops[j]?=some b->K07 P L b st=K07 P (f06 o.dst f L) b st:=λj b K v=>b0h λt m=>by
  cases c:o.dst with
  |none=>rfl
  |some d =>
   show P2 L t=P2 ((d,f)::L) t
   rw[I9]
   grind
 have H:∀(j:Nat) (b:Oper) (av:AV),j<=k->ops[j]?=some b->L0g P st h L b av->L0g P st h (f06 o.dst f L) b av:=λj b av K v D=>by
  obtain⟨n,fr,bx,ow⟩:=st
  intro N R
  refine S00 (λt m=>?_) (D N R)
  cases c:o.dst with
  |none=>rfl
  |some d =>
   show P2 L t=P2 ((d,f)::L) t
   rw[I9]
   split
   all_goals grind
 have T:∀ p,p∈X->p∈w:=λp a=>by
  grind
 refine⟨λt g m=>?_,λi q d ab u s=>?_,λj b K v=>?_,λp a=>?_,?_,λp a=>?_⟩
 rotate_left 5
 ·rcases Q with rfl|rfl
  ·obtain⟨u,s⟩:=l.xx p a
   grind
  ·rcases List.mem_append.1 a with a|a
   ·obtain⟨u,s⟩:=l.xx p a
    grind
   grind
 rotate_left 4
 ·rcases J with⟨rfl,_⟩|⟨rfl,_⟩
  ·exact l.nd
  ·rw[List.map_append,List.nodup_append]
   refine⟨l.nd,by simp,λx D y S e=>?_⟩
   obtain⟨p,a,rfl⟩:=List.mem_map.1 D
   have:=(l.eff p a).1
   simp at S
   omega
 ·rcases dn t g m with h|⟨h,_⟩
  ·obtain⟨i,q,u,s⟩:=l.key t g h
   exact⟨i,q,by omega,s⟩
  grind
 ·rcases Nat.lt_or_ge i k with h|h
  ·obtain⟨g,C⟩:=l.cov i q d h u s
   exact⟨g,up d g C⟩
  grind
 ·rcases Nat.lt_or_ge j k with h|h
  ·obtain⟨U,G⟩:=l.each j b h v
   refine⟨U,?_⟩
   rcases G with G|⟨G,av,z,V⟩
   ·grind
   ·right
    refine⟨λp a=>?_,av,z.imp (λz=>by grind) (λz=>⟨T _ z.1,H j b av (by omega) v z.2⟩),λd c=>up d _ (V d c)⟩
    grind
  ·have:j=k:=by omega
   subst this
   rw[M]at v;cases v
   refine⟨C,?_⟩
   rcases J with⟨rfl,av,rfl,a⟩|⟨rfl,F,rfl⟩
   ·right
    exact⟨λp a=>by have:=(l.eff p a).1;omega,av,a.imp (λa=>by grind) (λa=>⟨a.1,H _ o av (Nat.le_refl _) M a.2⟩),W⟩
   grind
 ·have ac:p∈E->p.1<k+1/\ops[p.1]?=some p.2/\∀ d,p.2.dst=some d->∃ F,P2 (f06 o.dst f L) d=some (.ef F):=λa=>by
   obtain⟨u,s,I⟩:=l.eff p a
   exact⟨by omega,s,λd c=>by obtain⟨F,O⟩:=I d c;exact⟨F,up d _ O⟩⟩
  grind
theorem k04{ops:List Oper}{st:St}{h:Hp}{K:List (Nat×V5)->List (Nat×Oper)->List (Nat×Oper)->Prop}
  (e:∀(i j:Nat) (b z:Oper) (d:Nat),ops[i]?=some b->ops[j]?=some z->b.dst=some d->z.dst=some d->i=j)
  (g:∀(j:Nat) (o:Oper) (t i:Nat) (b:Oper),ops[j]?=some o->Operand.tmp t∈o.op.operands->ops[i]?=some b->b.dst=some t->i<j) :
  ∀(l:List Oper) (k:Nat) (L:List (Nat×V5)) (X E:List (Nat×Oper)),(∀ j,l[j]?=ops[k+j]?)->j04 P st h ops k L X E->C02 P st h l k L X E K->∃ w x v,K w x v/\j04 P st h ops ops.length w x v
 | [],k,L,X,E,m,c,a=>by
  refine⟨L,X,E,a,?_⟩
  have H:ops.length<=k:=by
   have:=m 0
   simpa using this
  have lt:∀(i:Nat) (b:Oper),ops[i]?=some b->i<ops.length:=λi b h=>(List.getElem?_eq_some_iff.1 h).1
  exact⟨λt f h=>by obtain⟨i,b,_,y,A⟩:=c.key t f h;grind,λi b d F=>c.cov i b d (by omega),λj o G=>c.each j o (by omega),
   λp u=>by obtain⟨_,y,A⟩:=c.eff p u;grind,c.nd,λp u=>by obtain⟨_,y⟩:=c.xx p u;grind⟩
 |o::l,k,L,X,E,m,c,a=>by
  have s:ops[k]?=some o:=by simpa using (m 0).symm
  have q:∀ j,l[j]?=ops[k+1+j]?:=λj=>by have:=m (j+1);grind
  simp only[C02]at a
  split at a
  ·exact a.elim
  ·rename_i n
   split at a
   ·rename_i av C
    rw[W01]at a
    exact k04 e g l (k+1) _ _ _ q (c.add e g s n (.inl rfl) (.inl ⟨rfl,av,rfl,.inl C⟩)) a
   ·rcases a with⟨av,D,a⟩|a
    ·rw[W01]at a
     exact k04 e g l (k+1) _ _ _ q (c.add e g s n (.inr rfl) (.inl ⟨rfl,av,rfl,.inr ⟨by simp,D⟩⟩)) a
    ·exact k04 e g l (k+1) _ _ _ q (c.add e g s n (.inl rfl) (.inr ⟨rfl,_,rfl⟩)) a
theorem v0c:∀(r:List (Nat×Oper)) (q:Nat×Oper),E03 r=true->q∈r.tail->∃ p∈r,Z8 p.1 q.2=true
 | [],q,_,h=>by cases h
 | [x],q,_,h=>by cases h
 |(i,o)::(j,b)::r,q,a,h=>by
  simp only[E03,Bool.and_eq_true]at a
  rcases List.mem_cons.1 h with rfl|h
  ·simp_all
  ·obtain⟨p,d,c⟩:=v0c ((j,b)::r) q a.2 h
   grind
theorem o02:∀(d r:List (Nat×Oper)),E03 (d++r)=true->E03 r=true
 | [],r,h=>h
 | [x],[],h=>rfl
 | [(i,o)],(j,a)::r,h=>by simp_all[List.singleton_append,E03,Bool.and_eq_true]
 |(i,o)::(j,a)::d,r,h=>by
  simp only[List.cons_append,E03,Bool.and_eq_true]at h
  exact o02 ((j,a)::d) r h.2
theorem A04{i:Nat}{o:Oper}:∀ {N:Nat},F03 N i o=true->∀ k,k<N->k≠i->∃ e∈o.after,Region.binds .any e=true/\e.on=k
 |0,_,k,a,_=>by omega
 |N+1,h,k,a,b=>by
  simp only[F03,Bool.and_eq_true,Bool.or_eq_true]at h
  by_cases e:k=N
  ·grind[absurd,Nat.eq_of_beq_eq_true,F7]
  ·exact A04 h.2 k (by omega) b
def V0m(P:Program)(h0:Hp)(w0:World)(ops:Array Oper)(n:Nat)(fr:List (Nat×AV))(f:List BSt)(g:List Own)(i:Hp)(c:Nat)(F:List (Nat×Oper))(b:List (Nat×V5))(EV:List (Nat×Oper)->List (Nat×Oper)->List (Nat×V5)->St->Hp->Prop)(listed:Array Bool)(a:Act)(w:World):Prop :=
 ∃(dn r:List (Nat×Oper)) (L:List (Nat×V5)) (bx:List BSt) (ow:List Own) (h:Hp) (be:Nat->Nat) (oe:Nat->Value) (H:Hp),F=dn++r/\(dn.length<=c->ow=g/\Sub i h/\(bx=f∨∀ k,k<ops.size->listed.getD k false=true))/\(∀(j:Nat) (o:Oper),ops[j]?=some o->listed.getD j false=true->∀ e∈o.after,Region.binds .any e=true->listed.getD e.on false=true)/\(∀ p∈r,listed.getD p.1 true=false)/\(∀ p∈dn,listed.getD p.1 false=true) /\
  (L07 bx (G9 b ⟨n,fr,f,g⟩ ops.toList)=L07 f (G9 b ⟨n,fr,f,g⟩ ops.toList)∨∀ k,k<ops.size->listed.getD k false=true)/\Sim P h0 w0 be oe H ⟨n,N3 ops.toList fr,bx,ow⟩ h a w/\EV dn r L ⟨n,fr,bx,ow⟩ h /\
  (∀ t,(P2 b t=none->P2 L t=none)/\∀ av,P2 b t=some (.pu av)->P2 L t=some (.pu av)) /\
  ∀(j:Nat) (o:Oper) (d:Nat),ops[j]?=some o->o.dst=some d->listed.getD j false=true->∃ av,P2 L d=some (.pu av)/\O1 ⟨n,fr,bx,ow⟩ be oe av (a.tmps.getD d undef)
abbrev x0l(P:Program)(h0:Hp)(w0:World)(ops:Array Oper)(n:Nat)(fr:List (Nat×AV))(d:List BSt)(e:List Own)(f:Hp)(c:Nat)(E:List (Nat×Oper))(b:List (Nat×V5))(K:St->Hp->Prop)(listed:Array Bool)(a:Act)(w:World):Prop :=
 V0m P h0 w0 ops n fr d e f c E b (λdn r L st h=>evC (G9 b ⟨n,fr,d,e⟩ ops.toList) ops.size P (c-dn.length) r L st h K) listed a w
theorem P0p{ops:Array Oper}{Q:Exit->Act->World->Prop}{Inv:Array Bool->Act->World->Prop}(i:∀(k:Nat) (o:Oper),ops.toList[k]?=some o->∀ e∈o.after,Region.binds .any e=true->e.on<k)
  (n:∀ listed a w j o,listed.size=ops.size->listed.getD j true=false->ops[j]?=some o->(∀ e∈o.after,Region.binds .any e=true->listed.getD e.on false=true)->Inv listed a w->o.guard=none/\o.wp P a w (Inv (listed.setIfInBounds j true)) Q)
  (g:∀ listed a w,(∀ j,j<ops.size->listed.getD j false=true)->Inv listed a w->Q .normal a w) :
  ∀(fuel:Nat) (listed:Array Bool) (a:Act) (w:World),listed.size=ops.size->listed.toList.count true+fuel=ops.size->Inv listed a w->wpAny P .any ops Q fuel listed a w
 |0,listed,a,w,f,t,d=>by
  have s:∀ j,j<ops.size->listed.getD j false=true:=λj l=>by
   have c:∀ b∈listed.toList,true=b:=List.count_eq_length.1 (by grind)
   have x:j<listed.size:=by omega
   have:=c listed[j] (by simp)
   simp[x,←this]
  refine⟨?_,g listed a w s d⟩
  cases m:Region.ready .any ops listed with
  |nil=>rfl
  |cons j r =>
   grind[Region.ready,List.mem_cons_self,mem_ready,Array.getElem?_eq_some_iff]
 |fuel+1,listed,a,w,f,t,d=>by
  refine⟨λm=>g listed a w (a0a i f m) d,λj l=>?_⟩
  obtain⟨c,o,h,q⟩:=mem_ready.1 l
  unfold wpOp
  simp only[h]
  obtain⟨u,z⟩:=n listed a w j o f c h q d
  have y:Region.wanted o (yielded ops a.tmps)=true:=by unfold Region.wanted;rw[u]
  rw[if_pos y]
  exact .inl (Oper.wp_mono (λp A v=>P0p i n g fuel _ p A (by simpa using f) (by rw[count_set c];omega) v) z)
theorem Y08{ops:Array Oper}{listed:Array Bool}{X:List (Nat×Oper)}
  (f:∀(k:Nat) (o:Oper),ops[k]?=some o->listed.getD k false=true->∀ e∈o.after,Region.binds .any e=true->listed.getD e.on false=true)
  (p:∀ y∈X,ops[y.1]?=some y.2):∀(n i a:Nat) (q:Oper),ops[a]?=some q->listed.getD a false=true->E0f X n i q=true->listed.getD i false=true
 |0,i,a,q,h,g,j=>by
  obtain⟨e,b,c,d⟩:=F7 j
  have:=f a q h g e b c
  rwa [d]at this
 |n+1,i,a,q,h,g,j=>by
  simp only[E0f,Bool.or_eq_true,List.any_eq_true,Bool.and_eq_true]at j
  rcases j with l|⟨y,t,l,s⟩
  ·obtain⟨e,b,c,d⟩:=F7 l
   have:=f a q h g e b c
   rwa [d]at this
  ·obtain⟨e,b,c,d⟩:=F7 l
   have m:=f a q h g e b c
   rw[d]at m
   exact Y08 f p n i y.1 y.2 (p y t) m s
theorem c0a{E:List (Nat×Oper)}{listed:Array Bool}{j:Nat}{o:Oper}(h:∀ e∈o.after,Region.binds .any e=true->listed.getD e.on false=true)
  (d:∀ dn r,E=dn++r->E03 r=true) {dn r:List (Nat×Oper)} (c:E=dn++r) (k:∀ p∈r,listed.getD p.1 true=false) (b:(j,o)∈r):∃ a,r=(j,o)::a:=by
 obtain⟨q,a,rfl⟩:∃ q a,r=q::a:=by
  cases r with
  |nil=>cases b
  |cons q a=>exact⟨q,a,rfl⟩
 rcases List.mem_cons.1 b with e|f
 ·grind
 ·exfalso
  obtain⟨p,i,g⟩:=v0c (q::a) (j,o) (d dn _ c) f
  grind[F7,Nat.lt_or_ge,Array.getElem?_eq_none]
theorem h0k{ops:Array Oper}{n:Nat}{fr:List (Nat×AV)}{aa:List BSt}{ak:List Own}{aY:Hp}{c:Nat}{X E F:List (Nat×Oper)}{ae:List (Nat×V5)}{EV:List (Nat×Oper)->List (Nat×Oper)->List (Nat×V5)->St->Hp->Prop}{Q:Exit->Act->World->Prop}{listed:Array Bool}{j:Nat}{o:Oper}
  (bc:∀(i j:Nat) (l bs:Oper) (d:Nat),ops.toList[i]?=some l->ops.toList[j]?=some bs->l.dst=some d->bs.dst=some d->i=j)
  (bj:∀ o∈ops.toList,∀ d,o.dst=some d->d<n) (an:j04 P ⟨n,fr,aa,ak⟩ aY ops.toList ops.toList.length ae X E) (aR:∀ x∈F,x∈E) (bA:(j,o)∈E->(j,o)∈F) (bB:(F.map λp=>p.1).Nodup)
  (bU:∀ dn r,F=dn++r->(∀ p∈dn,listed.getD p.1 false=true)->(∀ p∈r,listed.getD p.1 true=false)->(j,o)∈r->∃ M,r=(j,o)::M)
  (aW:∀ dn M L bx ow h,F=dn++(j,o)::M->(∀ p∈dn,listed.getD p.1 false=true)->EV dn ((j,o)::M) L ⟨n,fr,bx,ow⟩ h->c04 L fr o.op.operands.toList [] λV=>U7 P o ⟨n,V,bx,ow⟩ h λav st' ab=>match st' with
   |⟨_,_,C,G⟩=>F0f (c-dn.length) ow G h ab/\Z0j (c-dn.length) (h0c ops.size j o M) (G9 ae ⟨n,fr,aa,ak⟩ ops.toList) bx C/\O00 av λav=>K8 C λC=>K8 G λG=>EV (dn ++ [(j,o)]) M (f06 o.dst (.pu av) L) ⟨n,fr,C,G⟩ ab)
  (aV:e0c X (X++E) (F.drop c)=true)
  (aw:listed.getD j true=false) (ay:ops[j]?=some o) (b0:listed.size=ops.size)
  (bh:∀ t,Operand.tmp t∈o.op.operands->∀(i:Nat) (l:Oper),ops.toList[i]?=some l->l.dst=some t->listed.getD i false=true)
  (bi:∀ e∈o.after,Region.binds .any e=true->listed.getD e.on false=true)
  (aX:V0m P h0 w0 ops n fr aa ak aY c F ae EV listed a w):o.guard=none/\o.wp P a w (V0m P h0 w0 ops n fr aa ak aY c F ae EV (listed.setIfInBounds j true)) Q:=by
 obtain⟨dn,r,L,bx,ow,ab,be,oe,H,O,ar,bg,aK,af,b3,Z,ag,R,ao⟩:=aX
 have az:ops.toList[j]?=some o:=by simpa using ay
 have aJ:o∈ops.toList:=List.mem_of_getElem? az
 have aH:j<ops.toList.length:=(List.getElem?_eq_some_iff.1 az).1
 have aG:j<listed.size:=by simpa [b0] using aH
 have a1 : ¬ ∀ k,k<ops.size->listed.getD k false=true:=λe=>by
  grind
 have aS:L07 bx (G9 ae ⟨n,fr,aa,ak⟩ ops.toList)=L07 aa (G9 ae ⟨n,fr,aa,ak⟩ ops.toList):=by
  grind
 obtain⟨bJ,bO⟩:=an.each j o aH az
 refine⟨bJ,?_⟩
 have bu:∀ t,P2 L t≠none->∃(i:Nat) (l:Oper),ops.toList[i]?=some l/\l.dst=some t:=λt z=>by
  cases h0':P2 ae t with
  |none=>exact absurd ((R t).1 h0') z
  |some f=>obtain⟨i,l,_,s,S⟩:=an.key t f h0';exact⟨i,l,s,S⟩
 have frame:∀ t,(∀ aB∈ops.toList,aB.dst≠some t)->O1 ⟨n,fr,bx,ow⟩ be oe (D2 fr t) (a.tmps.getD t undef):=λt z=>by
  have g:=Z.fr t
  change O1 _ be oe (D2 (N3 ops.toList fr) t) _ at g
  rw[r00 z]at g
  exact O1.fr (st:=⟨n,N3 ops.toList fr,bx,ow⟩) (fr:=fr) g
 have aC:∀ t,Operand.tmp t∈o.op.operands->(∀ av,P2 L t=some (.pu av)->O1 ⟨n,fr,bx,ow⟩ be oe av (a.tmps.getD t undef))/\(P2 L t=none->O1 ⟨n,fr,bx,ow⟩ be oe (D2 fr t) (a.tmps.getD t undef)):=λt z=>by
  refine⟨λav bf=>?_,λbT=>frame t λaB bV J=>?_⟩
  ·obtain⟨i,l,m,s⟩:=bu t (by rw[bf];simp)
   obtain⟨N,D,I⟩:=ao i l t (by simpa using m) s (bh t z i l m s)
   rw[bf]at D;cases D
   exact I
  ·obtain⟨i,aX,e⟩:=List.getElem_of_mem bV
   have m:ops.toList[i]?=some aB:=by rw[List.getElem?_eq_getElem aX,e]
   obtain⟨N,D,_⟩:=ao i aB t (by simpa using m) J (bh t z i aB m J)
   rw[bT]at D;cases D
 have ad:∀ i,i≠j->∀ d,(listed.setIfInBounds j true).getD i d=listed.getD i d:=λi A d=>getD_set_ne d (Ne.symm A)
 have a2:∀ {C:List BSt} {G:List Own} {W:Hp} {be':Nat->Nat} {oe':Nat->Value} {U:Hp} {v:Value} {al:World},Sim P h0 w0 be' oe' U ⟨n,N3 ops.toList fr,C,G⟩ W a al->Sim P h0 w0 be' oe' U ⟨n,N3 ops.toList fr,C,G⟩ W (a.put o.dst v) al:=by
  intro C G W be' oe' U v al s1
  cases J:o.dst with
  |none=>exact s1
  |some d =>
   have u:=s1.put (d:=d) (av := .dead) (v:=v) (bj o aJ d J) trivial
   refine u.refr (fr:=N3 ops.toList fr) λt=>?_
   have g:=u.fr t
   change O1 _ _ _ (D2 ((d,.dead)::N3 ops.toList fr) t) _ at g
   rw[D3]at g
   split at g
   ·rename_i e
    subst e
    rw[k01 aJ J]
    trivial
   ·exact g
 have a3:∀(v:Value) (i:Nat) (l:Oper) (d:Nat),ops[i]?=some l->l.dst=some d->i≠j->(a.put o.dst v).tmps.getD d undef=a.tmps.getD d undef:=λv i l d m s A=>by
  cases J:o.dst with
  |none=>rfl
  |some ba =>
   have ah:ba≠d:=λe=>by subst e;exact A (bc i j l o ba (by simpa using m) az s J)
   simp[Act.put,Array.getElem?_setIfInBounds_ne ah]
 have a4:∀(v:Value) (d:Nat),o.dst=some d->(a.put o.dst v).tmps.getD d undef=v:=λv d J=>by
  have aH:d<a.tmps.size:=by rw[Z.siz];exact bj o aJ d J
  rw[J]
  simp[Act.put,aH]
 have aT:∀(i:Nat) (l:Oper),ops[i]?=some l->(listed.setIfInBounds j true).getD i false=true->∀ e∈l.after,Region.binds .any e=true->(listed.setIfInBounds j true).getD e.on false=true:=λi l m s e aE aF=>by
  by_cases A:i=j
  ·subst A
   rw[ay]at m;cases m
   exact getD_set_true (bi e aE aF)
  ·rw[ad i A]at s
   exact getD_set_true (bg i l m s e aE aF)
 rcases bO with au|⟨bm,av,bW|⟨bL,bP⟩,bd⟩
 ·
  have bN:(j,o)∈r:=by
   have au:=bA au
   rw[O]at au
   rcases List.mem_append.1 au with ai|ai
   ·have m:=af _ ai
    simp[aG]at m aw
    rw[m]at aw;cases aw
   ·exact ai
  obtain⟨M,rfl⟩:=bU dn r O af aK bN
  have ag:=aW dn M L bx ow ab O af ag
  obtain⟨V,ag,aM⟩:=R00 (acc:=[]) (st:=⟨n,fr,bx,ow⟩) (stX:=⟨n,fr,bx,ow⟩) (be:=be) (oe:=oe) (val:=λt=>a.tmps.getD t undef) (λt=>trivial) (λt z=>aC t (by simpa using z)) ag
  have aZ:Sim P h0 w0 be oe H ⟨n,V,bx,ow⟩ ab a w:=Z.refr (fr:=V) λt=>O1.fr (st:=⟨n,fr,bx,ow⟩) (fr:=N3 ops.toList fr) (aM t)
  refine Oper.wp_mono (λbv al ai=>?_) (a9 aZ ag)
  obtain⟨N,⟨Y,bb,C,G⟩,W,v,be',oe',U,am,rfl,s2,aN,K⟩:=ai
  obtain⟨aU,T,am⟩:=am
  rw[W01,h01,h01]at am
  have bS:Y=n:=by
   have D:a.tmps.size=Y:=s2.siz
   have I:a.tmps.size=n:=Z.siz
   omega
  subst bS
  have aO:F6 ⟨Y,fr,bx,ow⟩ be oe ⟨Y,fr,C,G⟩ be' oe':=⟨K.bl,K.be,K.sm⟩
  have aP:F6 ⟨Y,N3 ops.toList fr,bx,ow⟩ be oe ⟨Y,N3 ops.toList fr,C,G⟩ be' oe':=⟨K.bl,K.be,K.sm⟩
  have a0:Sim P h0 w0 be' oe' U ⟨Y,N3 ops.toList fr,C,G⟩ W a al :=
   s2.refr (fr:=N3 ops.toList fr) λt=>O1.fr (st:=⟨Y,N3 ops.toList fr,C,G⟩) (fr:=bb) ((Z.fr t).grow aP)
  have b1:∀ d,o.dst=some d->P2 (f06 o.dst (.pu N) L) d=some (.pu N):=λd J=>by
   rw[J];show P2 ((d,.pu N)::L) d=_;rw[I9,if_pos rfl]
  have bn:∀ t,o.dst≠some t->P2 (f06 o.dst (.pu N) L) t=P2 L t:=λt z=>by
   cases J:o.dst with
   |none=>rfl
   |some d =>
    show P2 ((d,.pu N)::L) t=_
    rw[I9,if_neg λe=>z (by rw[J,e])]
  have br:h0c ops.size j o M=true->∀ k,k<ops.size->(listed.setIfInBounds j true).getD k false=true:=λac k am=>by
   have bC:F03 ops.size j o=true:=by
    cases M with
    |nil=>exact ac
    |cons q b5=>cases ac
   by_cases hkj:k=j
   ·subst hkj;simp[aG]
   ·rw[ad k hkj]
    obtain⟨e,aE,aF,rfl⟩:=A04 bC k am hkj
    exact bi e aE aF
  refine⟨dn ++ [(j,o)],M,f06 o.dst (.pu N) L,C,G,W,be',oe',U,by rw[O];simp,λax=>(by
   have b4:dn.length<c:=by simp only[List.length_append,List.length_singleton]at ax;omega
   obtain⟨D,I,aq⟩:=ar (by omega)
   obtain⟨aL,bF⟩:∃ aL,c-dn.length=aL+1:=⟨c-dn.length-1,by omega⟩
   rw[bF]at aU T
   refine⟨aU.1.trans D,λb o bD=>aU.2 b o (I b o bD),?_⟩
   cases ac:h0c ops.size j o M with
   |true=>exact .inr (br ac)
   |false =>
    rw[ac]at T
    rcases aq with aq|aq
    ·exact .inl (T.trans aq)
    ·exact absurd aq a1),aT,λp u=>?_,λp u=>?_,?_,a2 a0,am,λt=>?_,λi l d m s S=>?_⟩
  ·have ah:p.1≠j:=λe=>by
    have bk:=bB
    rw[O,List.map_append,List.nodup_append]at bk
    have s:=bk.2.1
    rw[List.map_cons,List.nodup_cons]at s
    exact s.1 (List.mem_map.2 ⟨p,u,e⟩)
   rw[ad _ ah]
   exact aK p (mC _ u)
  ·rcases List.mem_append.1 u with u|u
   ·exact getD_set_true (af p u)
   ·simp at u
    subst u
    simp[aG]
  ·cases ac:h0c ops.size j o M with
   |false =>
    rw[ac]at T
    left
    rw[←aS]
    cases hc:c-dn.length with
    |zero=>rw[hc]at T;exact T
    |succ aL =>
     rw[hc]at T
     have T:C=bx:=T
     rw[T]
   |true=>exact .inr (br ac)
  ·by_cases z:o.dst=some t
   ·obtain⟨_,_,aD⟩:=an.eff (j,o) au
    obtain⟨F,aD⟩:=aD t z
    exact⟨λe=>(by rw[aD]at e;cases e),λav e=>(by rw[aD]at e;cases e)⟩
   ·rw[bn t z]
    exact R t
  ·by_cases A:i=j
   ·subst A
    rw[ay]at m;cases m
    exact⟨N,b1 d s,by rw[a4 v d s];exact O1.fr (st:=⟨Y,bb,C,G⟩) (fr:=fr) aN⟩
   ·rw[ad _ A]at S
    obtain⟨ap,D,I⟩:=ao i l d m s S
    have bG:o.dst≠some d:=λe=>A (bc i j l o d (by simpa using m) az s e)
    exact⟨ap,by rw[bn d bG];exact D,by rw[a3 v i l d m s A];exact I.grow aO⟩
 ·
  have bt:∀ {av:AV} {x:Value},O1 ⟨n,fr,bx,ow⟩ be oe av x->O1 ⟨n,N3 ops.toList fr,bx,ow⟩ be oe av x:=λg=>O1.fr (st:=⟨n,fr,bx,ow⟩) (fr:=N3 ops.toList fr) g
  obtain⟨v,bZ,bz⟩:=w0l (st:=⟨n,fr,aa,ak⟩) (stX:=⟨n,N3 ops.toList fr,bx,ow⟩) Z (λb6 x i off D I=>t0e aS (u0c D I aJ)) bW (λt z=>⟨λav e=>bt ((aC t z).1 av ((R t).2 av e)),λe=>bt ((aC t z).2 ((R t).1 e))⟩)
  refine L7 bZ ?_
  refine⟨dn,r,L,bx,ow,ab,be,oe,H,O,(λax=>⟨(ar ax).1,(ar ax).2.1,.inl ((ar ax).2.2.resolve_right a1)⟩),aT,λp u=>?_,λp u=>getD_set_true (af p u),.inl aS,a2 Z,ag,R,λi l d m s S=>?_⟩
  ·have ah:p.1≠j:=bm p (aR _ (by rw[O];exact List.mem_append_right _ u))
   rw[ad _ ah]
   exact aK p u
  ·by_cases A:i=j
   ·subst A
    rw[ay]at m;cases m
    exact⟨av,(R d).2 av (bd d s),by rw[a4 v d s];exact O1.fr (st:=⟨n,N3 ops.toList fr,bx,ow⟩) (fr:=fr) bz⟩
   ·rw[ad _ A]at S
    obtain⟨ap,D,I⟩:=ao i l d m s S
    exact⟨ap,D,by rw[a3 v i l d m s A];exact I⟩
 ·
  have bH:dn.length<=c:=by
   rcases Nat.lt_or_ge c dn.length with bQ|bK
   ·exfalso
    obtain⟨⟨aj,q⟩,bo⟩:∃ b2,dn[c]?=some b2:=⟨_,List.getElem?_eq_getElem bQ⟩
    have bp:(aj,q)∈dn:=List.mem_of_getElem? bo
    have bI:∃ t,F.drop c=(aj,q)::t:=by
     obtain⟨bR,I⟩:=List.getElem?_eq_some_iff.1 bo
     refine⟨(dn++r).drop (c+1),?_⟩
     rw[O,List.drop_eq_getElem_cons (by simp;omega),List.getElem_append_left bR,I]
    have bM:listed.getD j false=false:=by simp[aG]at aw ⊢;exact aw
    have bX:listed.getD aj false=true:=af (aj,q) bp
    have bY:ops[aj]?=some q:=by
     have:=(an.eff (aj,q) (aR _ (by rw[O];exact List.mem_append_left _ bp))).2.1
     simpa using this
    obtain⟨t,z⟩:=bI
    rw[z]at aV
    simp only[e0c,List.all_eq_true]at aV
    have:=Y08 (X:=X++E) bg (λy aA=>by
     rcases List.mem_append.1 aA with aA|aA
     ·have aQ:=(an.xx y aA).2;simpa using aQ
     ·have aQ:=(an.eff y aA).2.1;simpa using aQ) 8 j aj q bY bX (aV (j,o) bL)
    rw[bM]at this;cases this
   ·exact bK
  obtain⟨rfl,bq,bE⟩:=ar bH
  obtain rfl:=bE.resolve_right a1
  obtain⟨V,aW,aM⟩:=R00 (acc:=[]) (st:=⟨n,fr,bx,ow⟩) (stX:=⟨n,fr,bx,ow⟩) (be:=be) (oe:=oe) (val:=λt=>a.tmps.getD t undef) (λt=>trivial)
   (λt z=>⟨λav e=>(aC t (by simpa using z)).1 av ((R t).2 av e),λe=>(aC t (by simpa using z)).2 ((R t).1 e)⟩) (bP ab bq)
  have aZ:Sim P h0 w0 be oe H ⟨n,V,bx,ow⟩ ab a w:=Z.refr (fr:=V) λt=>O1.fr (st:=⟨n,fr,bx,ow⟩) (fr:=N3 ops.toList fr) (aM t)
  refine Oper.wp_mono (λbv al ai=>?_) (a9 aZ aW)
  obtain⟨N,st',W,v,be',oe',U,⟨rfl,rfl,rfl⟩,rfl,s2,aN,K⟩:=ai
  have aO:F6 ⟨n,fr,bx,ow⟩ be oe ⟨n,fr,bx,ow⟩ be' oe':=⟨K.bl,K.be,K.sm⟩
  have aP:F6 ⟨n,N3 ops.toList fr,bx,ow⟩ be oe ⟨n,N3 ops.toList fr,bx,ow⟩ be' oe':=⟨K.bl,K.be,K.sm⟩
  have a0:Sim P h0 w0 be' oe' U ⟨n,N3 ops.toList fr,bx,ow⟩ W a al :=
   s2.refr (fr:=N3 ops.toList fr) λt=>O1.fr (st:=⟨n,N3 ops.toList fr,bx,ow⟩) (fr:=V) ((Z.fr t).grow aP)
  refine⟨dn,r,L,bx,ow,W,be',oe',U,O,λ_=>⟨rfl,bq,.inl rfl⟩,aT,λp u=>?_,λp u=>getD_set_true (af p u),.inl rfl,a2 a0,ag,R,λi l d m s S=>?_⟩
  ·have ah:p.1≠j:=bm p (aR _ (by rw[O];exact List.mem_append_right _ u))
   rw[ad _ ah]
   exact aK p u
  ·by_cases A:i=j
   ·subst A
    rw[ay]at m;cases m
    exact⟨N,(R d).2 N (bd d s),by rw[a4 v d s];exact O1.fr (st:=⟨n,V,bx,ow⟩) (fr:=fr) aN⟩
   ·rw[ad _ A]at S
    obtain⟨ap,D,I⟩:=ao i l d m s S
    exact⟨ap,D,by rw[a3 v i l d m s A];exact I.grow aO⟩
theorem u0q{ops:Array Oper}{n:Nat}{fr:List (Nat×AV)}{k:List BSt}{m:List Own}{l:Hp}{c:Nat}{X E:List (Nat×Oper)}{g:List (Nat×V5)}{K:St->Hp->Prop}{Q:Exit->Act->World->Prop}{listed:Array Bool}{j:Nat}{o:Oper}
  (v:∀(i j:Nat) (b s:Oper) (d:Nat),ops.toList[i]?=some b->ops.toList[j]?=some s->b.dst=some d->s.dst=some d->i=j)
  (H:∀ o∈ops.toList,∀ d,o.dst=some d->d<n) (u:j04 P ⟨n,fr,k,m⟩ l ops.toList ops.toList.length g X E) (y:E03 E=true) (C:e0c X (X++E) (E.drop c)=true)
  (F:listed.getD j true=false) (I:ops[j]?=some o) (M:listed.size=ops.size)
  (z:∀ t,Operand.tmp t∈o.op.operands->∀(i:Nat) (b:Oper),ops.toList[i]?=some b->b.dst=some t->listed.getD i false=true)
  (q:∀ e∈o.after,Region.binds .any e=true->listed.getD e.on false=true)
  (D:x0l P h0 w0 ops n fr k m l c E g K listed a w):o.guard=none/\o.wp P a w (x0l P h0 w0 ops n fr k m l c E g K (listed.setIfInBounds j true)) Q:=by
 refine h0k v H u (λx N=>N) id u.nd (λdn r f A J G=>?_) (λdn O L bx ow h f A p=>?_) C F I M z q D
 ·exact c0a q (λdn r f=>o02 dn r (by rw[←f];exact y)) f J G
 ·simp only[evC]at p
  have e:c-(dn ++ [(j,o)]).length=c-dn.length-1:=by simp;omega
  simp only[e]
  exact p
theorem w0c:∀ {k:Nat} {E:List (Nat×Oper)} {f:Nat×Oper} {a:List (Nat×Oper)},m0e k E=some (f,a)->∃ A B,E=A++f::B/\a=A++B
 |_,[],f,a,h=>by simp[m0e]at h
 |0,x::r,f,a,h=>by
  simp only[m0e,Option.some.injEq,Prod.mk.injEq]at h
  obtain⟨rfl,rfl⟩:=h
  exact⟨[],r,rfl,rfl⟩
 |k+1,x::r,f,a,h=>by
  simp only[m0e]at h
  split at h
  ·rename_i c d b
   simp only[Option.some.injEq,Prod.mk.injEq]at h
   obtain⟨rfl,rfl⟩:=h
   obtain⟨A,B,rfl,rfl⟩:=w0c b
   grind
  ·cases h
theorem u0e{f:Nat×Oper}:∀ {p:Nat} {E:List (Nat×Oper)},o0l f p E=true->∃ q,E[p]?=some q/\Z8 f.1 q.2=true
 |_,[],h=>by simp[o0l]at h
 |0,(i,q)::r,h=>⟨(i,q),rfl,by simpa [o0l] using h⟩
 |p+1,x::r,h=>by
  obtain⟨q,a,b⟩:=u0e (E:=r) (p:=p) (by simpa [o0l] using h)
  grind
theorem W0m:∀ {X:List (Nat×Oper)},noX X=true->X = []
 | [],_=>rfl
 |_::_,h=>by simp[noX]at h
theorem d0a{Y:List (Nat×Oper)}:∀(E:List (Nat×Oper)),e0c [] Y E=true
 | []=>rfl
 |_::_=>rfl
theorem i0k{l:Array Bool}{j:Nat}(h:l.getD j true=false):l.getD j false=false:=by
 grind
theorem e0a{listed:Array Bool}:∀ {A B dn r:List (Nat×Oper)},A++B=dn++r->(∀ p∈A,listed.getD p.1 false=true)->(∀ p∈r,listed.getD p.1 true=false)->∃ C,dn=A++C/\B=C++r
 | [],B,dn,r,h,_,_=>⟨dn,rfl,by simpa using h⟩
 |x::A,B,[],r,h,a,b=>by
  grind
 |x::A,B,y::dn,r,h,a,b=>by
  simp only[List.cons_append,List.cons.injEq]at h
  obtain⟨rfl,h⟩:=h
  obtain⟨C,d,e⟩:=e0a h (λp c=>a p (mC _ c)) b
  grind
theorem c0h{rd:List Nat}{N c:Nat}{L:List (Nat×V5)}{K:St->Hp->Prop}{dn d:List (Nat×Oper)}{j:Nat}{o:Oper}{n:Nat}{fr:List (Nat×AV)}{bx:List BSt}{ow:List Own}{h:Hp}
  (i:evC rd N P (c-dn.length) ((j,o)::d) L ⟨n,fr,bx,ow⟩ h K):c04 L fr o.op.operands.toList [] λg=>U7 P o ⟨n,g,bx,ow⟩ h λav st' f=>match st' with
   |⟨_,_,a,b⟩=>F0f (c-dn.length) ow b h f/\Z0j (c-dn.length) (h0c N j o d) rd bx a/\O00 av λav=>K8 a λa=>K8 b λb=>evC rd N P (c-(dn ++ [(j,o)]).length) d (f06 o.dst (.pu av) L) ⟨n,fr,a,b⟩ f K:=by
 simp only[evC]at i
 have e:c-(dn ++ [(j,o)]).length=c-dn.length-1:=by simp;omega
 simp_all
theorem X0m{f:Nat×Oper}{rd:List Nat}{N:Nat}{K:St->Hp->Prop}{h:Hp}{st:St}{L:List (Nat×V5)}:∀ {p:Nat} {E:List (Nat×Oper)},q0o f rd N P p E L st h K->evC rd N P 0 (f::E) L st h K
 |0,_,h=>h
 |_+1,_,h=>h.1
theorem v0q{ops:Array Oper}{n:Nat}{fr:List (Nat×AV)}{bx:List BSt}{ow:List Own}{q:Hp}{c:Nat}{X E F:List (Nat×Oper)}{d:List (Nat×V5)}{K:St->Hp->Prop}{R:Act->World->Prop}{listed:Array Bool}
  (v:j04 P ⟨n,fr,bx,ow⟩ q ops.toList ops.toList.length d X E) (D:∀ x∈F,x∈E)
  (G:∀ a w st h be oe H,K st h->Sim P h0 w0 be oe H st h a w->R a w) (J:∀ j,j<ops.size->listed.getD j false=true)
  (I:x0l P h0 w0 ops n fr bx ow q c F d K listed a w):R a w:=by
  obtain⟨dn,r,L,bx,Q,A,be,oe,H,C,_,_,M,V,_,u,o,S,y⟩:=I
  have N:r = []:=by
   cases r with
   |nil=>rfl
   |cons p aa =>
    have e:=M p mS
    have k:=(v.eff p (D _ (by rw[C];simp))).1
    grind
  subst N
  simp only[evC,h01]at o
  refine G a w _ A be oe H o (u.refr (fr:=V0i L fr) λt=>?_)
  rw[b0a]
  have O:∀ t,P2 L t≠none->∃(i:Nat) (b:Oper),ops[i]?=some b/\b.dst=some t/\i<ops.size:=λt Z=>by
   cases h0':P2 d t with
   |none=>grind
   |some f =>
    obtain⟨i,b,e,k,m⟩:=v.key t f h0'
    grind
  cases hL:P2 L t with
  |none =>
   have W:∀ s∈ops.toList,s.dst≠some t:=λs Y U=>by
    grind[List.getElem_of_mem]
   have g:=u.fr t
   grind[O1,D2,N3,r00]
  |some f =>
   cases f with
   |ef F=>trivial
   |pu av =>
    obtain⟨i,b,e,k,m⟩:=O t (by rw[hL];simp)
    obtain⟨T,l,z⟩:=y i b t e k (J i m)
    rw[hL]at l;cases l
    exact O1.fr (st:=⟨n,fr,bx,Q⟩) (fr:=N3 ops.toList fr) z
theorem d0h{ops:Array Oper}{st:St}{K:St->Hp->Prop}{Q:Exit->Act->World->Prop}{R:Act->World->Prop}(aK:Sim P h0 w0 be oe H st h a w)(ae:I01 st.n ops.toList=true)
  (M:C02 P st h ops.toList 0 [] [] [] λL X E=>evD (G9 L st ops.toList) ops.size P X E L st h K)
  (ay:∀ a w st h be oe H,K st h->Sim P h0 w0 be oe H st h a w->R a w) :
  ∃ Inv:Array Bool->Act->World->Prop,(∀(k:Nat) (o:Oper),ops.toList[k]?=some o->∀ e∈o.after,Region.binds .any e=true->e.on<k) /\
   (∀ listed a w j o,listed.size=ops.size->listed.getD j true=false->ops[j]?=some o->(∀ e∈o.after,Region.binds .any e=true->listed.getD e.on false=true)->Inv listed a w->o.guard=none/\o.wp P a w (Inv (listed.setIfInBounds j true)) Q) /\
   (∀ listed a w,(∀ j,j<ops.size->listed.getD j false=true)->Inv listed a w->R a w)/\Inv (Array.replicate ops.size false) a w:=by
 simp only[I01,Bool.and_eq_true]at ae
 obtain⟨⟨aN,aO⟩,aP⟩:=ae
 obtain⟨aj,W⟩:=N03 aN
 have ax:∀(k:Nat) (o:Oper),ops.toList[k]?=some o->∀ e∈o.after,Region.binds .any e=true->e.on<k:=λk o al e aX ae=>by
  have:=E02 aO k o al e aX ae
  omega
 have bp:=y05 aP
 obtain⟨J,X,E,O,I⟩:=k04 (ops:=ops.toList) W (λj o t i ab D u v bo=>by
  grind) ops.toList 0 [] [] [] (λj=>by simp) ⟨λt f h=>(by cases h),λi ab d y=>by omega,λj o br=>by omega,λp G=>(by cases G),by simp,λp G=>(by cases G)⟩ M
 obtain⟨n,fr,bx,ow⟩:=st
 have ad:∀(listed:Array Bool) (j:Nat) (o:Oper),ops[j]?=some o->(∀ e∈o.after,Region.binds .any e=true->listed.getD e.on false=true)->∀ t,Operand.tmp t∈o.op.operands->∀(i:Nat) (ab:Oper),ops.toList[i]?=some ab->ab.dst=some t->listed.getD i false=true:=λlisted j o u v t bu i ab bq aH=>by
  grind
 have init:∀(c:Nat) (F:List (Nat×Oper)) (EV:List (Nat×Oper)->List (Nat×Oper)->List (Nat×V5)->St->Hp->Prop),(∀ x∈F,x∈E)->EV [] F J ⟨n,fr,bx,ow⟩ h->V0m P h0 w0 ops n fr bx ow h c F J EV (Array.replicate ops.size false) a w:=λc F EV aU Y=>by
  refine⟨[],F,J,bx,ow,h,be,oe,H,rfl,λ_=>⟨rfl,λ_ _ h=>h,.inl rfl⟩,λj o D u=>by(simp[Array.getElem?_replicate]at u;split at u<;>cases u),λp G=>?_,λp G=>(by cases G),.inl rfl,aK.refr (fr:=N3 ops.toList fr) λt=>?_,Y,λt=>⟨id,λav=>id⟩,λj o d D u v=>?_⟩
  ·have:=(I.eff p (aU p G)).1
   have u:p.1<ops.size:=by simpa using this
   simp[u]
  ·by_cases b:∃ o∈ops.toList,o.dst=some t
   ·obtain⟨o,D,u⟩:=b
    rw[k01 D u]
    trivial
   ·rw[r00 λo a3 O=>b ⟨o,a3,O⟩]
    exact aK.fr t
  ·simp[Array.getElem?_replicate]at v
   split at v<;>cases v
 rcases O with⟨c,⟨af,aY⟩,Y⟩|⟨k,p,O⟩
 ·refine⟨x0l P h0 w0 ops n fr bx ow h c E J K,ax,(λlisted a w j o Z D u v y=>u0q W aj I af aY D u Z (ad listed j o u v) v y),(λlisted a w ai y=>v0q I (λx b=>b) ay ai y),init c E _ (λx b=>b) Y⟩
 ·split at O
  ·rename_i f bm al
   obtain⟨⟨aV,af,a0⟩,Y⟩:=O
   obtain rfl:=W0m aV
   obtain⟨A,B,rfl,rfl⟩:=w0c al
   obtain⟨q,T,ba⟩:=u0e a0
   have aZ:f∈A++f::B:=by simp
   have aD:=I.eff f aZ
   have ak:ops[f.1]?=some f.2:=by simpa using aD.2.1
   have aG:f.1<ops.size:=by simpa using aD.1
   have an:∀ x∈A++B,x∈A++f::B:=λx b=>by
    grind
   have bc:((A++B).map λp=>p.1).Nodup:=by
    have:=I.nd
    grind
   have perm:∀ l s,A++B=l++s->((l++f::s).map λp=>p.1).Nodup:=λl s e=>by
    have D:(A++f::B).Perm (l++f::s):=List.perm_middle.trans ((List.Perm.cons f (by rw[e])).trans List.perm_middle.symm)
    exact(D.map _).nodup I.nd
   have aa:∀ l s,A++B=l++s->∀ x,x∈l++f::s↔x∈A++f::B:=λl s e x=>by
    have D:x∈A++B↔x∈l++s:=by rw[e]
    simp only[List.mem_append,List.mem_cons]at D ⊢
    constructor
    all_goals grind
   let rd:=G9 J ⟨n,fr,bx,ow⟩ ops.toList
   let ac:List (Nat×Oper)->List (Nat×Oper)->List (Nat×V5)->St->Hp->Prop:=λdn r L st h=>q0o f rd ops.size P (p-dn.length) r L st h K
   refine⟨λlisted a w=>(listed.getD f.1 true=false/\V0m P h0 w0 ops n fr bx ow h 0 (A++B) J ac listed a w) ∨
    (listed.getD f.1 false=true/\∃ l s,A++B=l++s/\(∀ p∈l,listed.getD p.1 false=true)/\x0l P h0 w0 ops n fr bx ow h 0 (l++f::s) J K listed a w),ax,(λlisted a w j o Z D u v y=>?_),(λlisted a w ai y=>?_),.inl ⟨by simp[aG],init 0 (A++B) ac an Y⟩⟩
   ·have a2:j<listed.size:=by grind
    have am:∀ {x:Nat},listed.getD x false=true->(listed.setIfInBounds j true).getD x false=true:=λh=>getD_set_true h
    rcases y with⟨hf,y⟩|⟨hf,l,s,m,az,y⟩
    ·have aE:=i0k hf
     by_cases ah:j=f.1
     ·
      subst ah
      rw[ak]at u;cases u
      obtain⟨dn,r,L,aQ,bd,aT,be',oe',aM,m,bg,ap,bz,aq,bh,bi,bj,bk,bl⟩:=y
      have aH:x0l P h0 w0 ops n fr bx ow h 0 (dn++f::r) J K listed a w :=
       ⟨dn,f::r,L,aQ,bd,aT,be',oe',aM,rfl,bg,ap,λp G=>by
        grind,aq,bh,bi,by show evC _ _ _ (0-dn.length) _ _ _ _ _;rw[Nat.zero_sub];exact X0m bj,bk,bl⟩
      have:=h0k (F:=dn++f::r) (j:=f.1) (o:=f.2) (Q:=Q) W aj I (λx b=>(aa dn r m x).1 b) (λb=>(aa dn r m _).2 b) (perm dn r m) (λaR U e au N aw=>by
       obtain⟨C,S,V⟩:=e0a (listed:=listed) e aq N
       cases C with
       |nil=>exact⟨r,by simpa using V.symm⟩
       |cons z C =>
        exfalso
        simp only[List.cons_append,List.cons.injEq]at V
        have:=au f (by rw[S,V.1];simp)
        rw[aE]at this;cases this) (λdn U L bx ow h m ag M=>c0h M) (d0a _) D ak Z (ad listed f.1 f.2 ak v) v aH
      exact⟨this.1,Oper.wp_mono (λar aL b => .inr ⟨by simp[a2],dn,r,m,λp G=>am (aq p G),b⟩) this.2⟩
     ·have bs:(j,o)≠f:=λe=>ah (by rw[←e])
      have aW:∀(j:Nat) (o:Oper),ops[j]?=some o->listed.getD j false=true->∀ e∈o.after,Region.binds .any e=true->listed.getD e.on false=true:=by
       obtain⟨_,_,_,_,_,_,_,_,_,_,_,ap,_⟩:=y
       exact ap
      have:=h0k (F:=A++B) (Q:=Q) (EV:=ac) W aj I an (λb=>by
       grind) bc (λdn r m ag bb a1=>c0a v (λdn r m=>o02 dn r (by rw[←m];exact af)) m bb a1) (λdn U L bn bv h m ag M=>by
       have bt:dn.length<p:=by
        rcases Nat.lt_or_ge dn.length p with g|g
        ·exact g
        ·exfalso
         have aF:listed.getD f.1 false=true:=by
          rw[m]at T
          obtain⟨e,aA,aB,aC⟩:=F7 ba
          rcases Nat.lt_or_ge p dn.length with N|N
          ·rw[List.getElem?_append_left N]at T
           have aJ:q∈dn:=List.mem_of_getElem? T
           have:=(I.eff q (an q (by rw[m];exact List.mem_append_left _ aJ))).2.1
           have:=aW q.1 q.2 (by simpa using this) (ag q aJ) e aA aB
           rwa [aC]at this
          ·have S:p=dn.length:=by omega
           rw[S,List.getElem?_append_right (Nat.le_refl _)]at T
           simp at T
           subst T
           have:=v e aA aB
           rwa [aC]at this
         rw[aE]at aF;cases aF
       obtain⟨ao,a4⟩:∃ ao,p-dn.length=ao+1:=⟨p-dn.length-1,by omega⟩
       have S:p-(dn ++ [(j,o)]).length=ao:=by simp;omega
       simp only[ac,a4,S,Nat.zero_sub]at M ⊢
       exact M.2) (d0a _) D u Z (ad listed j o u v) v y
      exact⟨this.1,Oper.wp_mono (λar aL b => .inl ⟨by rw[getD_set_ne true ah];exact hf,b⟩) this.2⟩
    ·have ah:j≠f.1:=λe=>by
      grind
     have:=h0k (F:=l++f::s) (Q:=Q) W aj I (λx b=>(aa l s m x).1 b) (λb=>(aa l s m _).2 b) (perm l s m) (λaR U e au N aw=>by
      obtain⟨C,S,V⟩:=e0a (listed:=listed) (A:=l ++ [f]) (B:=s) (by simpa using e) (λp G=>by
       grind) N
      exact c0a (E:=U) (dn:=[]) v (λdn bf aS=>o02 dn bf (by rw[←aS];exact o02 (l++C) U (by rw[List.append_assoc,←V,←m];exact af))) rfl N aw) (λdn U L bx ow h m ag M=>c0h M) (d0a _) D u Z (ad listed j o u v) v y
     exact⟨this.1,Oper.wp_mono (λar aL b => .inr ⟨am hf,l,s,m,λp G=>am (az p G),b⟩) this.2⟩
   ·rcases y with⟨hf,y⟩|⟨hf,l,s,m,az,y⟩
    ·have:=ai f.1 aG
     rw[i0k hf]at this;cases this
    ·exact v0q I (λx b=>(aa l s m x).1 b) ay ai y
  ·exact O.elim
theorem y0l{ops:Array Oper}{st:St}{K:St->Hp->Prop}{Q:Exit->Act->World->Prop}(j:Sim P h0 w0 be oe H st h a w)(g:I01 st.n ops.toList=true)
  (i:C02 P st h ops.toList 0 [] [] [] λL X E=>evD (G9 L st ops.toList) ops.size P X E L st h K)
  (f:∀ a w st h be oe H,K st h->Sim P h0 w0 be oe H st h a w->Q .normal a w):wpAny P .any ops Q ops.size (Array.replicate ops.size false) a w:=by
 obtain⟨Inv,b,c,d,e⟩:=d0h (Q:=Q) (R:=λa w=>Q .normal a w) j g i f
 exact P0p (Inv:=Inv) b c d ops.size _ a w (by simp) (by simp[List.count_replicate]) e
theorem Z08{L l:Array Bool}{x:Bool}(h:L.toList=l.toList ++ [x]){j:Nat}(a:j<l.size)(b:Bool):L.getD j b=l.getD j b:=by
 rw[Array.getD_eq_getD_getElem?,Array.getD_eq_getD_getElem?,←Array.getElem?_toList,←Array.getElem?_toList,h,List.getElem?_append_left (by simpa using a)]
theorem z0l{L l:Array Bool}{x:Bool}(h:L.toList=l.toList ++ [x])(b:Bool):L.getD l.size b=x:=by
 rw[Array.getD_eq_getD_getElem?,←Array.getElem?_toList,h,List.getElem?_append_right (by simp)];simp
theorem w0q{ops ops0:Array Oper}{o:Oper}{Q:Exit->Act->World->Prop}{Inv:Array Bool->Act->World->Prop}{a:Act}{w:World}(t:ops.toList=ops0.toList ++ [o])
  (q:∀(k:Nat) (o:Oper),ops.toList[k]?=some o->∀ e∈o.after,Region.binds .any e=true->e.on<k)
  (C:o.guard=none) (H:∀ k,k<ops0.size->∃ e∈o.after,Region.binds .any e=true/\e.on=k)
  (J:∀ listed a w j o,listed.size=ops0.size->listed.getD j true=false->ops0[j]?=some o->(∀ e∈o.after,Region.binds .any e=true->listed.getD e.on false=true)->Inv listed a w->o.guard=none/\o.wp P a w (Inv (listed.setIfInBounds j true)) Q)
  (A:∀ listed a w,(∀ j,j<ops0.size->listed.getD j false=true)->Inv listed a w->o.wp P a w (λa w=>Q .normal a w) Q)
  (h0:Inv (Array.replicate ops0.size false) a w):wpAny P .any ops Q ops.size (Array.replicate ops.size false) a w:=by
 have N:ops.size=ops0.size+1:=by
  have:=congrArg List.length t
  simpa using this
 refine P0p (Inv:=λL a w=>(∃ l:Array Bool,l.size=ops0.size/\L.toList=l.toList ++ [false]/\Inv l a w)∨((∀ j,j<ops.size->L.getD j false=true)/\Q .normal a w)) q (λL a w j m K y b p d=>?_) (λL a w f d=>?_) ops.size _ a w (by simp) (by simp[List.count_replicate]) (.inl ⟨_,by simp,by grind,h0⟩)
 ·rcases d with⟨l,g,c,d⟩|⟨f,_⟩
  ·have F:j<ops.size:=(Array.getElem?_eq_some_iff.1 b).1
   by_cases hj:j<ops0.size
   ·have z:ops0[j]?=some m:=by
     rw[←Array.getElem?_toList]at b ⊢
     grind
    obtain⟨v,x⟩:=J l a w j m g (by rw[←Z08 c (by omega)];exact y) z (λe i h=>by
     have:=q j m (by rw[Array.getElem?_toList];exact b) e i h
     rw[←Z08 c (by omega)];exact p e i h) d
    refine⟨v,Oper.wp_mono (λu M D => .inl ⟨_,by simpa using g,?_,D⟩) x⟩
    rw[Array.toList_setIfInBounds,c,List.set_append_left _ _ (by simpa [g] using hj),Array.toList_setIfInBounds]
   ·have E:j=ops0.size:=by omega
    have I:m=o:=by
     rw[←Array.getElem?_toList,t,List.getElem?_append_right (by simp;omega)]at b
     rw[E]at b;simp at b;exact b.symm
    subst I
    have f:∀ k,k<ops0.size->l.getD k false=true:=λk s=>by
     obtain⟨e,i,h,rfl⟩:=H k s
     rw[←Z08 c (by omega)];exact p e i h
    refine⟨C,Oper.wp_mono (λu M n => .inr ⟨λk s=>?_,n⟩) (A l a w f d)⟩
    by_cases hkj:k=j
    ·rw[hkj];simp[Array.getD_eq_getD_getElem?,K,F]
    ·have G:k<ops0.size:=by omega
     have:=f k G
     rw[←Z08 c (by omega)]at this
     rw[Array.getD_eq_getD_getElem?,Array.getElem?_setIfInBounds_ne (by omega),←Array.getD_eq_getD_getElem?];exact this
  grind
 ·rcases d with⟨l,g,c,d⟩|⟨_,n⟩
  ·have:=f ops0.size (by omega)
   rw[←g,z0l c]at this;cases this
  ·exact n
theorem h0b{o:Oper}:∀(ops:List Oper),g0c ops=some o->ops=l00 ops ++ [o]
 | [],h=>by simp[g0c]at h
 | [x],h=>by grind[g0c,Option.some.injEq,l00]
 |x::y::r,h=>by
  simp only[g0c]at h
  have:=h0b (y::r) (by simp only[g0c];exact h)
  rw[show l00 (x::y::r)=x::l00 (y::r) by simp only[l00],List.cons_append,←this]
theorem A0l{ops:List Oper}{o:Oper}(h:F0m ops=some o):ops=l00 ops ++ [o]/\o.guard=none/\F03 (l00 ops).length (l00 ops).length o=true:=by
 unfold F0m at h
 split at h
 ·rename_i f e
  split at h
  ·rename_i d c b
   split at h
   ·rename_i a
    cases h
    simp only[Bool.and_eq_true]at a
    grind[h0b]
   ·cases h
  ·cases h
 ·cases h
end
end Go.H
namespace Go.H
set_option linter.unusedVariables false
set_option linter.unusedSimpArgs false
theorem v03:∀ {L:FL} {t:Nat} {x:List (Nat×Bool)×V5},y02 L t=some x->(t,x)∈L
 | [],t,x,h=>by cases h
 |(d,y)::r,t,x,h=>by
  simp only[y02]at h
  split at h
  ·simp_all
  ·exact mC _ (v03 h)
theorem c08:∀ {L:FL} {t:Nat} {x:List (Nat×Bool)×V5},(t,x)∈L->∃ y,y02 L t=some y
 |(d,y)::r,t,x,h=>by
  simp only[y02]
  split
  ·exact⟨_,rfl⟩
  ·rename_i a
   rcases List.mem_cons.1 h with e|h
   ·simp_all
   ·exact c08 h
theorem B0l{bs:List BE}{x:BE}(e:∀ y∈bs,y.j≠x.j){j:Nat}{b:BE}(h:V01 bs j=some b):V01 (x::bs) j=some b:=by
 simp only[V01]
 split
 ·rename_i d
  obtain⟨a,c⟩:=D02 h
  simp_all
 ·exact h
abbrev Asg:=Nat->List (Nat×Bool)×Bool×V5
structure X0d (ops:List Oper) (A:Asg) (L:FL) (bs:List BE) (k:Nat):Prop where
 p1:∀ t x,(t,x)∈L->∃ i oi,i<k/\ops[i]?=some oi/\oi.dst=some t/\(A i).1=x.1/\(A i).2.2=x.2
 p2:∀ i oi d,i<k->ops[i]?=some oi->oi.dst=some d->∃ x,y02 L d=some x
 p3:∀ i,i<k->i<ops.length->cB bs (A i).1=some (A i).2.1
 p4:∀ x∈bs,x.j<k/\(∃ o,ops[x.j]?=some o/\o.dst=some x.d)/\(A x.j).1=x.ch/\(A x.j).2.2 = .pu (.val (.bool x.e))
structure B07 (bs bs':List BE):Prop where
 c:∀ ch c,cB bs ch=some c->cB bs' ch=some c
 e:∀ j b,V01 bs j=some b->V01 bs' j=some b
theorem B07.refl(bs:List BE):B07 bs bs:=⟨λ_ _ h=>h,λ_ _ h=>h⟩
theorem B07.trans{a b c:List BE}(d:B07 a b)(f:B07 b c):B07 a c:=⟨λch x h=>f.c ch x (d.c ch x h),λj b h=>f.e j b (d.e j b h)⟩
def OpU(P:Program)(st:St)(h:Hp)(L:FL)(bs:List BE)(o:Oper)(ch:List (Nat×Bool))(c:Bool):V5->Prop
 | .pu av=>M07 P L bs ch o st=some av∨∀ a,Sub h a->imp ch c (O05 L st a ch o.op.operands.toList [] λfr=>U7 P o { st with fr:=fr } a (Y0j av { st with fr:=fr } a))
 | .ef F=>(∀ v b d,Sub b d->F v b->F v d)/\∀ a,Sub h a->imp ch c (O05 L st a ch o.op.operands.toList [] λfr=>M0g P o { st with fr:=fr } a (G0m { st with fr:=fr } a F))
theorem Y0m{d:Option Tmp}{ch:List (Nat×Bool)}{f:V5}{L:FL}{p:Nat×List (Nat×Bool)×V5}(h:p∈G0f d ch f L):(∃ s,d=some s/\p=(s,ch,f))∨p∈L:=by
 cases d with
 |none=>exact .inr h
 |some s =>
  rcases List.mem_cons.1 h with h|h
  all_goals grind
theorem Z0m{i:Nat}{d:Option Tmp}{ch:List (Nat×Bool)}{av:AV}{bs:List BE}{x:BE}(h:x∈H0f i d ch av bs):(∃ s e,d=some s/\av = .val (.bool e)/\x=⟨i,s,e,ch⟩)∨x∈bs:=by
 unfold H0f at h
 grind
theorem a0n{i:Nat}{d:Option Tmp}{ch:List (Nat×Bool)}{av:AV}{bs:List BE}(f:∀ y∈bs,y.j<i):B07 bs (H0f i d ch av bs):=by
 unfold H0f
 split
 ·split
  ·refine⟨λe c h=>d0j (λy a=>?_) h,λj b h=>B0l (λy a=>?_) h⟩<;>(grind)
  ·exact B07.refl _
 ·exact B07.refl _
theorem z0o(P:Program)(i:Nat)(L:FL)(bs:List BE)(st:St)(h:Hp)(K:St->Hp->Prop):evU P [] i L bs st h K=∀ a,Sub h a->T0d a L st.fr λfr=>K { st with fr:=fr } a:=by
 obtain⟨n,fr,bx,ow⟩:=st;rfl
theorem b0n(P:Program)(o:Oper)(l:List Oper)(i:Nat)(L:FL)(bs:List BE)(st:St)(h:Hp)(K:St->Hp->Prop)(b:evU P (o::l) i L bs st h K):
    ∃ ch c f,j9 bs o.guard=some ch/\cB bs ch=some c/\(OpU P st h L bs o ch c f/\∀ av,M07 P L bs ch o st=some av->f = .pu av)/\∃ k,k=(match f with
      | .pu av=>H0f i o.dst ch av bs
      | .ef _=>bs)/\evU P l (i+1) (G0f o.dst ch f L) k st h K:=by
  obtain⟨n,fr,bx,ow⟩:=st
  change (match j9 bs o.guard with
        |some ch=>match cB bs ch with
          |some c=>match M07 P L bs ch o ⟨n,fr,bx,ow⟩with
            |some av=>O00 av λav=>evU P l (i+1) (G0f o.dst ch (.pu av) L) (H0f i o.dst ch av bs) ⟨n,fr,bx,ow⟩ h K
            |none=>(∃ av,(∀ a,Sub h a->imp ch c (O05 L ⟨n,fr,bx,ow⟩ a ch o.op.operands.toList [] λfr=>U7 P o ⟨n,fr,bx,ow⟩ a (Y0j av ⟨n,fr,bx,ow⟩ a))) /\
                  O00 av λav=>evU P l (i+1) (G0f o.dst ch (.pu av) L) (H0f i o.dst ch av bs) ⟨n,fr,bx,ow⟩ h K) ∨
                (∃ F:Value->Hp->Prop,(∀ v e d,Sub e d->F v e->F v d) /\
                  (∀ a,Sub h a->imp ch c (O05 L ⟨n,fr,bx,ow⟩ a ch o.op.operands.toList [] λfr=>M0g P o ⟨n,fr,bx,ow⟩ a (G0m ⟨n,fr,bx,ow⟩ a F))) /\
                  evU P l (i+1) (G0f o.dst ch (.ef F) L) bs ⟨n,fr,bx,ow⟩ h K)
          |none=>False
        |none=>False)at b
  split at b
  · rename_i ch j
    split at b
    · rename_i c g
      split at b
      · rename_i av q
        rw[W01]at b
        exact⟨ch,c,.pu av,j,g,⟨.inl q,λs a=>by grind⟩,_,rfl,b⟩
      · rename_i t
        have m:∀(f:V5) av,M07 P L bs ch o ⟨n,fr,bx,ow⟩=some av->f = .pu av:=λf av a=>by grind
        rcases b with⟨av,e,d⟩|⟨F,e,d,p⟩
        · rw[W01]at d
          exact⟨ch,c,.pu av,j,g,⟨.inr e,m _⟩,_,rfl,d⟩
        · exact⟨ch,c,.ef F,j,g,⟨⟨e,d⟩,m _⟩,_,rfl,p⟩
    · exact b.elim
  · exact b.elim
theorem x0c{P:Program}{ops:List Oper}{st:St}{h:Hp}{K:St->Hp->Prop}(ao:∀(i j:Nat) (n R:Oper) (d:Nat),ops[i]?=some n->ops[j]?=some R->n.dst=some d->R.dst=some d->i=j):
  ∀(l:List Oper) (k:Nat) (L:FL) (bs:List BE) (q:Asg),(∀ j,l[j]?=ops[k+j]?)->k+l.length=ops.length->X0d ops q L bs k->evU P l k L bs st h K ->
   ∃(A:Asg) (M:FL) (v:List BE),(∀ i,i<k->A i=q i)/\B07 bs v/\X0d ops A M v ops.length /\
    (∀ j o,k<=j->ops[j]?=some o->∃ S D,j9 v o.guard=some (A j).1/\X0d ops A S D j/\B07 D v/\cB D (A j).1=some (A j).2.1/\(OpU P st h S D o (A j).1 (A j).2.1 (A j).2.2/\∀ av,M07 P S D (A j).1 o st=some av->(A j).2.2 = .pu av)) /\
    (∀ W,Sub h W->T0d W M st.fr λfr=>K { st with fr:=fr } W)
 | [],k,L,bs,q,X,af,g,ae=>by
  have ag:k=ops.length:=by simpa using af
  grind[B07.refl,z0o,List.getElem?_eq_some_iff]
 |o::l,k,L,bs,q,X,af,g,ae=>by
  have Z:ops[k]?=some o:=by simpa using (X 0).symm
  have aw:∀ j,l[j]?=ops[k+1+j]?:=λj=>by have:=X (j+1);grind
  have ag:k+1+l.length=ops.length:=by grind
  obtain⟨ch,c,f,u,ad,ax,V,ar,au⟩:=b0n P o l k L bs st h K ae
  let C:Asg:=λi=>if i=k then(ch,c,f)else q i
  have N:C k=(ch,c,f):=by simp[C]
  have ab:∀ i,i<k->C i=q i:=λi m=>by grind
  have aA:∀ y∈bs,y.j<k:=λy az=>(g.p4 y az).1
  have J:B07 bs V:=by
   grind[a0n,B07.refl]
  have ay:X0d ops C (G0f o.dst ch f L) V (k+1):=by
   refine⟨λt x a=>?_,λi n d m I Q=>?_,λi m Y=>?_,λx a=>?_⟩
   ·rcases Y0m a with⟨aj,ai,e⟩|a
    ·grind
    ·obtain⟨i,n,s,E,G,H,an⟩:=g.p1 t x a
     grind
   ·rcases Nat.lt_or_ge i k with z|z
    ·obtain⟨x,a⟩:=g.p2 i n d z I Q
     cases hd:o.dst with
     |none=>exact⟨x,a⟩
     |some aj=>exact c08 (x:=x) (mC _ (v03 a))
    ·have:i=k:=by omega
     subst this
     rw[Z]at I;cases I
     rw[Q]
     exact c08 mS
   ·rcases Nat.lt_or_ge i k with z|z
    ·rw[ab i z];exact J.c _ _ (g.p3 i z Y)
    ·have:i=k:=by omega
     subst this
     rw[N];exact J.c _ _ ad
   ·subst ar
    cases f with
    |ef F =>
     obtain⟨s,E,G,H⟩:=g.p4 x a
     grind
    |pu av =>
     rcases Z0m a with⟨aj,e,ai,ap,rfl⟩|a
     ·refine⟨nS _,⟨o,Z,ai⟩,by rw[N],?_⟩
      rw[N,ap]
     ·obtain⟨s,E,G,H⟩:=g.p4 x a
      grind
  obtain⟨A,M,v,ac,T,ak,al,am⟩:=x0c ao l (k+1) _ V C aw ag ay au
  have U:A k=(ch,c,f):=by rw[ac k (nS _),N]
  have O:∀ i,i<k->A i=q i:=λi m=>by rw[ac i (Nat.lt_succ_of_lt m),ab i m]
  refine⟨A,M,v,O,J.trans T,ak,λj R aB aa=>?_,am⟩
  rcases Nat.lt_or_ge k j with ah|ah
  ·exact al j R ah aa
  ·have:j=k:=by omega
   subst this
   rw[Z]at aa;cases aa
   refine⟨L,bs,?_,⟨λt x a=>?_,λi n d m I Q=>g.p2 i n d m I Q,λi m Y=>?_,λx a=>?_⟩,J.trans T,by rw[U];exact ad,by rw[U];exact ax⟩
   ·rw[U]
    cases hg:o.guard with
    |none=>rw[hg]at u;exact u
    |some p =>
     obtain⟨aC,w⟩:=p
     rw[hg]at u
     simp only[j9]at u ⊢
     split at u
     ·rename_i b aq
      rw[(J.trans T).e _ _ aq]
      exact u
     ·cases u
   ·obtain⟨i,n,s,E,G,H,an⟩:=g.p1 t x a
    grind
   ·rw[O i m];exact g.p3 i m Y
   ·obtain⟨s,E,G,H⟩:=g.p4 x a
    exact⟨s,E,by rw[O _ s];exact G,by rw[O _ s];exact H⟩
section
variable {P:Program} {h0:Hp} {w0:World} {be:Nat->Nat} {oe:Nat->Value} {H:Hp} {st:St} {h:Hp} {a:Act} {w:World} {o:Oper} {K:AV->St->Hp->Prop} {Q:Exit->Act->World->Prop}
theorem e0h(j:Sim P h0 w0 be oe H st h a w){t n:Nat}{f:Array (Nat×Operand)}(p:o.op = .buildSlice t n f)(A:f.toList = [])(c:H0m P t n st h K):o.wp P a w (Nx P h0 w0 st be oe K a o.dst) Q:=by
 unfold H0m at c
 split at c
 rotate_left
 ·exact c.elim
 rename_i e v
 split at c
 rotate_left
 ·exact c.elim
 rename_i sz u l
 have m:=Nat.eq_of_beq_eq_true l
 subst m
 have q:f = #[]:=by grind
 subst q
 have x:wpS P (execOp a.eval o) h (λi g=>∃ b,h b=none/\i = .value (.slice (some ⟨b,0,none⟩) 0 0)/\g=h.set b (.cells #[] e (0,0))):=by
  unfold execOp;rw[p]
  refine w7 _ _ _ ?_
  simp only[Instr.buildSlice,T1,H5 (E8 v),Q00 u,Nat.zero_mul,Z1]
  rw[if_neg (by omega)]
  simp only[Z1,if_true,Instr.fill,Array.map_empty,T1,newRow,newObj,wpS]
  exact λb d=>⟨b,d,rfl,by rw[show Array.range 0 = #[] from rfl,Array.map_empty]⟩
 obtain⟨i,g,C,s,⟨b,d,rfl,rfl⟩,k⟩:=p9 _ _ _ (O08 j) x
 obtain⟨z,y⟩:=j.moved k
 exact L7 s ⟨_,_,_,_,_,_,_,c b d,rfl,y,rfl,F6.refl _ _ _⟩
theorem f0h(m:Sim P h0 w0 be oe H st h a w){t:TypeId}{p q:Operand}{as:Array Operand}{S:Array TypeId}(M:o.op = .call { callee := .builtin .append,args:=as,argTypes:=S })
  (G:as = #[p,q]) (O:S = #[t,t]) (d:I0m P t p q st h K):o.wp P a w (Nx P h0 w0 st be oe K a o.dst) Q:=by
 unfold I0m at d
 split at d
 rotate_left
 ·exact d.elim
 rename_i e ab
 split at d
 rotate_left
 ·exact d.elim
 rename_i sz by_ z aa T ad
 split at d
 rotate_left
 ·exact d.elim
 rename_i ae
 obtain⟨i,y,D,ah,aj⟩:=b08 aa T ad
 have A:=E8 ab
 have af:z.cells.size=i.size:=by rw[D];simpa using k02 _ _ ae
 have g:=m.rdO p
 split at d
 rotate_left
 ·exact d.elim
 rename_i n s Z
 rw[Z]at g
 have v:a.eval p = .slice (some ⟨n,s,none⟩) 0 0:=g
 obtain⟨b,⟨N,X,L⟩,l⟩:=t05 m (Nat.succ_pos sz) d
 have ag:i.size=sz+1:=D
 have ai:i.bytes=by_+1:=ah
 rw[←D]at l
 rw[←ag]at L
 rw[←ai]at N
 have U:0<i.bytes:=by grind
 have an:b.length<=140737488355328:=Nat.le_trans (Nat.le_mul_of_pos_right _ U) N
 have Y:((0+b.length:Nat):Int)<=9223372036854775807:=by omega
 have J:=R02 b (λx C=>(l.1 x C).1)
 have R:=O08 m
 by_cases hn:b = []
 ·have k:(Builtin.append_ #[t,t] o.type #[.slice (some ⟨n,s,none⟩) 0 0,a.eval q]).run P w = .ok (.slice (some ⟨n,s,none⟩) 0 0) w:=by
   subst hn
   rcases l.2 with⟨E,c,f,I⟩|⟨c,f,_⟩
   ·rw[f]
    simp[Builtin.append_,run_underlying A,sizeOf,typeInfo,y,Builtin.lenOf,Builtin.firstCells,loadCells,loadCellsFrom,storeCells]
   ·rw[f]
    simp[Builtin.append_,run_underlying A,sizeOf,typeInfo,y,Builtin.lenOf,Builtin.firstCells,storeCells]
  rw[←v]at k
  exact L7 (S02 M G O k) ⟨_,_,h,_,_,_,_,X hn,rfl,m,v,F6.refl _ _ _⟩
 ·rcases l.2 with⟨E,F,f,I⟩|⟨F,f,ac⟩
  rotate_left
  ·exact absurd ac hn
  have ao:0<b.length:=by
   grind
  have k:=run_append_grow (P:=P) w t o.type e i z A y aj ⟨n,s,none⟩ 0 0 [] (by simp) (λj u W=>by simp at W) E b.length F b.flatten J I (by omega) Y (growslice_fits (by omega) (by grind[C08]))
  have am:=grownCap_ge w (0+b.length) 0 e
  have V:grownCap w (0+b.length) 0 e<=maxLen:=grownCap_le_maxLen w _ 0 e (by unfold maxLen;omega)
  rw[←f,←v]at k
  obtain⟨al,ak⟩:=m.moved (j2.newD R (.cells ([].toArray++b.flatten.toArray++Builtin.zeroCells z.cells (grownCap w (0+b.length) 0 e-(0+b.length))) e (0,0)) rfl)
  refine L7 (S02 M G O k) ⟨_,_,_,_,_,_,_,L _ _ ⟨λx C=>l.1 x C,.inr ⟨w.heap.size,grownCap w (0+b.length) 0 e,_,?_,l02 R,rfl,by omega,V,?_,?_⟩⟩,rfl,ak,rfl,F6.refl _ _ _⟩
  ·rw[Nat.zero_add]
  ·simp only[Array.size_append,List.size_toArray,J,size_zeroCells,af,List.length_nil,←Nat.add_mul,Nat.zero_add]
   grind
  grind
theorem g0h(e:Sim P h0 w0 be oe H st h a w)(b:M0g P o st h K):o.wp P a w (Nx P h0 w0 st be oe K a o.dst) Q:=by
 unfold M0g at b
 split at b
 ·grind[e0h,a9]
 ·rename_i as j d
  split at b
  ·rename_i x y t i f g
   split at b
   ·rename_i c
    have:=Nat.eq_of_beq_eq_true c
    subst this
    exact f0h e d (by grind) (by grind) b
   ·exact b.elim
  ·exact b.elim
 grind[a9]
end
section
variable {P:Program} {h0:Hp} {w0:World} {be:Nat->Nat} {oe:Nat->Value} {H:Hp} {h:Hp} {a:Act} {w:World}
def S0f(st:St)(be:Nat->Nat)(oe:Nat->Value)(h:Hp)(bs:List BE)(x:List (Nat×Bool)×V5)(v:Value):Prop:=cB bs x.1=some true->z04 st be oe h x.2 v
theorem T00{L:FL}{st:St}{h:Hp}{bs:List BE}{ch:List (Nat×Bool)}{val:Nat->Value}{K:List (Nat×AV)->Prop}(d:cB bs ch=some true):∀ {l:List Operand} {acc:List (Nat×AV)},
  (∀ t,O1 st be oe (D2 acc t) (val t))->(∀ t,Operand.tmp t∈l->(∀ x,y02 L t=some x->S0f st be oe h bs x (val t))/\(y02 L t=none->O1 st be oe (D2 st.fr t) (val t))) ->
  O05 L st h ch l acc K->∃ fr,K fr/\∀ t,O1 st be oe (D2 fr t) (val t)
 | [],acc,c,b,a=>⟨acc,a,c⟩
 | .tmp t::r,acc,c,b,a=>by
  have j:∀ u,Operand.tmp u∈r->_:=λu i=>b u (mC _ i)
  have k:=b t mS
  have put:∀ av,O1 st be oe av (val t)->∀ u,O1 st be oe (D2 ((t,av)::acc) u) (val u):=λav g u=>by
   grind[D3]
  simp only[O05]at a
  split at a
  ·rename_i n f e
   split at a
   ·rename_i m
    have hf:=k.1 _ e (l07 m d)
    cases f with
    |pu av=>exact T00 d (put av hf) j a
    |ef F=>exact T00 d (put (.val (val t)) rfl) j (a _ hf)
   ·exact a.elim
  ·rename_i e
   exact T00 d (put _ (k.2 e)) j a
 | .const v::r,acc,c,b,a=>T00 (l:=r) d c (λu i=>b u (mC _ i)) a
 | .global v::r,acc,c,b,a=>T00 (l:=r) d c (λu i=>b u (mC _ i)) a
 | .func v::r,acc,c,b,a=>T00 (l:=r) d c (λu i=>b u (mC _ i)) a
theorem v0e{st:St}{val:Nat->Value}{K:List (Nat×AV)->Prop}:∀ {L:FL} {fr:List (Nat×AV)},(∀ p∈L,p.2.1 = []->z04 st be oe h p.2.2 (val p.1)) ->
  (∀ t,(∀ x,(t,x) ∉ L)->O1 st be oe (D2 fr t) (val t))->T0d h L fr K->∃ fr,K fr/\∀ t,O1 st be oe (D2 fr t) (val t)
 | [],fr,b,c,a=>⟨fr,a,λt=>c t (by simp)⟩
 |(d,ch,f)::r,fr,b,c,a=>by
  have step:∀ av,O1 st be oe av (val d)->T0d h r ((d,av)::fr) K->∃ fr,K fr/\∀ t,O1 st be oe (D2 fr t) (val t):=λav g a =>
   v0e (L:=r) (fr:=(d,av)::fr) (λp e=>b p (mC _ e)) (λt i=>by
    grind[D3]) a
  cases ch with
  |nil =>
   have hf:=b (d,[],f) mS rfl
   cases f with
   |pu av=>exact step av hf a
   |ef F=>exact step (.val (val d)) rfl (a _ hf)
  |cons p q =>
   refine step .dead trivial ?_
   cases f<;>exact a
theorem c0n{st:St}{L:FL}{bs:List BE}{ch:List (Nat×Bool)}{o:Oper}{av:AV}(c:M07 P L bs ch o st=some av)(z:cB bs ch=some true)
  (ao:∀ t,(∀ x,y02 L t=some x->S0f st be oe h bs x (a.tmps.getD t undef))/\(y02 L t=none->O1 st be oe (D2 st.fr t) (a.tmps.getD t undef))∨Operand.tmp t ∉ o.op.operands)
  (aA:∀ x∈bs,∀ y,y02 L x.d=some y->y=(x.ch,.pu (.val (.bool x.e)))) (aj:∀ x∈bs,V01 bs x.j=some x) (ay:∀ x∈bs,∃ y,y02 L x.d=some y)
  (U:∀ {fr:List (Nat×AV)},(∀ t,O1 st be oe (D2 fr t) (a.tmps.getD t undef))->Sim P h0 w0 be oe H { st with fr:=fr } h a w) {Q:Exit->Act->World->Prop} :
  o.wp P a w (λF l=>∃ v be' oe' D,F=a.put o.dst v/\(∃ fr,Sim P h0 w0 be' oe' D { st with fr:=fr } h a l)/\F6 st be oe st be' oe'/\O1 st be' oe' av v) Q:=by
 have I:Sim P h0 w0 be oe H { st with fr:=[] } h a w:=U (λt=>trivial)
 have rd:∀(x:Operand) (J:List (Nat×Bool)),cB bs J=some true->(∀ t,x = .tmp t->Operand.tmp t∈o.op.operands)->O1 st be oe (rdU L st J x) (a.eval x):=by
  intro x J ah f
  cases x with
  |tmp t =>
   have Z:=(ao t).resolve_right (λC=>C (f t rfl))
   simp only[rdU]
   split
   ·rename_i aw A e
    split
    ·rename_i S
     have:=Z.1 _ e (l07 S ah)
     have g:O1 st be oe A (a.tmps.getD t undef):=this
     have s:=I.rdA (O1.fr (st:=st) (fr:=[]) g)
     have p:rdA { st with fr:=[] } A=rdA st A:=by obtain⟨n,fr,bx,ow⟩:=st;cases A<;>rfl
     rw[p]at s
     exact O1.fr (st := { st with fr:=[] }) (fr:=st.fr) s
    ·trivial
   ·trivial
   ·rename_i e
    have g:=Z.2 e
    have s:=I.rdA (O1.fr (st:=st) (fr:=[]) g)
    have p:rdA { st with fr:=[] } (D2 st.fr t)=rdA st (D2 st.fr t):=by obtain⟨n,fr,bx,ow⟩:=st;cases D2 fr t<;>rfl
    rw[p]at s
    exact O1.fr (st := { st with fr:=[] }) (fr:=st.fr) s
  |const v=>exact rfl
  |global v=>trivial
  |func v=>exact rfl
 have done:∀ {v:Value},(∀ l,(execOp a.eval o).run P l = .ok (.value v) l ∨ ¬ Vis H l)->O1 st be oe av v->o.wp P a w (λF l=>∃ v be' oe' D,F=a.put o.dst v/\(∃ fr,Sim P h0 w0 be' oe' D { st with fr:=fr } h a l)/\F6 st be oe st be' oe'/\O1 st be' oe' av v) Q:=λ{v} m g =>
  L7 ((m w).resolve_right λC=>C I.mv.vis) ⟨v,be,oe,H,rfl,⟨[],I⟩,F6.refl _ _ _,g⟩
 unfold M07 at c
 split at c
 ·rename_i x f
  have g:=rd x ch z (λt e=>by rw[f];simp[Op.operands,e])
  refine done (v:=a.eval x) (λl => .inl (by unfold execOp;rw[f];rfl)) ?_
  revert c
  cases m:rdU L st ch x<;>intro c<;>first|(cases c;done)|(cases c;rw[m]at g;exact g)
 ·rename_i x f
  have g:=rd x ch z (λt e=>by rw[f];simp[Op.operands,e])
  refine done (v:=a.eval x) (λl => .inl (by unfold execOp;rw[f];rfl)) ?_
  revert c
  cases m:rdU L st ch x<;>intro c<;>first|(cases c;done)|(cases c;rw[m]at g;exact g)
 ·rename_i t x f
  have g:=rd x ch z (λt e=>by rw[f];simp[Op.operands,e])
  split at c
  ·rename_i i off m
   rw[m]at g
   split at c
   ·rename_i cs ty C
    have aq:∃ u,x = .tmp u:=by
     cases x with
     |tmp u=>exact⟨u,rfl⟩
     |const v=>simp[rdU,rdO]at m
     |global v=>simp[rdU,rdO]at m
     |func v=>simp[rdU,rdO]at m
    obtain⟨u,rfl⟩:=aq
    have ai:U7 P o { st with fr:=[(u,.box i off)] } h λT st' af=>T=av/\st' = { st with fr:=[(u,.box i off)] }/\af=h:=by
     have am:rdO { st with fr:=[(u,.box i off)] } (.tmp u) = .box i off:=by
      show rdA _ (D2 [(u,AV.box i off)] u)=_
      rw[D3,if_pos rfl]
      simp only[rdA,C]
     simp only[U7,f,am,C]
     grind[c0c,A03,y0f,G5]
    have s1:=U (fr:=[(u,.box i off)]) (λaB=>by
     rw[D3]
     split
     ·rename_i e;subst e;exact g
     ·trivial)
    refine Oper.wp_mono (λF l f=>?_) (a9 s1 ai)
    obtain⟨T,st',ax,v,be',oe',D,⟨K,p,ad⟩,ag,s2,s,G⟩:=f
    rw[p,ad]at s2
    rw[K,p]at s
    rw[p]at G
    exact⟨v,be',oe',D,ag,⟨_,s2⟩,⟨G.bl,G.be,G.sm⟩,O1.fr (st := { st with fr:=[(u,.box i off)] }) (fr:=st.fr) s⟩
   ·cases c
  ·cases c
 ·rename_i t x k f
  have g:=rd x ch z (λt e=>by rw[f];simp[Op.operands,e])
  split at c
  ·rename_i i off M m Y
   rw[m]at g
   cases c
   refine done (v:=ptr (be i) (off+M)) (λl=>?_) ⟨g.1,rfl⟩
   by_cases hvis:Vis H l
   ·exact .inl (R.run_of (R.exec_fieldAddr (H:=H) f Y g.2) l hvis)
   ·exact .inr hvis
  ·rename_i sl j sz au M m Y
   rw[m]at g
   cases c
   obtain⟨b,aa,n,ac,K,p⟩:=g
   refine done (v:=ptr b (aa+(j.toNat*sz+au)+M)) (λl=>?_) ⟨b,aa,n,ac,K,by simp[Nat.add_assoc]⟩
   grind[Vis,R.run_of,R.exec_fieldAddr]
  ·cases c
 ·rename_i ab x y f
  have g:=rd (.tmp ab) ch z (λt e=>by rw[f];cases e;simp[Op.operands])
  split at c
  ·rename_i e q S al
   rw[S]at g
   have ae:a.eval (.tmp ab) = .bool e:=g
   split at c
   ·rename_i an
    obtain⟨ak,az⟩:=Y09 al
    have W:=l07 an z
    have X:q.e=e:=by
     grind[rdU,bool,Go.H.rdA]
    have V:=aj q ak
    split at c
    ·rename_i bx by_ ap ar
     cases c
     refine done (v := .bool (cond e bx by_)) (λl => .inl ?_) rfl
     unfold execOp;rw[f]
     simp only[ae,Sem.run_bind,asBool,Sem.run_pure,Result.andThen_ok]
     cases e with
     |true =>
      have O:cB bs ((q.j,true)::q.ch)=some true:=by
       rw[q03,V,W];simp[lit,X]
      have E:=rd x _ O (λt e=>by rw[f];simp[Op.operands,e])
      rw[ap]at E
      have N:a.eval x = .bool bx:=E
      simp[N]
     |false =>
      have O:cB bs ((q.j,false)::q.ch)=some true:=by
       rw[q03,V,W];simp[lit,X]
      have E:=rd y _ O (λt e=>by rw[f];simp[Op.operands,e])
      rw[ar]at E
      have N:a.eval y = .bool by_:=E
      simp[N]
    ·cases c
   ·cases c
  ·cases c
 ·cases c
theorem Sim.untail{st:St}{t:List Own}(c:Sim P h0 w0 be oe H { st with ow:=st.ow++t } h a w)(hf:∀ u,O1 st be oe (D2 st.fr u) (a.tmps.getD u undef))
  (m:∀ i cs ty,nth st.bx i=some (.live cs ty)->∃ vs,M1 st oe cs vs/\H (be i)=some (.cells vs.toArray ty (0,0))):Sim P h0 w0 be oe H st h a w:=by
 have up:∀ i o,nth st.ow i=some o->nth (st.ow++t) i=some o:=λi o b=>by
  grind[H03,List.getElem?_append_left,List.getElem?_eq_some_iff]
 refine⟨c.mv,c.sub,λi cs ty b=>⟨(c.box i cs ty b).1,m i cs ty b⟩,c.pub,λi f e sz by_ nn xs b=>c.own i f e sz by_ nn xs (up i _ b),λi f v b=>c.frz i f v (up i _ b),c.bb,
  λi j s1 e sz by_ nn xs s2 l p k n q g b d=>c.oo i j s1 e sz by_ nn xs s2 l p k n q g (up i _ b) (up j _ d),λi cs ty j s1 e sz by_ nn xs b d=>c.bo i cs ty j s1 e sz by_ nn xs b (up j _ d),c.dfr,c.siz,hf⟩
def d08(P:Program)(h0:Hp)(w0:World)(ops:Array Oper)(st:St)(h:Hp)(A:Asg)(sk:Nat->Bool)(kp:List (Nat×Value))(listed:Array Bool)(a:Act)(w:World):Prop :=
 ∃ be oe H b,Sub h b/\Sim P h0 w0 be oe H { st with fr:=N3 ops.toList st.fr } b a w/\(∀ p∈kp,a.tmps.getD p.1 undef=p.2) /\
  ∀ j o d,sk j=false->ops[j]?=some o->o.dst=some d->listed.getD j false=true->((A j).2.1=true->z04 st be oe b (A j).2.2 (a.tmps.getD d undef))/\((A j).2.1=false->a.tmps.getD d undef=undef)
theorem A0o{st st':St}(t:W0i st st'):∃ r,st' = { st with ow:=st.ow++r }:=by
 obtain⟨n,fr,bx,ow⟩:=st
 obtain⟨g,b,a,h⟩:=st'
 obtain⟨c,d,e,r,f⟩:=t
 grind
theorem B0o{b:Type}{l r:List b}{i:Nat}(a:i<l.length):nth (l++r) i=nth l i:=by
 rw[H03,H03,List.getElem?_append_left a]
theorem w0e{st:St}{r:List Own}{i a:Nat}(b:stamp st i=some a):stamp { st with ow:=st.ow++r } i=some a:=by
 grind[stamp,nth,B0o,P00]
theorem b0p{ops:Array Oper}{st:St}{A:Asg}{sk:Nat->Bool}{kp:List (Nat×Value)}{bj:FL}{ak:List BE}{listed:Array Bool}{j:Nat}{o:Oper}{Q:Exit->Act->World->Prop}
  (bz:∀(i j:Nat) (f a3:Oper) (d:Nat),ops.toList[i]?=some f->ops.toList[j]?=some a3->f.dst=some d->a3.dst=some d->i=j)
  (am:∀ o∈ops.toList,∀ d,o.dst=some d->d<st.n)
  (bv:∀(k:Nat) (o:Oper),ops.toList[k]?=some o->∀ e∈o.after,Region.binds .any e=true->e.on<k)
  (aS:∀ o∈ops.toList,∀ t,Operand.tmp t∈o.op.operands->∀(i:Nat) (f:Oper),ops.toList[i]?=some f->f.dst=some t->∃ e∈o.after,Region.binds .any e=true/\e.on=i)
  (bI:∀ o∈ops.toList,∀ i w,o.guard=some (i,w)->Z8 i o=true)
  (au:X0d ops.toList A bj ak ops.toList.length)
  (aQ:∀ j o,ops.toList[j]?=some o->∃ U E,j9 ak o.guard=some (A j).1/\X0d ops.toList A U E j/\B07 E ak/\cB E (A j).1=some (A j).2.1/\(OpU P st h U E o (A j).1 (A j).2.1 (A j).2.2/\∀ av,M07 P U E (A j).1 o st=some av->(A j).2.2 = .pu av))
  (cf:sk j=false) (ci:∀(i:Nat) (f:Oper) (d:Nat),ops.toList[i]?=some f->f.dst=some d->sk i=true->∀ D∈ops.toList,Operand.tmp d ∉ D.op.operands)
  (bS:∀ i,sk i=true->(A i).2.2 = .pu (.val undef)) (cg:∀ p∈kp,∃(i:Nat) (f:Oper),ops.toList[i]?=some f/\f.dst=some p.1/\sk i=true)
  (aU:ops[j]?=some o) (aW:∀ e∈o.after,Region.binds .any e=true->listed.getD e.on false=true) (ai:d08 P h0 w0 ops st h A sk kp listed a w) :
  (Region.wanted o (yielded ops a.tmps)=true->o.wp P a w (d08 P h0 w0 ops st h A sk kp (listed.setIfInBounds j true)) Q) /\
  (Region.wanted o (yielded ops a.tmps)=false->d08 P h0 w0 ops st h A sk kp (listed.setIfInBounds j true) (a.put o.dst undef) w):=by
 obtain⟨be,oe,H,aa,aG,ae,keep,aA⟩:=ai
 have an:ops.toList[j]?=some o:=by simpa using aU
 have al:o∈ops.toList:=List.mem_of_getElem? an
 have aT:j<ops.toList.length:=(List.getElem?_eq_some_iff.1 an).1
 obtain⟨U,E,ac,X,bW,aw,M,_⟩:=aQ j o an
 have ah:cB ak (A j).1=some (A j).2.1:=au.p3 j aT aT
 have aZ:Region.wanted o (yielded ops a.tmps)=(A j).2.1:=by
  unfold Region.wanted
  cases hg:o.guard with
  |none =>
   rw[hg]at ac
   cases hch':(A j).1 with
   |nil=>rw[hch']at ah;exact oJ ah
   |cons p q=>rw[hch']at ac;cases ac
  |some p =>
   obtain⟨i,aM⟩:=p
   rw[hg]at ac
   simp only[j9]at ac
   split at ac
   ·rename_i b K
    obtain⟨bM,rfl⟩:=D02 K
    obtain⟨G,⟨D,s,O⟩,ap,ag⟩:=au.p4 b bM
    have aE:listed.getD b.j false=true:=by
     obtain⟨e,S,bB,ao⟩:=F7 (bI o al b.j aM hg)
     rw[←ao];exact aW e S bB
    have bR:sk b.j=false:=by
     cases e:sk b.j with
     |false=>rfl
     |true=>rw[bS b.j e]at ag;cases ag
    have hf:=aA b.j D b.d bR (by simpa using s) O aE
    have aR:=au.p3 b.j G G
    rw[ap]at aR
    have ad:b.d<a.tmps.size:=by rw[ae.siz];exact am D (List.mem_of_getElem? s) b.d O
    have aJ:a.tmps[b.d]?=some (if(A b.j).2.1=true then .bool b.e else undef):=by
     rw[Array.getElem?_eq_getElem ad]
     have bJ:a.tmps.getD b.d undef=a.tmps[b.d]:=by simp[ad]
     cases L:(A b.j).2.1 with
     |true =>
      have:=hf.1 L
      rw[ag,bJ]at this
      have J:a.tmps[b.d] = .bool b.e:=this
      rw[J];rfl
     |false =>
      grind
    have aK:yielded ops a.tmps b.j=if(A b.j).2.1=true then some b.e else none:=by
     unfold yielded
     have:ops[b.j]?=some D:=by simpa using s
     simp only[this,O,oB,aJ]
     cases (A b.j).2.1<;>rfl
    have bF:(A j).1=(b.j,aM)::b.ch:=by
     grind
    rw[bF,q03,K,aR]at ah
    simp only[Option.some.injEq]at ah
    simp only[aK,←ah]
    cases (A b.j).2.1<;>cases aM<;>cases b.e<;>rfl
   ·cases ac
 have b4:∀ i f,ops.toList[i]?=some f->∀ F,(A i).2.2 = .ef F->∀ v I J,Sub I J->F v I->F v J:=λi f ax F bA=>by
  obtain⟨b5,b8,_,_,_,_,aV,_⟩:=aQ i f ax
  rw[bA]at aV
  exact aV.1
 have fin:∀ {fr:List (Nat×AV)} {af:Act} {T:World} {R:Hp} {be':Nat->Nat} {oe':Nat->Value} {N:Hp} {v:Value},Sub aa R->af=a.put o.dst v->Sim P h0 w0 be' oe' N { st with fr:=fr } R a T ->
   F6 st be oe st be' oe'->((A j).2.1=true->z04 st be' oe' R (A j).2.2 v)->((A j).2.1=false->v=undef)->d08 P h0 w0 ops st h A sk kp (listed.setIfInBounds j true) af T:=by
  intro fr af T R be' oe' N v aY ab b1 aq aJ bT
  subst ab
  have bt:F6 { st with fr:=N3 ops.toList st.fr } be oe { st with fr:=N3 ops.toList st.fr } be' oe':=⟨aq.bl,aq.be,aq.sm⟩
  have s1:Sim P h0 w0 be' oe' N { st with fr:=N3 ops.toList st.fr } R a T :=
   b1.refr (fr:=N3 ops.toList st.fr) λt=>O1.fr (st := { st with fr:=N3 ops.toList st.fr }) ((ae.fr t).grow bt)
  have s2:Sim P h0 w0 be' oe' N { st with fr:=N3 ops.toList st.fr } R (a.put o.dst v) T:=by
   cases W:o.dst with
   |none=>exact s1
   |some d =>
    have aF:=s1.put (d:=d) (av := .dead) (v:=v) (am o al d W) trivial
    refine aF.refr (fr:=N3 ops.toList st.fr) λt=>?_
    have g:=aF.fr t
    grind[D3,k01]
  have cr:∀ d,o.dst≠some d->(a.put o.dst v).tmps.getD d undef=a.tmps.getD d undef:=λd W=>by
   cases aD:o.dst with
   |none=>rfl
   |some V=>simp[Act.put,Array.getElem?_setIfInBounds_ne (λe=>W (by rw[aD,e]):V≠d)]
  refine⟨be',oe',N,R,λb x K=>aY b x (aG b x K),s2,λp aF=>?_,λi f d aH I J aP=>?_⟩
  ·grind
  by_cases hij:j=i
  ·subst hij
   rw[aU]at I;cases I
   have ad:d<a.tmps.size:=by rw[ae.siz];exact am o al d J
   have:(a.put o.dst v).tmps.getD d undef=v:=by
    rw[J]
    simp[Act.put,ad]
   rw[this]
   exact⟨aJ,bT⟩
  ·have bL:listed.getD i false=true:=by rw[getD_set_ne false hij]at aP;exact aP
   have bO:∀ V,o.dst=some V->V≠d:=λV aD e=>by
    subst e
    exact hij (bz j i o f V an (by simpa using I) aD J)
   have:(a.put o.dst v).tmps.getD d undef=a.tmps.getD d undef:=by
    cases W:o.dst with
    |none=>rfl
    |some V=>simp[Act.put,Array.getElem?_setIfInBounds_ne (bO V W)]
   rw[this]
   obtain⟨aj,bX⟩:=aA i f d aH I J bL
   refine⟨λL=>?_,bX⟩
   have aj:=aj L
   cases hA:(A i).2.2 with
   |pu av=>rw[hA]at aj;exact O1.grow aq aj
   |ef F=>rw[hA]at aj;exact b4 i f (by simpa using I) F hA _ _ _ aY aj
 refine⟨λbV=>?_,λbU=>?_⟩
 rotate_left
 ·have L:(A j).2.1=false:=by rw[←aZ];exact bU
  exact fin (fr:=N3 ops.toList st.fr) (λ_ _ h=>h) rfl ae (F6.refl _ _ _) (λh=>by rw[L]at h;cases h) (λ_=>rfl)
 have L:(A j).2.1=true:=by rw[←aZ];exact bV
 rw[L]at aw M
 have ce:cB ak (A j).1=some true:=by rw[ah,L]
 have b3:∀ t x,y02 U t=some x->S0f st be oe aa E x (a.tmps.getD t undef)∨Operand.tmp t ∉ o.op.operands:=λt x m=>by
  by_cases C:Operand.tmp t∈o.op.operands
  ·refine .inl λbH=>?_
   obtain⟨i,f,G,s,O,ap,ag⟩:=X.p1 t x (v03 m)
   obtain⟨e,S,K,ao⟩:=aS o al t C i f s O
   have aE:listed.getD i false=true:=by rw[←ao];exact aW e S K
   have bG:(A i).2.1=true:=by
    have I:=au.p3 i (List.getElem?_eq_some_iff.1 s).1 (List.getElem?_eq_some_iff.1 s).1
    rw[ap,bW.c _ _ bH]at I
    exact(oJ I).symm
   have aH:sk i=false:=by
    grind
   have:=(aA i f t aH (by simpa using s) O aE).1 bG
   rwa [ag]at this
  ·exact .inr C
 have br:∀ t,Operand.tmp t∈o.op.operands->y02 U t=none->O1 st be oe (D2 st.fr t) (a.tmps.getD t undef):=λt C bP=>by
  have g:=ae.fr t
  have bN:D2 (N3 ops.toList st.fr) t=D2 st.fr t:=r00 λD bQ W=>by
   obtain⟨i,ai,e⟩:=List.getElem_of_mem bQ
   have ax:ops.toList[i]?=some D:=by rw[List.getElem?_eq_getElem ai,e]
   obtain⟨bq,S,K,ao⟩:=aS o al t C i D ax W
   have ad:=bv j o an bq S K
   rw[ao]at ad
   obtain⟨x,m⟩:=X.p2 i D t ad ax W
   rw[bP]at m;cases m
  rw[←bN]
  exact O1.fr (st := { st with fr:=N3 ops.toList st.fr }) (fr:=st.fr) g
 have a4:∀ t,Operand.tmp t∈o.op.operands->(∀ x,y02 U t=some x->S0f st be oe aa E x (a.tmps.getD t undef))/\(y02 U t=none->O1 st be oe (D2 st.fr t) (a.tmps.getD t undef)):=λt C =>
  ⟨λx m=>(b3 t x m).resolve_right λam=>am C,br t C⟩
 have mk:∀ {fr:List (Nat×AV)},(∀ t,O1 st be oe (D2 fr t) (a.tmps.getD t undef))->Sim P h0 w0 be oe H { st with fr:=fr } aa a w:=λ{fr} g=>ae.refr (fr:=fr) λt=>O1.fr (g t)
 cases hA:(A j).2.2 with
 |pu av =>
  rw[hA]at M
  rcases M with M|M
  ·refine Oper.wp_mono (λaf T m=>?_) (c0n (be:=be) (oe:=oe) (H:=H) (h:=aa) M aw (λt=>?_) (λx m y aK=>?_) (λx m=>?_) (λx m=>?_) mk)
   ·obtain⟨v,be',oe',N,ab,⟨fr,s2⟩,Z,s⟩:=m
    exact fin (λ_ _ h=>h) ab s2 Z (λ_=>by rw[hA];exact s) (λh=>by rw[L]at h;cases h)
   ·grind
   ·obtain⟨G,⟨D,s,O⟩,ap,ag⟩:=X.p4 x m
    obtain⟨i,f,a1,a2,cj,ck,cl⟩:=X.p1 x.d y (v03 aK)
    grind
   ·have aL:∀(l:List BE),x∈l->∃ b,V01 l x.j=some b:=by
     intro l
     induction l with
     |nil=>intro h;cases h
     |cons z l a0 =>
      intro h
      simp only[V01]
      split
      ·exact⟨_,rfl⟩
      grind[absurd,Nat.ne_of_beq_eq_false]
    obtain⟨b,K⟩:=aL E m
    obtain⟨bD,bC⟩:=D02 K
    obtain⟨_,⟨cm,ay,aN⟩,aO,az⟩:=X.p4 b bD
    obtain⟨_,⟨cn,bm,bn⟩,bo,bp⟩:=X.p4 x m
    rw[bC]at ay aO az
    rw[bm]at ay;cases ay
    rw[bn]at aN
    rw[bp]at az
    have cb:x.d=b.d:=by simpa using aN
    have cc:x.ch=b.ch:=bo.symm.trans aO
    have cd:x.e=b.e:=by simpa using az
    rw[K]
    obtain⟨ca,b7,be',b6⟩:=b
    obtain⟨cy,cw,cx,cv⟩:=x
    grind
   ·obtain⟨G,⟨D,s,O⟩,_,_⟩:=X.p4 x m
    exact X.p2 x.j D x.d G s O
  ·obtain⟨fr,S,g⟩:=T00 (acc:=[]) (be:=be) (oe:=oe) (val:=λt=>a.tmps.getD t undef) aw (λt=>trivial) (λt C=>a4 t (by simpa using C)) (o06 (bs:=E) (M aa aG) rfl)
   refine Oper.wp_mono (λaf T m=>?_) (a9 (mk g) S)
   obtain⟨bk,st',R,v,be',oe',N,⟨rfl,rfl,rfl⟩,ab,s2,s,Z⟩:=m
   exact fin (λ_ _ h=>h) ab s2 ⟨Z.bl,Z.be,Z.sm⟩ (λ_=>by rw[hA];exact O1.fr (st := { st with fr:=fr }) (fr:=st.fr) s) (λh=>by rw[L]at h;cases h)
 |ef F =>
  rw[hA]at M
  obtain⟨_,M⟩:=M
  obtain⟨fr,S,g⟩:=T00 (acc:=[]) (be:=be) (oe:=oe) (val:=λt=>a.tmps.getD t undef) aw (λt=>trivial) (λt C=>a4 t (by simpa using C)) (o06 (bs:=E) (M aa aG) rfl)
  refine Oper.wp_mono (λaf T m=>?_) (g0h (mk g) S)
  obtain⟨bk,st',R,v,be',oe',N,bK,ab,s2,s,Z⟩:=m
  obtain⟨cp,J,⟨C,a1,a2⟩,bh,bu⟩:=X01 s2 s bK
  obtain⟨r,rfl⟩:=A0o C
  have ar:F6 st be oe st be' oe':=by
   have aC:=Z.trans bu
   refine⟨aC.bl,aC.be,λi bg aX=>?_⟩
   obtain⟨s1,ba,co,bb⟩:=aC.sm i bg aX
   have bc:stamp { n:=st.n,fr:=fr,bx:=st.bx,ow:=st.ow++r } i=some bg:=w0e (st := { st with fr:=fr }) aX
   grind
  have bE:∀ i cs ty,nth st.bx i=some (.live cs ty)->∃ vs,M1 { st with fr:=fr } oe' cs vs/\N (be' i)=some (.cells vs.toArray ty (0,0)):=λi cs ty ai=>by
   obtain⟨_,Y,ba,_⟩:=ae.box i cs ty ai
   obtain⟨_,vs,bb,bc⟩:=bh.box i cs ty ai
   refine⟨vs,?_,bc⟩
   have aL:∀(cs:List p5) (Y vs:List Value),M1 { st with fr:=N3 ops.toList st.fr } oe cs Y->M1 { n:=st.n,fr:=fr,bx:=st.bx,ow:=st.ow++r } oe' cs vs->M1 { st with fr:=fr } oe' cs vs:=by
    intro cs
    induction cs with
    |nil=>intro Y vs _ g;cases vs with
     |nil=>trivial
     |cons v vs=>exact g.elim
    |cons c cs a0 =>
     intro Y vs aB G
     cases Y with
     |nil=>exact aB.elim
     |cons ct Y =>
      cases vs with
      |nil=>exact G.elim
      |cons cu vs =>
       refine⟨?_,a0 Y vs aB.2 G.2⟩
       cases c with
       |val x=>exact G.1
       |own k s1 =>
        obtain⟨bi,bd,_,_⟩:=aB.1
        obtain⟨cq,bf,bY,bZ⟩:=G.1
        have b0:stamp { n:=st.n,fr:=fr,bx:=st.bx,ow:=st.ow++r } k=some bi:=w0e (st := { st with fr:=fr }) bd
        rw[b0]at bf
        cases bf
        exact⟨bi,bd,bY,bZ⟩
   exact aL cs Y vs ba bb
  have b2:Sim P h0 w0 be' oe' N { st with fr:=fr } J a T:=Sim.untail (st := { st with fr:=fr }) (t:=r) bh (λu=>O1.grow (st := { st with fr:=fr }) (st' := { st with fr:=fr }) ⟨ar.bl,ar.be,ar.sm⟩ (O1.fr (g u))) bE
  exact fin (fr:=fr) a1 ab b2 ar (λ_=>by rw[hA];exact a2) (λh=>by rw[L]at h;cases h)
theorem d08.start{ops:Array Oper}{st:St}{A:Asg}{sk:Nat->Bool}(f:Sim P h0 w0 be oe H st h a w):d08 P h0 w0 ops st h A sk [] (Array.replicate ops.size false) a w:=by
 refine⟨be,oe,H,h,λ_ _ h=>h,f.refr (fr:=N3 ops.toList st.fr) λt=>?_,λp k=>(by cases k),λj o d _ c e b=>?_⟩
 ·by_cases hx:∃ o∈ops.toList,o.dst=some t
  ·obtain⟨o,c,e⟩:=hx
   rw[k01 c e]
   trivial
  ·rw[r00 λo i g=>hx ⟨o,i,g⟩]
   exact f.fr t
 ·simp[Array.getElem?_replicate]at b
  split at b<;>cases b
theorem j0k{ops:Array Oper}{st:St}{A:Asg}{sk:Nat->Bool}{kp:List (Nat×Value)}{s:FL}{E:List BE}{K:St->Hp->Prop}{listed:Array Bool}
  (U:∀ i,sk i=true->(A i).2.2 = .pu (.val undef)) (Z:∀(i j:Nat) (b D:Oper) (d:Nat),ops.toList[i]?=some b->ops.toList[j]?=some D->b.dst=some d->D.dst=some d->i=j)
  (f:X0d ops.toList A s E ops.toList.length) (O:∀ c,Sub h c->T0d c s st.fr λfr=>K { st with fr:=fr } c) (ac:∀ j,j<ops.size->listed.getD j false=true)
  (l:d08 P h0 w0 ops st h A sk kp listed a w):∃ be oe H c fr,K { st with fr:=fr } c/\Sim P h0 w0 be oe H { st with fr:=N3 ops.toList st.fr } c a w/\(∀ p∈kp,a.tmps.getD p.1 undef=p.2) /\
   ∀ t,(∀(i:Nat) (b:Oper),ops.toList[i]?=some b->b.dst=some t->sk i=false)->O1 st be oe (D2 fr t) (a.tmps.getD t undef):=by
 obtain⟨be,oe,H,c,T,X,keep,Y⟩:=l
 have N:∀ t,(∃(i:Nat) (b:Oper),ops.toList[i]?=some b/\b.dst=some t/\sk i=true) ∨ ¬ ∃(i:Nat) (b:Oper),ops.toList[i]?=some b/\b.dst=some t/\sk i=true:=λt=>Classical.em _
 have m:∃ val:Nat->Value,∀ t,((∃(i:Nat) (b:Oper),ops.toList[i]?=some b/\b.dst=some t/\sk i=true)->val t=undef)/\((¬ ∃(i:Nat) (b:Oper),ops.toList[i]?=some b/\b.dst=some t/\sk i=true)->val t=a.tmps.getD t undef) :=
  Classical.axiomOfChoice (r:=λt v=>((∃(i:Nat) (b:Oper),ops.toList[i]?=some b/\b.dst=some t/\sk i=true)->v=undef)/\((¬ ∃(i:Nat) (b:Oper),ops.toList[i]?=some b/\b.dst=some t/\sk i=true)->v=a.tmps.getD t undef)) λt=>by
   rcases N t with h|h
   ·exact⟨undef,λ_=>rfl,λn=>absurd h n⟩
   grind
 obtain⟨val,m⟩:=m
 obtain⟨fr,ab,g⟩:=v0e (st:=st) (be:=be) (oe:=oe) (val:=val) (λp S L=>by
  obtain⟨t,x⟩:=p
  obtain⟨i,b,h0,F,G,I,J⟩:=f.p1 t x S
  cases hsk:sk i with
  |true =>
   have e:=(m t).1 ⟨i,b,F,G,hsk⟩
   have u:=U i hsk
   rw[J]at u
   show z04 st be oe c x.2 (val t)
   rw[u,e];exact rfl
  |false =>
  have y : ¬ ∃(i:Nat) (b:Oper),ops.toList[i]?=some b/\b.dst=some t/\sk i=true:=λ⟨k,ok,q,C,V⟩=>by
   grind
  have aa:(A i).2.1=true:=by
   have:=f.p3 i h0 h0
   rw[I,show x.1 = [] from L]at this
   exact(oJ this).symm
  grind) (λt z=>by
  have y : ¬ ∃(i:Nat) (b:Oper),ops.toList[i]?=some b/\b.dst=some t/\sk i=true:=λ⟨k,ok,q,C,V⟩=>by
   obtain⟨x,o⟩:=f.p2 k ok t (List.getElem?_eq_some_iff.1 q).1 q C
   exact z x (v03 o)
  rw[(m t).2 y]
  have Q:D2 (N3 ops.toList st.fr) t=D2 st.fr t:=r00 λW R M=>by
   obtain⟨i,l,e⟩:=List.getElem_of_mem R
   obtain⟨x,o⟩:=f.p2 i W t l (by rw[List.getElem?_eq_getElem l,e]) M
   exact z x (v03 o)
  have:=X.fr t
  rw[Q]at this
  exact O1.fr (st := { st with fr:=N3 ops.toList st.fr }) (fr:=st.fr) this) (O c T)
 grind
theorem A05:∀ {l:List Oper},J0b l=true->∀ o∈l,∀ i w,o.guard=some (i,w)->Z8 i o=true
 | [],h,o,a=>by cases a
 |y::r,h,o,a=>by
  simp only[J0b,Bool.and_eq_true]at h
  rcases List.mem_cons.1 a with rfl|a
  ·grind
  ·exact A05 h.2 o a
theorem x0q{ops:Array Oper}{Q:Exit->Act->World->Prop}{Inv:Array Bool->Act->World->Prop}(hB:∀(k:Nat) (o:Oper),ops.toList[k]?=some o->∀ e∈o.after,Region.binds .any e=true->e.on<k)
  (hstep:∀ listed a w j o,ops[j]?=some o->(∀ e∈o.after,Region.binds .any e=true->listed.getD e.on false=true)->Inv listed a w ->
   (Region.wanted o (yielded ops a.tmps)=true->o.wp P a w (Inv (listed.setIfInBounds j true)) Q)/\(Region.wanted o (yielded ops a.tmps)=false->Inv (listed.setIfInBounds j true) (a.put o.dst undef) w))
  (hQ:∀ listed a w,(∀ j,j<ops.size->listed.getD j false=true)->Inv listed a w->Q .normal a w) :
  ∀(fuel:Nat) (listed:Array Bool) (a:Act) (w:World),listed.size=ops.size->listed.toList.count true+fuel=ops.size->Inv listed a w->wpAny P .any ops Q fuel listed a w
 |0,listed,a,w,hsz,hc,hi=>by
  have hall':∀ j,j<ops.size->listed.getD j false=true:=λj hj=>by
   have h1:∀ b∈listed.toList,true=b:=List.count_eq_length.1 (by grind)
   have hlt:j<listed.size:=by omega
   have:=h1 listed[j] (by simp)
   simp[hlt,←this]
  refine⟨?_,hQ listed a w hall' hi⟩
  simp_all[Region.ready,List.mem_cons_self,mem_ready,Array.getElem?_eq_some_iff]
 |fuel+1,listed,a,w,hsz,hc,hi=>by
  refine⟨λhr=>hQ listed a w (a0a hB hsz hr) hi,λj hj=>?_⟩
  obtain⟨h1,o,h2,h3⟩:=mem_ready.1 hj
  unfold wpOp
  simp only[h2]
  obtain⟨ht,hf⟩:=hstep listed a w j o h2 h3 hi
  have next:∀ a' w',Inv (listed.setIfInBounds j true) a' w'->wpAny P .any ops Q fuel (listed.setIfInBounds j true) a' w':=λa' w' hi'=>x0q hB hstep hQ fuel _ a' w' (by simpa using hsz) (by rw[count_set h1];omega) hi'
  cases hw:Region.wanted o (yielded ops a.tmps)with
  |true =>
   rw[if_pos rfl]
   exact .inl (Oper.wp_mono next (ht hw))
  |false =>
   grind
theorem c0p{ops:Array Oper}{Q:Exit->Act->World->Prop}{Inv:Array Bool->Act->World->Prop}(hB:∀(k:Nat) (o:Oper),ops.toList[k]?=some o->∀ e∈o.after,Region.binds .any e=true->e.on<k)
  (hstep:∀ listed a w j o,ops[j]?=some o->(∀ e∈o.after,Region.binds .any e=true->listed.getD e.on false=true)->Inv listed a w ->
   (Region.wanted o (yielded ops a.tmps)=true->o.wp P a w (Inv (listed.setIfInBounds j true)) Q)/\(Region.wanted o (yielded ops a.tmps)=false->Inv (listed.setIfInBounds j true) (a.put o.dst undef) w))
  (hQ:∀ listed a w,(∀ j,j<ops.size->listed.getD j false=true)->Inv listed a w->Q .normal a w) :
  ∀(l:List Oper) (k:Nat) (listed:Array Bool) (a:Act) (w:World),(∀ j,l[j]?=ops.toList[k+j]?)->k+l.length=ops.size->listed.size=ops.size->(∀ j,j<k->listed.getD j false=true)->Inv listed a w->wpList P ops Q l a w
 | [],k,listed,a,w,hl,hk,hsz,hp,hi=>hQ listed a w (λj hj=>hp j (by simp at hk;omega)) hi
 |o::l,k,listed,a,w,hl,hk,hsz,hp,hi=>by
  have ho:ops.toList[k]?=some o:=by simpa using (hl 0).symm
  have hl':∀ j,l[j]?=ops.toList[k+1+j]?:=λj=>by have:=hl (j+1);grind
  obtain⟨ht,hf⟩:=hstep listed a w k o (by simpa using ho) (λe he hb=>hp _ (hB k o ho e he hb)) hi
  have next:∀ a' w',Inv (listed.setIfInBounds k true) a' w'->wpList P ops Q l a' w':=λa' w' hi' =>
   c0p hB hstep hQ l (k+1) _ a' w' hl' (by grind) (by simpa using hsz) (λj hj=>by
    by_cases e:k=j
    ·subst e
     have:k<listed.size:=by grind
     simp[this]
    ·rw[getD_set_ne false e];exact hp j (by omega)) hi'
  unfold wpList
  cases hw:Region.wanted o (yielded ops a.tmps)with
  |true =>
   rw[if_pos rfl]
   exact .inl (Oper.wp_mono next (ht hw))
  |false =>
   grind
theorem h0h{ops:Array Oper}{st:St}{K:St->Hp->Prop}{Q:Exit->Act->World->Prop}(hb:H02 st.n ops.toList=true)(he:evU P ops.toList 0 [] [] st h K)
  (hQ:∀ a w st h be oe H,K st h->Sim P h0 w0 be oe H st h a w->Q .normal a w) :
  (∀ {be:Nat->Nat} {oe:Nat->Value} {H:Hp} {a:Act} {w:World},Sim P h0 w0 be oe H st h a w->wpAny P .any ops Q ops.size (Array.replicate ops.size false) a w) /\
  (∀ {be:Nat->Nat} {oe:Nat->Value} {H:Hp} {a:Act} {w:World},Sim P h0 w0 be oe H st h a w->wpList P ops Q ops.toList a w):=by
 simp only[H02,I01,Bool.and_eq_true]at hb
 obtain⟨⟨⟨b1,b2⟩,b3⟩,b4⟩:=hb
 obtain⟨hn,hD⟩:=N03 b1
 have hB:∀(k:Nat) (o:Oper),ops.toList[k]?=some o->∀ e∈o.after,Region.binds .any e=true->e.on<k:=λk o hk e he' hb=>by
  have:=E02 b2 k o hk e he' hb
  omega
 have hdep:=y05 b3
 have hgd:=A05 b4
 obtain⟨A,Lf,Bf,_,_,hP,hall,hfin⟩:=x0c (ops:=ops.toList) hD ops.toList 0 [] [] (λ_=>([],true,.pu .dead)) (λj=>by simp) (by simp)
  ⟨λt x h=>(by cases h),λi oi d hi=>by omega,λi hi=>by omega,λx hx=>(by cases hx)⟩ he
 have step:∀ listed a w j o,ops[j]?=some o->(∀ e∈o.after,Region.binds .any e=true->listed.getD e.on false=true)->d08 P h0 w0 ops st h A (λ_=>false) [] listed a w ->
   (Region.wanted o (yielded ops a.tmps)=true->o.wp P a w (d08 P h0 w0 ops st h A (λ_=>false) [] (listed.setIfInBounds j true)) Q)/\(Region.wanted o (yielded ops a.tmps)=false->d08 P h0 w0 ops st h A (λ_=>false) [] (listed.setIfInBounds j true) (a.put o.dst undef) w) :=
  λlisted a w j o h1 h2 h3=>b0p hD hn hB hdep hgd hP (λj o ho=>hall j o (Nat.zero_le _) ho) rfl (λ_ _ _ _ _ h=>nomatch h) (λ_ h=>nomatch h) (λ_ hp=>nomatch hp) h1 h2 h3
 have done:∀ listed a w,(∀ j,j<ops.size->listed.getD j false=true)->d08 P h0 w0 ops st h A (λ_=>false) [] listed a w->Q .normal a w:=λlisted a w hl hi=>by
  obtain⟨be,oe,H,h',fr,hk,s,_,g⟩:=j0k (sk:=λ_=>false) (λ_ h=>nomatch h) hD hP hfin hl hi
  exact hQ a w _ h' be oe H hk (s.refr (fr:=fr) λt=>O1.fr (g t λ_ _ _ _=>rfl))
 refine⟨λs=>?_,λs=>?_⟩
 ·exact x0q hB step done ops.size _ _ _ (by simp) (by simp[List.count_replicate]) (d08.start s)
 ·exact c0p hB step done ops.toList 0 _ _ _ (λj=>by simp) (by simp) (by simp) (λj hj=>by omega) (d08.start s)
end
end Go.H
namespace Go.H
set_option linter.unusedVariables false
set_option linter.unusedSimpArgs false
def T02(H:Hp):List (Nat×Obj)->Hp
 | []=>H
 |p::l=>(T02 H l).set p.1 p.2
theorem F02{H:Hp}{b:Nat}:∀ {l:List (Nat×Obj)},(∀ p∈l,p.1≠b)->T02 H l b=H b
 | [],_=>rfl
 |p::l,h=>by
  rw[T02,Hp.set_other _ _ λe=>h p mS e.symm]
  exact F02 λq a=>h q (mC _ a)
theorem O03{H:Hp}:∀ {l:List (Nat×Obj)},(l.map λp=>p.1).Nodup->∀ {p:Nat×Obj},p∈l->T02 H l p.1=some p.2
 | [],_,p,h=>nomatch h
 |q::l,a,p,h=>by
  rw[List.map_cons,List.nodup_cons]at a
  rcases List.mem_cons.1 h with rfl|h
  ·exact Hp.set_same _ _ _
  ·rw[T02,Hp.set_other _ _ λe=>a.1 (List.mem_map.2 ⟨p,h,e⟩)]
   exact O03 a.2 h
theorem r06{H:Hp}{l:List (Nat×Obj)}(b:Nat):(∃ p∈l,p.1=b)∨∀ p∈l,p.1≠b:=by
 grind
theorem y0c{a H:Hp}{f w:World}{l:List (Nat×Obj)}(k:Vis (T02 a l) f)(i:∀ p∈l,a p.1=none/\p.1<f.heap.size)(g:(l.map λp=>p.1).Nodup)(m:j2 a f H w):
  j2 (T02 a l) f (T02 H l) w:=by
 refine⟨m.os,m.tape,m.output,m.size,λb e j=>?_,λb o c=>?_,λb e=>?_,m.fz,m.dn⟩
 ·rcases r06 (H:=a) (l:=l) b with⟨p,d,rfl⟩|c
  ·grind[O03]
  ·rw[F02 c]at j;exact m.keep b e j
 ·rcases r06 (H:=a) (l:=l) b with⟨p,d,rfl⟩|h
  ·rw[O03 g d]at c;cases c
   rw[m.keep p.1 (i p d).2 (i p d).1]
   exact k p.1 _ (O03 g d)
  ·rw[F02 h]at c;exact m.vis b o c
 ·rcases r06 (H:=a) (l:=l) b with⟨p,d,rfl⟩|h
  ·grind[O03]
  ·rw[F02 h]at e ⊢
   exact m.fresh b e
section
variable {P:Program} {h0:Hp} {w0:World} {be:Nat->Nat} {oe:Nat->Value} {H:Hp} {h:Hp} {a:Act} {w:World}
theorem Sim.base{st:St}(b:Sim P h0 w0 be oe H st h a w){c:Hp}{e d:World}(m:j2 c e H d):Sim P c e be oe H st h a d :=
 ⟨m,b.sub,b.box,b.pub,b.own,b.frz,b.bb,b.oo,b.bo,b.dfr,b.siz,b.fr⟩
theorem Sim.more{st:St}(c:Sim P h0 w0 be oe H st h a w){l:List (Nat×Obj)}(v:∀ p∈l,H p.1=none){j:Hp}{n:World}(m:j2 j n (T02 H l) w):Sim P j n be oe (T02 H l) st h a w:=by
 have keep:∀ b,H b≠none->T02 H l b=H b:=λb d=>F02 λp x e=>d (by grind)
 refine⟨m,λb o d=>by rw[keep b (by rw[c.sub b o d];simp)];exact c.sub b o d,λi cs ty f=>?_,c.pub,λi k e sz by_ nn xs f=>?_,c.frz,c.bb,c.oo,c.bo,c.dfr,c.siz,c.fr⟩
 ·obtain⟨s,vs,t,u⟩:=c.box i cs ty f
  grind
 ·refine(c.own i k e sz by_ nn xs f).keep λg q=>?_
  obtain⟨y,_,_,_,z⟩:=(c.own i k e sz by_ nn xs f).block q
  grind
theorem Sim.claim{st:St}(c:Sim P h0 w0 be oe H st h a w){cs:List p5}{vs:List Value}{t:TypeId}{b:Nat}(E:M1 st oe cs vs)(D:H b=some (.cells vs.toArray t (0,0)))(F:h b=none)
  (K:∀ i cs ty,nth st.bx i=some (.live cs ty)->be i≠b) (L:∀ i s e sz by_ nn xs g,nth st.ow i=some ⟨s,.live e sz by_ nn xs⟩->(oe i).ownBlock=some g->g≠b) :
  let be':=λj=>if j=st.bx.length then b else be j
  let st':St := { st with bx:=st.bx ++ [.live cs t] }
  Sim P h0 w0 be' oe H st' h a w/\F6 st be oe st' be' oe:=by
 intro be' st'
 have l:F6 st be oe st' be' oe:=by
  refine⟨by simp[st'],λi d=>?_,λi c G=>⟨c,G,Nat.le_refl _,λ_=>rfl⟩⟩
  grind
 have m:∀ i cs ty,nth st.bx i=some (.live cs ty)->be' i=be i:=λi cs ty d=>by simp[be',Nat.ne_of_lt (P00 d)]
 have k:∀ i x,nth st'.bx i=some x->(i=st.bx.length/\x = .live cs t)∨(i≠st.bx.length/\nth st.bx i=some x):=by
  grind[w01]
 refine⟨⟨c.mv,c.sub,?_,?_,c.own,c.frz,?_,c.oo,?_,c.dfr,c.siz,λt=>(c.fr t).grow l⟩,l⟩
 ·intro i cs' ty d
  rcases k i _ d with⟨rfl,e⟩|⟨e,f⟩
  ·cases e
   exact⟨by simp[be',F],vs,E.grow l,by simp[be',D]⟩
  ·obtain⟨z,J,A,C⟩:=c.box i cs' ty f
   rw[m i cs' ty f]
   exact⟨z,J,A.grow l,C⟩
 ·intro i u d
  rcases k i _ d with⟨_,e⟩|⟨e,f⟩
  ·cases e
  ·simp[be',e,c.pub i u f]
 ·intro i j v I M N d o e
  rcases k i _ d with⟨rfl,n⟩|⟨n,f⟩<;>rcases k j _ o with⟨rfl,y⟩|⟨y,q⟩
  ·rfl
  ·grind
  ·grind
  ·rw[m i _ _ f,m j _ _ q]at e;exact c.bb i j _ _ _ _ f q e
 ·intro i v I j s e sz by_ nn xs d o p
  rcases k i _ d with⟨rfl,n⟩|⟨n,f⟩
  ·grind
  ·rw[m i _ _ f]at p;exact c.bo i _ _ j _ _ _ _ _ _ f o p
def a09(a:Act)(d:Nat):Nat:=match a.tmps.getD d undef with
 | .pointer (some ⟨b,_,_⟩)=>b
 |_=>0
theorem U04{a:Act}{d b:Nat}(e:a.tmps.getD d undef=ptr b 0):a09 a d=b:=by
 unfold a09;rw[e];rfl
def K0q(P:Program)(H h:Hp)(a:Act)(n:Nat)(o:Oper):Prop:=G03 o=true->∃ d t z,o.op = .alloc t/\o.dst=some d/\d<n/\v00 P t=some z/\a.tmps.getD d undef=ptr (a09 a d) 0/\H (a09 a d)=some (.cells z.cells t (0,0))/\h (a09 a d)=none
def L0q(a:Act)(o c:Oper):Prop:=G03 o=true->G03 c=true->∀ d b,o.dst=some d->c.dst=some b->a09 a d≠a09 a b
theorem T0f{st:St}{h:Hp}{d:Nat}:d06 ⟨st,h,[],[]⟩ d=false:=rfl
theorem e0j{K:St->Hp->Prop}{fd:List (Nat×AV)}:∀(l:List Oper) (st:St) (be:Nat->Nat),Sim P h0 w0 be oe H { st with fr:=fd } h a w ->
  (∀ t,(∀ o∈l,G03 o=true->o.dst≠some t)->O1 st be oe (D2 st.fr t) (a.tmps.getD t undef))->(∀ o∈l,K0q P H h a st.n o)->l.Pairwise (L0q a) ->
  (∀ i cs ty,nth st.bx i=some (.live cs ty)->∀ o∈l,G03 o=true->∀ d,o.dst=some d->be i≠a09 a d) ->
  (∀ i k e sz by_ nn xs g,nth st.ow i=some ⟨k,.live e sz by_ nn xs⟩->(oe i).ownBlock=some g->∀ o∈l,G03 o=true->∀ d,o.dst=some d->g≠a09 a d) ->
  doA (O02 P) l st h K->∃ st' be',K st' h/\Sim P h0 w0 be' oe H st' h a w
 | [],st,be,x,q,_,_,_,_,j=>⟨st,be,j,x.refr (fr:=st.fr) λt=>O1.fr (st:=st) (q t λo p=>nomatch p)⟩
 |o::l,st,be,x,q,y,s,A,p,j=>by
  rw[List.pairwise_cons]at s
  have j:(match G03 o with
   |true=>O02 P o st h λst h=>doA (O02 P) l st h K
   |false=>doA (O02 P) l st h K):=j
  cases hal:G03 o with
  |false =>
   rw[hal]at j
   exact e0j l st be x (λt U=>q t λc b G=>by
    grind) (λc b=>y c (mC _ b)) s.2 (λi cs ty f c b=>A i cs ty f c (mC _ b)) (λi k e sz by_ nn xs g f m c b=>p i k e sz by_ nn xs g f m c (mC _ b)) j
  |true =>
   rw[hal]at j
   obtain⟨d,t,z,O,v,W,Q,R,C,S⟩:=y o mS hal
   simp only[O02,U7,O,Q,P09,v,b0c,T0f]at j
   have L:Nat.blt d (st.withBx (st.bx ++ [.live (vals z.cells.toList) t])).n=true:=by
    grind
   simp only[L]at j
   obtain⟨n,fr,bx,ow⟩:=st
   have N:doA (O02 P) l ⟨n,(d,.box bx.length 0)::fr,bx ++ [.live (vals z.cells.toList) t],ow⟩ h K:=j
   have J:z.cells=z.cells.toList.toArray:=by simp
   rw[J]at C
   obtain⟨s2,F⟩:=x.claim (M1.vals _ oe _) C S (λi cs ty f=>A i cs ty f o mS hal d v) (λi k e sz by_ nn xs g f m=>p i k e sz by_ nn xs g f m o mS hal d v)
   refine e0j l ⟨n,(d,.box bx.length 0)::fr,bx ++ [.live (vals z.cells.toList) t],ow⟩ _ s2 (λu V=>?_) (λc b=>y c (mC _ b)) s.2 (λi cs ty f c b I D M=>?_) (λi k e sz by_ nn xs g f m c b=>p i k e sz by_ nn xs g f m c (mC _ b)) N
   ·show O1 _ _ _ (D2 ((d,.box bx.length 0)::fr) u) _
    rw[D3]
    split
    ·rename_i e
     subst e
     refine⟨by simp,?_⟩
     rw[R];simp
    ·rename_i e
     have E:=q u λc b G T=>by
      grind
     exact O1.fr (st:=⟨n,fd,bx ++ [.live (vals z.cells.toList) t],ow⟩) (O1.grow F (O1.fr (st:=⟨n,fr,bx,ow⟩) (fr:=fd) E))
   ·simp only[w01]at f
    split at f
    ·rename_i e
     subst e
     simp only[if_pos]
     exact s.1 c b hal I d D v M
    grind
theorem l04{d:Nat}:∀ {l:List Operand},h06 d l=false->Operand.tmp d ∉ l
 | [],_,h=>nomatch h
 |x::r,a,h=>by
  rcases List.mem_cons.1 h with e|b
  ·subst e
   simp[h06]at a
  ·cases x<;>simp only[h06,Bool.or_eq_false_iff]at a
   ·exact l04 a.2 b
   all_goals exact l04 a b
theorem i0b{d:Nat}:∀ {l:List Oper},f0c d l=false->∀ o∈l,Operand.tmp d ∉ o.op.operands
 | [],_,o,h=>nomatch h
 |y::r,a,o,h=>by
  simp only[f0c,Bool.or_eq_false_iff]at a
  rcases List.mem_cons.1 h with rfl|h
  ·exact λb=>l04 a.1 (by simpa using b)
  ·exact i0b a.2 o h
theorem i0h{all:List Oper}:∀ {l:List Oper},okA P all l=true->∀ o∈l,G03 o=true->∃ t d z,o.op = .alloc t/\o.guard=none/\o.dst=some d/\v00 P t=some z/\∀ c∈all,Operand.tmp d ∉ c.op.operands
 | [],_,o,h,_=>nomatch h
 |y::r,a,o,h,b=>by
  simp only[okA,Bool.and_eq_true]at a
  rcases List.mem_cons.1 h with rfl|h
  ·grind[G03,i0b]
  ·exact i0h a.2 o h b
theorem j0h{o:Oper}(h:G03 o=false):y9 o=o:=by
 grind[y9,G03]
theorem B7(o:Oper):(y9 o).dst=o.dst:=by unfold y9;split<;>rfl
theorem k0h(o:Oper):(y9 o).after=o.after:=by unfold y9;split<;>rfl
theorem l0h(o:Oper):(y9 o).guard=o.guard:=by unfold y9;split<;>rfl
theorem C7:∀(l:List Oper) (i:Nat),(l5 l)[i]?=(l[i]?).map y9
 | [],i=>by simp[l5]
 |o::r,0=>by simp[l5]
 |o::r,i+1=>by simp[l5,C7 r i]
theorem x0e:∀(l:List Oper),(l5 l).length=l.length
 | []=>rfl
 |o::r=>by simp[l5,x0e r]
theorem m0h{o:Oper}{d:Nat}(h:Operand.tmp d∈(y9 o).op.operands):Operand.tmp d∈o.op.operands:=by
 grind[G03,j0h,y9,Op.operands]
abbrev M0q:=List (Nat×Nat×Obj)
def skA(a:List Oper)(i:Nat):Bool:=match a[i]? with
 |some o=>G03 o
 |none=>false
def f0a(P:Program)(h0:Hp)(w0:World)(e:List Oper)(st:St)(h:Hp)(A:Asg)(listed:Array Bool)(a:Act)(w:World):Prop :=
 ∃(c:M0q) (f:Hp) (g:World),j2 h0 w0 (T02 f (c.map λp=>p.2)) g/\(∀ p∈c,f p.2.1=none/\p.2.1<g.heap.size)/\((c.map λp=>p.2).map λp=>p.1).Nodup /\
  d08 P f g (l5 e).toArray st h A (skA e) (c.map λp=>(p.1,ptr p.2.1 0)) listed a w /\
  (∀(j:Nat) (o:Oper) t d z,e[j]?=some o->o.op = .alloc t->o.dst=some d->v00 P t=some z->listed.getD j false=true->∃ b,(d,b,Obj.cells z.cells t (0,0))∈c) /\
  ∀ p∈c,∃(j:Nat) (o:Oper),e[j]?=some o/\G03 o=true/\o.dst=some p.1/\listed.getD j false=true
theorem f0a.start{f:List Oper}{st:St}{A:Asg}{N:Nat}(g:Sim P h0 w0 be oe H st h a w):f0a P h0 w0 f st h A (Array.replicate N false) a w:=by
 refine⟨[],H,w,g.mv,λp b=>(by cases b),by simp,?_,λj o t d z _ _ _ _ e=>?_,λp b=>(by cases b)⟩
 ·have l:Sim P H w be oe H st h a w:=g.base (j2.refl g.mv.vis)
  refine⟨be,oe,H,h,λ_ _ h=>h,l.refr (fr:=N3 (l5 f) st.fr) λt=>?_,λp b=>(by cases b),λj o d _ i k c=>?_⟩
  ·by_cases hx:∃ o∈l5 f,o.dst=some t
   ·obtain⟨o,i,k⟩:=hx
    rw[k01 i k]
    trivial
   ·rw[r00 λo n m=>hx ⟨o,n,m⟩]
    exact l.fr t
  ·simp[Array.getElem?_replicate]at c
   split at c<;>cases c
 ·simp[Array.getElem?_replicate]at e
  split at e<;>cases e
theorem d0p{f:List Oper}{st:St}{A:Asg}{au:FL}{Z:List BE}{listed:Array Bool}{j:Nat}{o:Oper}{Q:Exit->Act->World->Prop}
  (ad:∀(i j:Nat) (l ap:Oper) (d:Nat),(l5 f)[i]?=some l->(l5 f)[j]?=some ap->l.dst=some d->ap.dst=some d->i=j)
  (ae:∀ o∈l5 f,∀ d,o.dst=some d->d<st.n)
  (aA:∀(k:Nat) (o:Oper),(l5 f)[k]?=some o->∀ e∈o.after,Region.binds .any e=true->e.on<k)
  (aG:∀ o∈l5 f,∀ t,Operand.tmp t∈o.op.operands->∀(i:Nat) (l:Oper),(l5 f)[i]?=some l->l.dst=some t->∃ e∈o.after,Region.binds .any e=true/\e.on=i)
  (aH:∀ o∈l5 f,∀ i w,o.guard=some (i,w)->Z8 i o=true)
  (aB:X0d (l5 f) A au Z (l5 f).length)
  (aD:∀ j o,(l5 f)[j]?=some o->∃ aa J,j9 Z o.guard=some (A j).1/\X0d (l5 f) A aa J j/\B07 J Z/\cB J (A j).1=some (A j).2.1/\(OpU P st h aa J o (A j).1 (A j).2.1 (A j).2.2/\∀ av,M07 P aa J (A j).1 o st=some av->(A j).2.2 = .pu av))
  (aU:∀(i:Nat) (l:Oper) (d:Nat),(l5 f)[i]?=some l->l.dst=some d->skA f i=true->∀ ag∈l5 f,Operand.tmp d ∉ ag.op.operands)
  (aS:∀ i,skA f i=true->(A i).2.2 = .pu (.val undef)) (aC:∀ o∈f,G03 o=true->∃ t d z,o.op = .alloc t/\o.guard=none/\o.dst=some d/\v00 P t=some z/\∀ ag∈f,Operand.tmp d ∉ ag.op.operands)
  (bb:listed.getD j true=false)
  (K:f[j]?=some o) (aQ:∀ e∈o.after,Region.binds .any e=true->listed.getD e.on false=true) (aJ:f0a P h0 w0 f st h A listed a w) :
  (Region.wanted o (yielded (l5 f).toArray a.tmps)=true->o.wp P a w (f0a P h0 w0 f st h A (listed.setIfInBounds j true)) Q) /\
  (Region.wanted o (yielded (l5 f).toArray a.tmps)=false->f0a P h0 w0 f st h A (listed.setIfInBounds j true) (a.put o.dst undef) w):=by
 obtain⟨s,T,Y,af,L,W,an,aj,ac⟩:=aJ
 have aO:o∈f:=List.mem_of_getElem? K
 have I:(l5 f)[j]?=some (y9 o):=by rw[C7,K];rfl
 have aM:listed.getD j false=false:=by
  grind
 have aL:j<listed.size:=by
  grind
 have az:∀ p∈s,∃(i:Nat) (l:Oper),(l5 f)[i]?=some l/\l.dst=some p.1/\skA f i=true:=λp c=>by
  obtain⟨i,l,m,D,y,_⟩:=ac p c
  exact⟨i,y9 l,by rw[C7,m];rfl,by rw[B7];exact y,by unfold skA;rw[m];exact D⟩
 cases hisa:G03 o with
 |false =>
  have aK:=j0h hisa
  rw[aK]at I
  have aT:skA f j=false:=by unfold skA;rw[K];exact hisa
  have up:∀ ab E,d08 P T Y (l5 f).toArray st h A (skA f) (s.map λp=>(p.1,ptr p.2.1 0)) (listed.setIfInBounds j true) ab E->f0a P h0 w0 f st h A (listed.setIfInBounds j true) ab E:=λab E aY=>by
   refine⟨s,T,Y,af,L,W,aY,λi l t d z m D y G O=>?_,λp c=>?_⟩
   ·by_cases e:j=i
    ·grind[G03]
    ·rw[getD_set_ne false e]at O
     exact aj i l t d z m D y G O
   grind[getD_set_true]
  have bd:=b0p (P:=P) (h0:=T) (w0:=Y) (ops:=(l5 f).toArray) (Q:=Q) (sk:=skA f) (kp:=s.map λp=>(p.1,ptr p.2.1 0)) (by simpa using ad) (by simpa using ae) (by simpa using aA) (by simpa using aG) (by simpa using aH) (by simpa using aB) (by simpa using aD) aT (by simpa using aU) aS (λp c=>by
   obtain⟨q,C,rfl⟩:=List.mem_map.1 c
   simpa using az q C) (by simpa using I) aQ an
  grind[Oper.wp_mono]
 |true =>
  obtain⟨t,d,z,aZ,a0,F,a1,bc⟩:=aC o aO hisa
  refine⟨λ_=>?_,λM=>?_⟩
  rotate_left
  ·unfold Region.wanted at M;rw[a0]at M;cases M
  obtain⟨be,oe,H,S,aR,R,keep,ay⟩:=an
  have ao:j2 h0 w0 (T02 H (s.map λp=>p.2)) w:=af.trans (y0c af.vis (λp c=>by
   obtain⟨q,C,rfl⟩:=List.mem_map.1 c
   exact L q C) W R.mv)
  have ai:∀ p∈s,H p.2.1=none:=λp c=>R.mv.none_of (L p c).2 (L p c).1
  have M:wpS P (execOp a.eval o) (T02 H (s.map λp=>p.2)) (λn ah=>∃ b,T02 H (s.map λp=>p.2) b=none/\n = .value (ptr b 0)/\ah=(T02 H (s.map λp=>p.2)).set b (.cells z.cells t (0,0))):=by
   unfold execOp;rw[aZ]
   refine w7 _ _ _ ?_
   simp only[Instr.alloc,newVar,newRow,newObj,T1,T08 a1,Z1,wpS]
   exact λb U=>⟨b,U,rfl,rfl⟩
  obtain⟨n,ah,E,aP,⟨b,U,rfl,rfl⟩,V⟩:=p9 _ _ _ ao.vis M
  refine L7 aP ?_
  have al:∀ p∈s,p.2.1≠b:=λp c e=>by
   have:=O03 (H:=H) W (List.mem_map.2 ⟨p,c,rfl⟩)
   rw[e,U]at this;cases this
  have ak:H b=none:=by
   rw[←U,F02]
   intro p c
   obtain⟨q,C,rfl⟩:=List.mem_map.1 c
   exact al q C
  have aX:Vis H E:=λx a2 N=>by
   refine V.vis x a2 ?_
   rw[Hp.set_other _ _ λe=>by subst e;rw[ak]at N;cases N]
   rw[F02]
   ·exact N
   ·intro p c e
    obtain⟨q,C,rfl⟩:=List.mem_map.1 c
    rw[←e,ai q C]at N;cases N
  have aN:d<a.tmps.size:=by rw[R.siz];exact ae (y9 o) (List.mem_of_getElem? I) d (by rw[B7];exact F)
  have ba:(a.put o.dst (ptr b 0)).tmps.getD d undef=ptr b 0:=by rw[F];simp[Act.put,aN]
  have ar:∀ u,u≠d->(a.put o.dst (ptr b 0)).tmps.getD u undef=a.tmps.getD u undef:=λu aV=>by
   rw[F];simp[Act.put,Array.getElem?_setIfInBounds_ne (Ne.symm aV)]
  have a3:∀ p∈s,p.1≠d:=λp c e=>by
   obtain⟨i,l,m,D,y,G⟩:=ac p c
   have:=ad i j (y9 l) (y9 o) d (by rw[C7,m];rfl) I (by rw[B7,y,e]) (by rw[B7];exact F)
   subst this
   rw[aM]at G;cases G
  have s1:Sim P H E be oe H { st with fr:=N3 (l5 f) st.fr } S a E:=(by simpa using R:Sim P T Y be oe H { st with fr:=N3 (l5 f) st.fr } S a w).base (j2.refl aX)
  have s2:Sim P H E be oe H { st with fr:=N3 (l5 f) st.fr } S (a.put o.dst (ptr b 0)) E:=by
   have c:=s1.put (d:=d) (av := .dead) (v:=ptr b 0) (ae (y9 o) (List.mem_of_getElem? I) d (by rw[B7];exact F)) trivial
   rw[F]
   refine c.refr (fr:=N3 (l5 f) st.fr) λu=>?_
   have g:=c.fr u
   rw[D3]at g
   split at g
   ·rename_i e
    subst e
    rw[k01 (List.mem_of_getElem? I) (by rw[B7];exact F)]
    trivial
   ·exact g
  refine⟨(d,b,.cells z.cells t (0,0))::s,H,E,?_,λp c=>?_,?_,⟨be,oe,H,S,aR,by simpa using s2,λp c=>?_,λi l u X m D y=>?_⟩,λi l a4 ax z' m D y G O=>?_,λp c=>?_⟩
  ·exact ao.trans V
  ·rcases List.mem_cons.1 c with rfl|c
   ·exact⟨ak,V.vis.lt (by rw[Hp.set_same];simp)⟩
   ·exact⟨ai p c,Nat.lt_of_lt_of_le (L p c).2 (Nat.le_trans R.mv.size V.size)⟩
  ·rw[List.map_cons,List.map_cons,List.nodup_cons]
   refine⟨λaF=>?_,W⟩
   obtain⟨q,C,e⟩:=List.mem_map.1 aF
   obtain⟨p,c,rfl⟩:=List.mem_map.1 C
   exact al p c e
  ·rw[List.map_cons]at c
   rcases List.mem_cons.1 c with rfl|c
   ·exact ba
   ·obtain⟨q,C,rfl⟩:=List.mem_map.1 c
    rw[ar _ (a3 q C)]
    exact keep _ c
  ·have am:j≠i:=λe=>by
    subst e
    have aq:G03 o=false:=by unfold skA at X;rw[K]at X;exact X
    rw[hisa]at aq;cases aq
   rw[getD_set_ne false am]at y
   have aW:u≠d:=λe=>by
    subst e
    exact am (ad j i (y9 o) l u I (by simpa using m) (by rw[B7];exact F) D)
   rw[ar u aW]
   exact ay i l u X m D y
  ·by_cases e:j=i
   ·grind[List.mem_cons_self]
   ·rw[getD_set_ne false e]at O
    obtain⟨aw,aE⟩:=aj i l a4 ax z' m D y G O
    exact⟨aw,mC _ aE⟩
  ·rcases List.mem_cons.1 c with rfl|c
   ·exact⟨j,o,K,hisa,F,by simp[aL]⟩
   ·obtain⟨i,l,m,D,y,G⟩:=ac p c
    exact⟨i,l,m,D,y,getD_set_true G⟩
theorem y0e{a m:Type}{f:a->m}:∀ {l:List a},(l.map f).Nodup->∀ {p q:a},p∈l->q∈l->f p=f q->p=q
 | [],_,p,q,h,_,_=>nomatch h
 |x::l,b,p,q,g,j,e=>by
  rw[List.map_cons,List.nodup_cons]at b
  rcases List.mem_cons.1 g with c|i<;>rcases List.mem_cons.1 j with d|k
  ·rw[c,d]
  ·grind
  ·grind
  ·exact y0e b.2 i k e
theorem C0o{c:List Oper}{st:St}{A:Asg}{V:FL}{ad:List BE}{K:St->Hp->Prop}{listed:Array Bool}
  (X:∀(i j:Nat) (N ac:Oper) (d:Nat),(l5 c)[i]?=some N->(l5 c)[j]?=some ac->N.dst=some d->ac.dst=some d->i=j)
  (ao:∀ o∈l5 c,∀ d,o.dst=some d->d<st.n)
  (aq:∀ i,skA c i=true->(A i).2.2 = .pu (.val undef)) (ak:∀ o∈c,G03 o=true->∃ t d z,o.op = .alloc t/\o.guard=none/\o.dst=some d/\v00 P t=some z/\∀ av∈c,Operand.tmp d ∉ av.op.operands)
  (ai:X0d (l5 c) A V ad (l5 c).length) (al:∀ m,Sub h m->T0d m V st.fr λfr=>doA (O02 P) c { st with fr:=fr } m K) (Z:∀ j,j<c.length->listed.getD j false=true)
  (C:f0a P h0 w0 c st h A listed a w):∃ st' m be oe H,K st' m/\Sim P h0 w0 be oe H st' m a w:=by
 obtain⟨O,aD,aK,ab,aa,T,ar,ah,aE⟩:=C
 obtain⟨be,oe,H,m,fr,an,F,keep,g⟩:=j0k (K:=λst h=>doA (O02 P) c st h K) (ops:=(l5 c).toArray) aq (by simpa using X) (by simpa using ai) al (λj u=>Z j (by simpa [x0e] using u)) ar
 have au:j2 h0 w0 (T02 H (O.map λp=>p.2)) w:=ab.trans (y0c ab.vis (λp L=>by
  grind) T F.mv)
 have R:∀ p∈O,H p.2.1=none:=λp L=>F.mv.none_of (aa p L).2 (aa p L).1
 have ay:=F.more (l:=O.map λp=>p.2) (λp L=>by
  grind) au
 have G:∀ o∈c,G03 o=true->∃ t d z b,o.op = .alloc t/\o.dst=some d/\v00 P t=some z/\(d,b,Obj.cells z.cells t (0,0))∈O/\a.tmps.getD d undef=ptr b 0:=λo v s=>by
  obtain⟨t,d,z,D,q,E,k,x⟩:=ak o v s
  obtain⟨j,u⟩:=List.getElem?_of_mem v
  obtain⟨b,J⟩:=ah j o t d z u D E k (Z j (List.getElem?_eq_some_iff.1 u).1)
  exact⟨t,d,z,b,D,E,k,J,keep _ (List.mem_map.2 ⟨_,J,rfl⟩)⟩
 have ap:∀ b,H b=none->m b=none:=λb J=>by
  cases e:m b with
  |none=>rfl
  |some o=>rw[F.sub b o e]at J;cases J
 refine(e0j (K:=K) (fd:=N3 (l5 c).toArray.toList st.fr) c { st with fr:=fr } be ay (λt aG=>?_) (λo v s=>?_) ?_ (λi cs ty C o v s d y=>?_) (λi az e sz by_ nn xs aC C am o v s d y=>?_) an).elim λst' M=>M.elim λbe' M=>⟨st',m,be',oe,_,M.1,M.2⟩
 ·refine O1.fr (st:=st) (fr:=fr) (g t λi N Q U=>?_)
  have Q:(l5 c)[i]?=some N:=by simpa using Q
  rw[C7]at Q
  grind[G03,skA,absurd,B7,List.mem_of_getElem?]
 ·obtain⟨t,d,z,b,D,q,E,k,x⟩:=G o v s
  have S:=U04 x
  obtain⟨j,u⟩:=List.getElem?_of_mem v
  refine⟨d,t,z,D,q,ao (y9 o) (List.mem_of_getElem? (i:=j) (by rw[C7,u];rfl)) d (by rw[B7];exact q),E,by rw[S];exact x,by rw[S];exact O03 T (List.mem_map.2 ⟨_,k,rfl⟩),by rw[S];exact ap b (R _ k)⟩
 ·rw[List.pairwise_iff_getElem]
  intro i j C u aF s aj d ae y Y e
  obtain⟨t,W,z,b,D,q,E,k,x⟩:=G _ (List.getElem_mem C) s
  obtain⟨aJ,aB,z',aA,Q,U,aH,aw,ax⟩:=G _ (List.getElem_mem u) aj
  rw[q]at y;cases y
  rw[U]at Y;cases Y
  rw[U04 x,U04 ax]at e
  subst e
  have:=y0e (f:=λp:Nat×Nat×Obj=>p.2.1) (by have:=T;rw[List.map_map]at this;exact this) k aw rfl
  have ag:d=ae:=congrArg Prod.fst this
  subst ag
  have:=X i j (y9 c[i]) (y9 c[j]) d (by rw[C7,List.getElem?_eq_getElem C];rfl) (by rw[C7,List.getElem?_eq_getElem u];rfl) (by rw[B7];exact q) (by rw[B7];exact U)
  omega
 ·obtain⟨t,W,z,b,D,q,E,k,x⟩:=G o v s
  rw[q]at y;cases y
  rw[U04 x]
  intro e
  obtain⟨_,vs,_,I⟩:=F.box i cs ty C
  rw[e,R _ k]at I;cases I
 ·obtain⟨t,W,z,b,D,q,E,k,x⟩:=G o v s
  rw[q]at y;cases y
  rw[U04 x]
  intro af
  obtain⟨_,_,_,_,I⟩:=(F.own i az e sz by_ nn xs C).block am
  rw[af,R _ k]at I;cases I
theorem y0q{ops:Array Oper}{Q:Exit->Act->World->Prop}{Inv:Array Bool->Act->World->Prop}(hB:∀(k:Nat) (o:Oper),ops.toList[k]?=some o->∀ e∈o.after,Region.binds .any e=true->e.on<k)
  (hstep:∀ listed a w j o,listed.size=ops.size->listed.getD j true=false->ops[j]?=some o->(∀ e∈o.after,Region.binds .any e=true->listed.getD e.on false=true)->Inv listed a w ->
   (Region.wanted o (yielded ops a.tmps)=true->o.wp P a w (Inv (listed.setIfInBounds j true)) Q)/\(Region.wanted o (yielded ops a.tmps)=false->Inv (listed.setIfInBounds j true) (a.put o.dst undef) w))
  (hQ:∀ listed a w,(∀ j,j<ops.size->listed.getD j false=true)->Inv listed a w->Q .normal a w) :
  ∀(fuel:Nat) (listed:Array Bool) (a:Act) (w:World),listed.size=ops.size->listed.toList.count true+fuel=ops.size->Inv listed a w->wpAny P .any ops Q fuel listed a w
 |0,listed,a,w,hsz,hc,hi=>by
  have hall':∀ j,j<ops.size->listed.getD j false=true:=λj hj=>by
   have h1:∀ b∈listed.toList,true=b:=List.count_eq_length.1 (by grind)
   have hlt:j<listed.size:=by omega
   have:=h1 listed[j] (by simp)
   simp[hlt,←this]
  refine⟨?_,hQ listed a w hall' hi⟩
  cases hr:Region.ready .any ops listed with
  |nil=>rfl
  |cons j r =>
   grind[Region.ready,List.mem_cons_self,mem_ready,Array.getElem?_eq_some_iff]
 |fuel+1,listed,a,w,hsz,hc,hi=>by
  refine⟨λhr=>hQ listed a w (a0a hB hsz hr) hi,λj hj=>?_⟩
  obtain⟨h1,o,h2,h3⟩:=mem_ready.1 hj
  unfold wpOp
  simp only[h2]
  obtain⟨ht,hf⟩:=hstep listed a w j o hsz h1 h2 h3 hi
  have next:∀ a' w',Inv (listed.setIfInBounds j true) a' w'->wpAny P .any ops Q fuel (listed.setIfInBounds j true) a' w':=λa' w' hi'=>y0q hB hstep hQ fuel _ a' w' (by simpa using hsz) (by rw[count_set h1];omega) hi'
  cases hw:Region.wanted o (yielded ops a.tmps)with
  |true =>
   rw[if_pos rfl]
   exact .inl (Oper.wp_mono next (ht hw))
  |false =>
   grind
theorem g0a{x:Nat}:∀ {l:List Nat},X0i x l=true↔x∈l
 | []=>by simp[X0i]
 |y::r=>by
  simp only[X0i,Bool.or_eq_true,List.mem_cons,g0a (l:=r)]
  simp_all
theorem z0e{ops:List Oper}{i:Nat}:∀ {l:List Nat},G08 ops i l=true->∃ j o,j∈l/\ops[j]?=some o/\Z8 i o=true
 | [],h=>by cases h
 |j::r,h=>by
  simp only[G08,Bool.or_eq_true]at h
  rcases h with h|h
  ·grind[H03,List.mem_cons_self]
  ·obtain⟨c,o,a,b⟩:=z0e h
   grind
theorem e08{ops:List Oper}{G:Nat->Prop}(a:∀ i j o,G j->ops[j]?=some o->Z8 i o=true->G i):∀(n:Nat) (acc:List Nat),(∀ j∈acc,G j)->∀ i∈n0e ops n acc,G i
 |0,acc,h=>h
 |n+1,acc,h=>by
  unfold n0e
  split
  ·rename_i b
   obtain⟨j,o,c,d,e⟩:=z0e b
   exact e08 a n _ λi f=>by
    grind
  ·exact e08 a n acc h
theorem f08{d:Nat}:∀ {l:List Oper},I08 d l=false->∀ o∈l,o.dst≠some d
 | [],_,o,h=>nomatch h
 |y::r,a,o,h=>by
  simp only[I08,Bool.or_eq_false_iff]at a
  rcases List.mem_cons.1 h with rfl|h
  ·intro b
   simp_all
  ·exact f08 a.2 o h
theorem B04{b:List Nat}{t:Nat}:∀ {l:List Oper} {k:Nat},K04 b t l k=true->∀(i:Nat) (o:Oper),l[i]?=some o->o.dst=some t->k+i∈b
 | [],k,_,i,o,h,_=>by simp at h
 |y::r,k,a,i,o,h,c=>by
  simp only[K04,Bool.and_eq_true]at a
  cases i with
  |zero =>
   simp_all[g0a]
  |succ i =>
   have:=B04 a.2 i o (by simpa using h) c
   grind
theorem R07{i d:Nat}:∀ {l:List Oper},L04 i d l=true->∀ o∈l,Operand.tmp d∈o.op.operands->Z8 i o=true
 | [],_,o,h,_=>nomatch h
 |y::r,b,o,h,c=>by
  simp only[L04,Bool.and_eq_true,Bool.or_eq_true]at b
  rcases List.mem_cons.1 h with rfl|h
  ·rcases b.1 with a|a
   ·have e:h06 d o.op.operands.toList=false:=by simpa using a
    exact absurd (show Operand.tmp d∈o.op.operands.toList by simpa using c) (l04 e)
   ·exact a
  ·exact R07 b.2 o h c
theorem z0c:∀ {l:List Oper},N0g l=true->∀ o∈l,Y0a o.op=false
 | [],_,o,h=>nomatch h
 |y::r,a,o,h=>by
  simp only[N0g,Bool.and_eq_true]at a
  rcases List.mem_cons.1 h with rfl|h
  ·simpa using a.1
  ·exact z0c a.2 o h
def s06(o:Oper)(x:Value):Option Value:=match o.op with
 | .extract _ k=>match x with
  | .tuple vs=>vs[k]?
  |_=>none
 |_=>some x
theorem m04{o:Oper}{t:Nat}(h:H08 o=some t):o.guard=none/\((∃ k,o.op = .extract (.tmp t) k)∨o.op = .move (.tmp t)∨o.op = .assign (.tmp t)):=by
 grind[H08]
theorem n0h{o:Oper}{t:Nat}{a:Act}{v:Value}(h:H08 o=some t)(b:s06 o (a.tmps.getD t undef)=some v)(w:World):(execOp a.eval o).run P w = .ok (.value v) w:=by
 obtain⟨_,⟨k,e⟩|e|e⟩:=m04 h
 ·unfold s06 at b;rw[e]at b
  simp only at b
  split at b
  ·rename_i vs c
   unfold execOp;rw[e]
   have d:a.eval (.tmp t) = .tuple vs:=c
   simp_all[Instr.extract]
  ·cases b
 ·unfold s06 at b;rw[e]at b;cases b
  unfold execOp;rw[e];rfl
 ·unfold s06 at b;rw[e]at b;cases b
  unfold execOp;rw[e];rfl
theorem D0o{o:Oper}{t:Nat}{a:Act}{w:World}{N:Act->World->Prop}(h:H08 o=some t)(b:o.wp P a w N λ_ _ _=>False):∃ v,s06 o (a.tmps.getD t undef)=some v/\N (a.put o.dst v) w:=by
 obtain⟨_,⟨k,e⟩|e|e⟩:=m04 h
 ·cases hx:s06 o (a.tmps.getD t undef)with
  |some v =>
   refine⟨v,rfl,?_⟩
   unfold Oper.wp at b
   rw[n0h h hx w]at b
   exact b
  |none =>
   exfalso
   unfold s06 at hx;rw[e]at hx
   simp only at hx
   unfold Oper.wp execOp at b;rw[e]at b
   have d:a.eval (.tmp t)=a.tmps.getD t undef:=rfl
   simp only[Instr.extract,d]at b
   split at hx
   ·rename_i vs f
    rw[f]at b
    simp only[hx]at b
    exact b
   ·rename_i c
    generalize a.tmps.getD t undef=x at b c
    cases x<;>first|exact b|exact absurd rfl (c _)
 ·refine⟨_,by unfold s06;rw[e],?_⟩
  unfold Oper.wp execOp at b;rw[e]at b
  exact b
 ·refine⟨_,by unfold s06;rw[e],?_⟩
  unfold Oper.wp execOp at b;rw[e]at b
  exact b
def A0c(as a:Act)(D:Nat->Prop):Prop:=as.tmps.size=a.tmps.size/\as.defers=a.defers/\∀ d,¬ D d->as.tmps.getD d undef=a.tmps.getD d undef
theorem U02(a:Act)(d u:Nat)(v:Value):(a.put (some d) v).tmps.getD u undef=if d=u/\d<a.tmps.size then v else a.tmps.getD u undef:=by
 by_cases e:d=u
 all_goals simp_all[Act.put,if_neg,Array.getElem?_setIfInBounds_ne]
theorem A0c.put{as a:Act}{b:Nat->Prop}(l:A0c as a b)(d:Option Nat)(v:Value):A0c (as.put d v) (a.put d v) b:=by
 cases d with
 |none=>exact l
 |some d =>
  refine⟨by simp[Act.put,l.1],l.2.1,λu c=>?_⟩
  rw[U02,U02,l.1,l.2.2 u c]
theorem E0o{o:Oper}{as a:Act}{w:World}{k:Nat->Prop}{N:Act->World->Prop}{Q:Exit->Act->World->Prop}(l:A0c as a k)(q:Y0a o.op=false)(y:∀ d,Operand.tmp d∈o.op.operands -> ¬ k d)
  (i:o.wp P as w N λ_ _ _=>False):o.wp P a w (λm j=>∃ g,N g j/\A0c g m k/\(∃ v,g=as.put o.dst v∨∃ x,g = { as with defers:=x }.put o.dst v)/\∃ v,m=a.put o.dst v∨∃ x,m = { a with defers:=x }.put o.dst v) Q:=by
 have t:execOp as.eval o=execOp a.eval o:=execOp_congr o (λcs b e=>by rw[e]at q;cases q) λx z=>by
  cases x with
  |tmp d=>exact l.2.2 d (y d z)
  |_=>rfl
 unfold Oper.wp at *
 rw[t]at i
 generalize (execOp a.eval o).run P w=r at i
 have fin:∀(v:Value) (j:World),N (as.put o.dst v) j->∃ g,N g j/\A0c g (a.put o.dst v) k/\(∃ v,g=as.put o.dst v∨∃ x,g = { as with defers:=x }.put o.dst v)/\∃ s,a.put o.dst v=a.put o.dst s∨∃ x,a.put o.dst v = { a with defers:=x }.put o.dst s :=
  λv j h=>⟨_,h,l.put o.dst v,⟨v,.inl rfl⟩,v,.inl rfl⟩
 cases r with
 |ok n j =>
  cases n with
  |value v=>exact fin v j i
  |skip=>exact fin undef j i
  |defer d =>
   refine⟨_,i,A0c.put (as := { as with defers:=d::as.defers }) (a := { a with defers:=d::a.defers }) ⟨l.1,by simp[l.2.1],l.2.2⟩ o.dst undef,⟨_,.inr ⟨_,rfl⟩⟩,_,.inr ⟨_,rfl⟩⟩
  |enter f args =>
   refine Calls.mono i λe p h=>?_
   cases e with
   |returned v=>exact fin v p h
   |panicked c=>exact h.elim
   |outgrown=>obtain⟨_,_,h⟩:=h;exact h.elim
  |row row args=>exact Rows.mono i λv p h=>fin v p h
  |_=>exact i.elim
 |halt u j=>cases u<;>exact i.elim
theorem Sim.like{st:St}{as a:Act}{h0:Hp}{w0:World}{be:Nat->Nat}{oe:Nat->Value}{H h:Hp}{w:World}(b:Sim P h0 w0 be oe H st h as w){c:Nat->Prop}(l:A0c as a c)(e:∀ d,¬ c d):Sim P h0 w0 be oe H st h a w :=
 ⟨b.mv,b.sub,b.box,b.pub,b.own,b.frz,b.bb,b.oo,b.bo,by rw[←l.2.1];exact b.dfr,by rw[←l.1];exact b.siz,λt=>by rw[←l.2.2 t (e t)];exact b.fr t⟩
theorem A0e:∀ {l:List Oper} {k:Nat},J0m k l=true->(∀ o∈l,o.guard=none)/\∀(i:Nat) (o:Oper),l[i+1]?=some o->Z8 (k+i) o=true
 | [],k,h=>⟨λo b=>(nomatch b),λi o a=>(nomatch a)⟩
 | [x],k,h=>by
  rw[J0m]at h
  grind
 |x::y::r,k,h=>by
  rw[J0m]at h
  simp only[Bool.and_eq_true]at h
  obtain⟨c,d⟩:=A0e (l:=y::r) h.2
  refine⟨λo b=>?_,λi o a=>?_⟩
  ·grind
  ·cases i with
   |zero=>grind
   |succ i =>
    grind
theorem o0h{o:Oper}{st:St}{K:St->Hp->Prop}{Q:Exit->Act->World->Prop}(q:Sim P h0 w0 be oe H st h a w)(l:O02 P o st h K):
  o.wp P a w (λj k=>∃ st' b be' oe' f,K st' b/\Sim P h0 w0 be' oe' f st' b j k) Q:=by
 refine Oper.wp_mono (λj k p=>?_) (a9 q l)
 obtain⟨av,st',b,v,be',oe',f,m,rfl,s,g,t⟩:=p
 obtain⟨C,u,y,z,A⟩:=L03 (ops := #[o]) (i:=0) (rs:=⟨st',b,[],[]⟩) (ch:=[]) (c:=true) (v:=v) s ⟨(λx e=>nomatch e),(λx e=>nomatch e),(λd ch av n=>nomatch n)⟩ (by rfl) rfl (λ_=>g) (λh=>by cases h) m
 grind
theorem b09{c d:List Oper}{a:List Nat}:∀ {l:List Oper} {k:Nat},K0b c d a l k=true->∀(i:Nat) (o:Oper),l[i]?=some o->X0i (k+i) a=true∨a0k c d a (k+i) o=true
 | [],k,_,i,o,h=>by simp at h
 |y::r,k,b,i,o,h=>by
  simp only[K0b,Bool.and_eq_true,Bool.or_eq_true]at b
  cases i with
  |zero=>grind
  |succ i =>
   have:=b09 b.2 i o (by simpa using h)
   grind
theorem f0j{c a:List Oper}{b:List Nat}{i:Nat}{o:Oper}(h:a0k c a b i o=true):∃ t d,H08 o=some t/\o.dst=some d/\I08 d a=false/\I08 t a=false/\K04 b t c 0=true/\L04 i d a=true:=by
 unfold a0k at h
 grind
theorem C0l{ops:Array Oper}{m:Nat}{st:St}{K:St->Hp->Prop}{Q:Exit->Act->World->Prop}(hb:okZ P st.n m ops.toList=true)(he:evT P (O02 P) m ops.toList st h K)
  (hQ:∀ a w st h be oe H,K st h->Sim P h0 w0 be oe H st h a w->Q .normal a w) (s:Sim P h0 w0 be oe H st h a w):wpAny P .any ops Q ops.size (Array.replicate ops.size false) a w:=by
 simp only[okZ,H02,I01,Bool.and_eq_true,Bool.or_eq_true]at hb
 obtain⟨⟨⟨⟨⟨⟨⟨b1,b2⟩,b3⟩,b4⟩,b5⟩,b6⟩,b7⟩,b8⟩:=hb
 generalize hpre:ops.toList.take m=pre at b1 b2 b3 b4 b5 b8
 obtain⟨hn,hD⟩:=N03 b1
 have hB:∀(k:Nat) (o:Oper),(l5 pre)[k]?=some o->∀ e∈o.after,Region.binds .any e=true->e.on<k:=λk o hk e he' hb=>by
  have:=E02 b2 k o hk e he' hb
  omega
 have hdep:=y05 b3
 have hgd:=A05 b4
 have hal:=i0h b5
 have hBB:∀(k:Nat) (o:Oper),ops.toList[k]?=some o->∀ e∈o.after,Region.binds .any e=true->e.on<k:=λk o hk e he' hb=>by
  have:=E02 b6 k o hk e he' hb
  omega
 obtain⟨sq1,sq2⟩:=A0e b7
 unfold evT at he
 rw[hpre]at he
 obtain⟨A,Lf,Bf,_,_,hP,hall,hfin⟩:=x0c (ops:=l5 pre) hD (l5 pre) 0 [] [] (λ_=>([],true,.pu .dead)) (λj=>by simp) (by simp)
  ⟨λt x h=>(by cases h),λi oi d hi=>by omega,λi hi=>by omega,λx hx=>(by cases hx)⟩ he
 have hpl:pre.length=min m ops.size:=by rw[←hpre];simp
 have hpg:∀ j,j<m->ops.toList[j]?=pre[j]?:=λj hj=>by rw[←hpre,List.getElem?_take,if_pos hj]
 have hdg:∀ j,(ops.toList.drop m)[j]?=ops.toList[m+j]?:=λj=>List.getElem?_drop
 have hsr:∀(i:Nat) (oi:Oper) (d:Nat),(l5 pre)[i]?=some oi->oi.dst=some d->skA pre i=true->∀ o'∈l5 pre,Operand.tmp d ∉ o'.op.operands:=λi oi d q1 q2 q3 o' ho' hc=>by
  rw[C7]at q1
  unfold skA at q3
  cases e:pre[i]? with
  |none=>rw[e]at q1;cases q1
  |some o0 =>
   rw[e]at q1 q3
   cases q1
   obtain⟨t,d1,z,k1,k2,k3,k4,k5⟩:=hal o0 (List.mem_of_getElem? e) q3
   rw[B7,k3]at q2;cases q2
   obtain⟨j,hj⟩:=List.getElem?_of_mem ho'
   rw[C7]at hj
   cases e2:pre[j]? with
   |none=>rw[e2]at hj;cases hj
   |some o1 =>
    rw[e2]at hj;cases hj
    exact k5 o1 (List.mem_of_getElem? e2) (m0h hc)
 have hsb:∀ i,skA pre i=true->(A i).2.2 = .pu (.val undef):=λi q3=>by
  unfold skA at q3
  cases e:pre[i]? with
  |none=>rw[e]at q3;cases q3
  |some o0 =>
   rw[e]at q3
   obtain⟨t,d1,z,k1,k2,k3,k4,k5⟩:=hal o0 (List.mem_of_getElem? e) q3
   obtain⟨Lj,bj,_,_,_,_,_,hu⟩:=hall i (y9 o0) (Nat.zero_le _) (by rw[C7,e];rfl)
   refine hu _ ?_
   unfold y9
   rw[k1]
   rfl
 let Rest:Nat->Act->World->Prop:=λk a w=>∃ st' h' be oe H,doT (O02 P) (ops.toList.drop k) st' h' K/\Sim P h0 w0 be oe H st' h' a w
 let ml:=n0e ops.toList m [m]
 let Dl:Array Bool->Nat->Prop:=λlisted u=>∃(i:Nat) (o:Oper),pre[i]?=some o/\listed.getD i false=false/\o.dst=some u
 let Lat:Array Bool->Act->Act->Prop:=λlisted as a=>∀(i:Nat) (o:Oper) (t d:Nat),pre[i]?=some o->listed.getD i false=false->H08 o=some t->o.dst=some d->s06 o (a.tmps.getD t undef)=some (as.tmps.getD d undef)
 let Inv:Array Bool->Act->World->Prop:=λlisted a w=>(∀(j:Nat) (o:Oper),ops[j]?=some o->listed.getD j false=true->∀ e∈o.after,Region.binds .any e=true->listed.getD e.on false=true) /\
  (((∀ k,m<=k->listed.getD k false=false)/\f0a P h0 w0 pre st h A listed a w)∨∃ k as,m<k/\k<=ops.size/\(∀ i,i<k->listed.getD i false=true∨(i<m/\i ∉ ml))/\(∀ i,k<=i->listed.getD i false=false)/\Rest k as w/\A0c as a (Dl listed)/\Lat listed as a)
 have lateOf:m<ops.size->∀(i:Nat) (o:Oper),pre[i]?=some o->i ∉ ml->∃ t d,H08 o=some t/\o.dst=some d/\I08 d (ops.toList.drop m)=false/\I08 t (ops.toList.drop m)=false/\K04 ml t pre 0=true/\L04 i d (ops.toList.drop m)=true:=λhm i o hi hml=>by
  rcases b8 with h|h
  ·exfalso
   have:ops.toList.drop m = []:=by
    cases e:ops.toList.drop m with
    |nil=>rfl
    |cons x r=>rw[e]at h;cases h
   have:=List.drop_eq_nil_iff.1 this
   simp at this;omega
  ·have:=b09 h.1 i o hi
   rw[Nat.zero_add]at this
   rcases this with h1|h1
   ·exact absurd (g0a.1 h1) hml
   ·exact f0j h1
 have noselT:m<ops.size->N0g (ops.toList.drop m)=true:=λhm=>by
  rcases b8 with h|h
  ·exfalso
   have:ops.toList.drop m = []:=by
    cases e:ops.toList.drop m with
    |nil=>rfl
    |cons x r=>rw[e]at h;cases h
   have:=List.drop_eq_nil_iff.1 this
   simp at this;omega
  ·exact h.2
 have preD:∀(i j:Nat) (oi oj:Oper) (d:Nat),pre[i]?=some oi->pre[j]?=some oj->oi.dst=some d->oj.dst=some d->i=j:=λi j oi oj d h1 h2 h3 h4 =>
  hD i j (y9 oi) (y9 oj) d (by rw[C7,h1];rfl) (by rw[C7,h2];rfl) (by rw[B7];exact h3) (by rw[B7];exact h4)
 have preN:∀(i:Nat) (o:Oper) (d:Nat),pre[i]?=some o->o.dst=some d->d<st.n:=λi o d h1 h2 =>
  hn (y9 o) (List.mem_of_getElem? (i:=i) (by rw[C7,h1];rfl)) d (by rw[B7];exact h2)
 have unl:∀ {listed:Array Bool} {j:Nat},listed.getD j true=false->listed.getD j false=false/\j<listed.size:=λ{listed j} hj=>by
  grind
 have allpre:∀ {listed:Array Bool} {a:Act} {w:World},(∀ j,j<pre.length->listed.getD j false=true)->f0a P h0 w0 pre st h A listed a w->Rest m a w:=λ{listed a w} hl hi =>
  C0o (K:=λst h=>doT (O02 P) (ops.toList.drop m) st h K) hD hn hsb hal hP hfin hl hi
 have tail:∀ {Q:Exit->Act->World->Prop} {k:Nat} {o:Oper} {a:Act} {w:World},ops[k]?=some o->Rest k a w->o.wp P a w (Rest (k+1)) Q:=λ{Q k o a w} ho hr=>by
  obtain⟨st',h',be,oe,H,hd,s'⟩:=hr
  have hk:k<ops.toList.length:=by simpa using (Array.getElem?_eq_some_iff.1 ho).1
  have e:ops.toList.drop k=o::ops.toList.drop (k+1):=by
   grind[List.drop_eq_getElem_cons,List.getElem?_eq_getElem,oJ]
  rw[e]at hd
  exact o0h s' hd
 have virt:m<ops.size->∀ {listed:Array Bool} {a:Act} {w:World},listed.size=ops.size->(∀ i,i<m->i∈ml->listed.getD i false=true)->f0a P h0 w0 pre st h A listed a w ->
   ∀ k,k<=pre.length->∃ l2 as,l2.size=ops.size/\(∀ i,i<k->l2.getD i false=true)/\(∀ i,k<=i->l2.getD i false=listed.getD i false)/\f0a P h0 w0 pre st h A l2 as w /\
    A0c as a (λu=>∃(i:Nat) (o:Oper),i<k/\pre[i]?=some o/\listed.getD i false=false/\o.dst=some u) /\
    ∀(i:Nat) (o:Oper) (t d:Nat),i<k->pre[i]?=some o->listed.getD i false=false->H08 o=some t->o.dst=some d->s06 o (a.tmps.getD t undef)=some (as.tmps.getD d undef):=by
  intro hmN listed a w hsz hml hA k
  induction k with
  |zero=>exact λ_=>⟨listed,a,hsz,λi hi=>by omega,λi _=>rfl,hA,⟨rfl,rfl,λ_ _=>rfl⟩,λi o t d hi=>by omega⟩
  |succ k ih =>
   intro hk
   obtain⟨l2,as,z1,z2,z3,z4,z5,z6⟩:=ih (by omega)
   cases hlk:listed.getD k false with
   |true =>
    refine⟨l2,as,z1,λi hi=>?_,λi hi=>z3 i (by omega),z4,⟨z5.1,z5.2.1,λu hu=>z5.2.2 u λ⟨i,o,q1,q2⟩=>hu ⟨i,o,by omega,q2⟩⟩,λi o t d hi q1 q2 q3 q4=>?_⟩
    ·by_cases e:i=k
     ·subst e;rw[z3 i (Nat.le_refl _)];exact hlk
     ·exact z2 i (by omega)
    ·have:i≠k:=λe=>by subst e;rw[hlk]at q2;cases q2
     exact z6 i o t d (by omega) q1 q2 q3 q4
   |false =>
    obtain⟨o,ho⟩:∃ o,pre[k]?=some o:=⟨pre[k],List.getElem?_eq_getElem (by omega)⟩
    have hkm:k<m:=by omega
    have hkml:k ∉ ml:=λh=>by rw[hml k hkm h]at hlk;cases hlk
    obtain⟨t,d,y1,y2,y3,y4,y5,y6⟩:=lateOf hmN k o ho hkml
    have hg:=(m04 y1).1
    have hl2k:l2.getD k false=false:=by rw[z3 k (Nat.le_refl _)];exact hlk
    have hks:k<l2.size:=by rw[z1];omega
    have hun2:l2.getD k true=false:=by
     simp[hks]at hl2k ⊢;exact hl2k
    have hoL:ops.toList[k]?=some o:=by rw[hpg k hkm];exact ho
    have st1:=(d0p (Q:=λ_ _ _=>False) hD hn hB hdep hgd hP (λj o ho=>hall j o (Nat.zero_le _) ho) hsr hsb hal hun2 ho (λe he1 he2=>z2 e.on (hBB k o hoL e he1 he2)) z4).1 (by unfold Region.wanted;rw[hg])
    obtain⟨v,v1,v2⟩:=D0o y1 st1
    have hasz:as.tmps.size=st.n:=by
     obtain⟨_,_,_,_,_,_,iu,_,_⟩:=z4
     obtain⟨_,_,_,_,_,s,_⟩:=iu
     exact s.siz
    have htne : ¬ ∃(i:Nat) (o:Oper),i<k/\pre[i]?=some o/\listed.getD i false=false/\o.dst=some t:=λ⟨i,o',q1,q2,q3,q4⟩=>by
     have:=B04 y5 i o' q2 q4
     rw[Nat.zero_add]at this
     rw[hml i (by omega) this]at q3;cases q3
    rw[z5.2.2 t htne]at v1
    rw[y2]at v2
    refine⟨l2.setIfInBounds k true,as.put (some d) v,by simpa using z1,λi hi=>?_,λi hi=>?_,v2,⟨by simp[Act.put,z5.1],z5.2.1,λu hu=>?_⟩,λi o' t' d' hi q1 q2 q3 q4=>?_⟩
    ·by_cases e:k=i
     ·subst e;simp[hks]
     ·rw[getD_set_ne false e];exact z2 i (by omega)
    ·rw[getD_set_ne false (by omega)];exact z3 i (by omega)
    ·rw[U02,if_neg λe=>hu ⟨k,o,by omega,ho,hlk,by rw[y2,e.1]⟩]
     exact z5.2.2 u λ⟨i,o',q1,q2⟩=>hu ⟨i,o',by omega,q2⟩
    ·rw[U02]
     by_cases e:i=k
     ·subst e
      rw[ho]at q1;cases q1
      rw[y1]at q3;cases q3
      rw[y2]at q4;cases q4
      rw[if_pos ⟨rfl,by rw[hasz];exact preN i o d ho y2⟩]
      exact v1
     ·rw[if_neg λh=>e (preD i k o' o d' q1 ho q4 (by rw[y2,h.1]))]
      exact z6 i o' t' d' (by omega) q1 q2 q3 q4
 refine y0q (Inv:=Inv) hBB (λlisted a w j o hsz hun ho hrd hi=>?_) (λlisted a w hl hi=>?_) ops.size _ a w (by simp) (by simp[List.count_replicate]) ⟨λj o _ h=>?_,.inl ⟨λk _=>?_,f0a.start s⟩⟩
 rotate_left 2
 ·simp[Array.getElem?_replicate]at h
  split at h<;>cases h
 ·simp[Array.getElem?_replicate]
  split<;>simp
 rotate_left 1
 ·rcases hi.2 with⟨hm,hA⟩|⟨k,as,k1,k2,k3,k4,hr,lk,lt⟩
  ·have hms:ops.size<=m:=by
    rcases Nat.lt_or_ge m ops.size with h|h
    ·have:=hm m (Nat.le_refl _)
     rw[hl m h]at this;cases this
    ·exact h
   obtain⟨st',h',be,oe,H,hd,s'⟩:=allpre (λj hj=>hl j (by omega)) hA
   rw[List.drop_eq_nil_of_le (by simpa using hms)]at hd
   exact hQ a w st' h' be oe H hd s'
  ·have hk:k=ops.size:=by
    rcases Nat.lt_or_ge k ops.size with h|h
    ·have:=k4 k (Nat.le_refl _)
     rw[hl k h]at this;cases this
    ·omega
   subst hk
   obtain⟨st',h',be,oe,H,hd,s'⟩:=hr
   rw[List.drop_eq_nil_of_le (by simp)]at hd
   refine hQ a w st' h' be oe H hd (s'.like lk λu ⟨i,o,q1,q2,q3⟩=>?_)
   have:=(List.getElem?_eq_some_iff.1 q1).1
   rw[hl i (by omega)]at q2;cases q2
 ·obtain⟨hcl,hi⟩:=hi
  obtain⟨hjf,hjs⟩:=unl hun
  have hcl':∀(i:Nat) (oi:Oper),ops[i]?=some oi->(listed.setIfInBounds j true).getD i false=true->∀ e∈oi.after,Region.binds .any e=true->(listed.setIfInBounds j true).getD e.on false=true:=λi oi h1 h2 e he1 he2=>by
   by_cases hij:j=i
   ·subst hij
    rw[ho]at h1;cases h1
    exact getD_set_true (hrd e he1 he2)
   ·rw[getD_set_ne false hij]at h2
    exact getD_set_true (hcl i oi h1 h2 e he1 he2)
  have hoL:ops.toList[j]?=some o:=by simpa using ho
  have hjlt:j<ops.size:=(Array.getElem?_eq_some_iff.1 ho).1
  by_cases hjm:j<m
  ·rcases hi with⟨hm,hA⟩|⟨k,as,k1,k2,k3,k4,hr,lk,lt⟩
   ·have hop:pre[j]?=some o:=by rw[←hpg j hjm];exact hoL
    have st1:=d0p (Q:=Q) hD hn hB hdep hgd hP (λj o ho=>hall j o (Nat.zero_le _) ho) hsr hsb hal hun hop hrd hA
    have hyd:Region.wanted o (yielded ops a.tmps)=Region.wanted o (yielded (l5 pre).toArray a.tmps):=by
     unfold Region.wanted
     cases hg:o.guard with
     |none=>rfl
     |some p =>
      obtain⟨i,wv⟩:=p
      obtain⟨e,he1,he2,he3⟩:=F7 (hgd (y9 o) (List.mem_of_getElem? (i:=j) (by rw[C7,hop];rfl)) i wv (by rw[l0h];exact hg))
      rw[k0h]at he1
      have hlt:=hBB j o hoL e he1 he2
      rw[he3]at hlt
      have hig:=hpg i (by omega)
      have:yielded ops a.tmps i=yielded (l5 pre).toArray a.tmps i:=by
       unfold yielded
       have e1:ops[i]?=pre[i]?:=by rw[←hig];simp
       have e2:(l5 pre).toArray[i]?=(pre[i]?).map y9:=by simp[C7]
       rw[e1,e2]
       cases pre[i]? with
       |none=>rfl
       |some o0=>simp[B7]
      simp only[this]
    rw[hyd]
    have up:∀ a' w',f0a P h0 w0 pre st h A (listed.setIfInBounds j true) a' w'->Inv (listed.setIfInBounds j true) a' w':=λa' w' hx=>⟨hcl',.inl ⟨λk hk=>by rw[getD_set_ne false (by omega)];exact hm k hk,hx⟩⟩
    exact⟨λhw=>Oper.wp_mono up (st1.1 hw),λhw=>up _ _ (st1.2 hw)⟩
   ·have hop:pre[j]?=some o:=by rw[←hpg j hjm];exact hoL
    have hjml:j ∉ ml:=by
     rcases k3 j (by omega)with h|h
     ·rw[hjf]at h;cases h
     ·exact h.2
    obtain⟨t,d,y1,y2,y3,y4,y5,y6⟩:=lateOf (by omega) j o hop hjml
    have hg:=(m04 y1).1
    refine⟨λ_=>?_,λhw=>by unfold Region.wanted at hw;rw[hg]at hw;cases hw⟩
    unfold Oper.wp
    rw[n0h y1 (lt j o t d hop hjf y1 y2) w]
    refine⟨hcl',.inr ⟨k,as,k1,k2,λi hi=>?_,λi hi=>?_,hr,⟨by rw[y2];simp[Act.put,lk.1],by rw[y2];exact lk.2.1,λu hu=>?_⟩,λi o' t' d' q1 q2 q3 q4=>?_⟩⟩
    ·rcases k3 i hi with h|h
     ·exact .inl (getD_set_true h)
     ·exact .inr h
    ·rw[getD_set_ne false (by omega)];exact k4 i hi
    ·rw[y2,U02]
     by_cases e:d=u
     ·subst e
      by_cases hlt:d<a.tmps.size
      ·rw[if_pos ⟨rfl,hlt⟩]
      ·rw[if_neg λh=>hlt h.2]
       have e1:∀(x:Act),¬ d<x.tmps.size->x.tmps.getD d undef=undef:=λx hx=>by
        simp[Array.getElem?_eq_none (Nat.le_of_not_lt hx)]
       rw[e1 a hlt,e1 as (by rw[lk.1];exact hlt)]
     ·rw[if_neg λh=>e h.1]
      refine lk.2.2 u λ⟨i,o',q1,q2,q3⟩=>?_
      by_cases e2:j=i
      ·subst e2
       rw[hop]at q1;cases q1
       rw[y2]at q3;cases q3
       exact e rfl
      ·exact hu ⟨i,o',q1,by rw[getD_set_ne false e2];exact q2,q3⟩
    ·have e2:j≠i:=λe2=>by subst e2;simp[hjs]at q2
     rw[getD_set_ne false e2]at q2
     have hi':=(List.getElem?_eq_some_iff.1 q1).1
     have himl:i ∉ ml:=by
      rcases k3 i (by omega)with h|h
      ·rw[q2]at h;cases h
      ·exact h.2
     obtain⟨t2,d2,x1,x2,x3,x4,x5,x6⟩:=lateOf (by omega) i o' q1 himl
     rw[q3]at x1;cases x1
     rw[y2,U02,if_neg λh=>?_]
     ·exact lt i o' t' d' q1 q2 q3 q4
     ·have:=B04 x5 j o hop (by rw[y2,h.1])
      rw[Nat.zero_add]at this
      exact hjml this
  ·have hg:o.guard=none:=sq1 o (List.mem_of_getElem? (i:=j-m) (by rw[hdg];rw[show m+(j-m)=j by omega];exact hoL))
   have prev:m<j->listed.getD (j-1) false=true:=λhlt=>by
    have:=sq2 (j-m-1) o (by rw[hdg];rw[show m+(j-m-1+1)=j by omega];exact hoL)
    obtain⟨e,he1,he2,he3⟩:=F7 this
    have:=hrd e he1 he2
    rw[he3,show m+(j-m-1)=j-1 by omega]at this
    exact this
   refine⟨λ_=>?_,λhw=>by unfold Region.wanted at hw;rw[hg]at hw;cases hw⟩
   have hmt:o∈ops.toList.drop m:=List.mem_of_getElem? (i:=j-m) (by rw[hdg,show m+(j-m)=j by omega];exact hoL)
   have go:∀ as,(∀ i,i<j->listed.getD i false=true∨(i<m/\i ∉ ml))->(∀ i,j<=i->listed.getD i false=false)->Rest j as w->A0c as a (Dl listed)->Lat listed as a->o.wp P a w (Inv (listed.setIfInBounds j true)) Q:=λas q1 q2 hr lk lt=>by
    have hjD:∀ u,Dl (listed.setIfInBounds j true) u↔Dl listed u:=λu=>by
     constructor
     ·rintro⟨i,o',p1,p2,p3⟩
      have:=(List.getElem?_eq_some_iff.1 p1).1
      rw[getD_set_ne false (by omega)]at p2
      exact⟨i,o',p1,p2,p3⟩
     ·rintro⟨i,o',p1,p2,p3⟩
      have:=(List.getElem?_eq_some_iff.1 p1).1
      exact⟨i,o',p1,by rw[getD_set_ne false (by omega)];exact p2,p3⟩
    have lateU:∀(i:Nat) (o':Oper),pre[i]?=some o'->listed.getD i false=false->i ∉ ml:=λi o' p1 p2=>by
     have:=(List.getElem?_eq_some_iff.1 p1).1
     rcases q1 i (by omega)with h|h
     ·rw[p2]at h;cases h
     ·exact h.2
    refine Oper.wp_mono (λa' w' hx=>?_) (E0o (Q:=Q) lk (z0c (noselT (by omega)) o hmt) (λu hu ⟨i,o',p1,p2,p3⟩=>?_) (tail (Q:=λ_ _ _=>False) ho hr))
    ·obtain⟨as',hr',lk',⟨v1,hv1⟩,v2,hv2⟩:=hx
     have e1:∀ u,o.dst≠some u->as'.tmps.getD u undef=as.tmps.getD u undef:=λu hu=>by
      cases hd:o.dst with
      |none =>
       rw[hd]at hv1
       rcases hv1 with h|⟨x,h⟩<;>rw[h]<;>rfl
      |some d =>
       rw[hd]at hv1 hu
       rcases hv1 with h|⟨x,h⟩<;>rw[h,U02,if_neg λh=>hu (by rw[h.1])]
     have e2:∀ u,o.dst≠some u->a'.tmps.getD u undef=a.tmps.getD u undef:=λu hu=>by
      cases hd:o.dst with
      |none =>
       rw[hd]at hv2
       rcases hv2 with h|⟨x,h⟩<;>rw[h]<;>rfl
      |some d =>
       rw[hd]at hv2 hu
       rcases hv2 with h|⟨x,h⟩<;>rw[h,U02,if_neg λh=>hu (by rw[h.1])]
     refine⟨hcl',.inr ⟨j+1,as',by omega,by omega,λi hi=>?_,λi hi=>?_,hr',⟨lk'.1,lk'.2.1,λu hu=>lk'.2.2 u λh=>hu ((hjD u).2 h)⟩,λi o' t d p1 p2 p3 p4=>?_⟩⟩
     ·by_cases e:j=i
      ·subst e;left;simp[hjs]
      ·rw[getD_set_ne false e];exact q1 i (by omega)
     ·rw[getD_set_ne false (by omega)];exact q2 i (by omega)
     ·have hi':=(List.getElem?_eq_some_iff.1 p1).1
      rw[getD_set_ne false (by omega)]at p2
      obtain⟨t2,d2,x1,x2,x3,x4,x5,x6⟩:=lateOf (by omega) i o' p1 (lateU i o' p1 p2)
      rw[p3]at x1;cases x1
      rw[p4]at x2;cases x2
      rw[e1 d (f08 x3 o hmt),e2 t (f08 x4 o hmt)]
      exact lt i o' t d p1 p2 p3 p4
    ·obtain⟨t2,d2,x1,x2,x3,x4,x5,x6⟩:=lateOf (by omega) i o' p1 (lateU i o' p1 p2)
     rw[p3]at x2;cases x2
     obtain⟨e,he1,he2,he3⟩:=F7 (R07 x6 o hmt hu)
     have:=hrd e he1 he2
     rw[he3,p2]at this;cases this
   rcases hi with⟨hm,hA⟩|⟨k,as,k1,k2,k3,k4,hr,lk,lt⟩
   ·have hjm':j=m:=by
     rcases Nat.lt_or_ge m j with h|h
     ·have:=prev h
      rw[hm (j-1) (by omega)]at this;cases this
     ·omega
    subst hjm'
    have hml:∀ i,i<j->i∈ml->listed.getD i false=true:=λi hi hmi=>by
     have:=e08 (G:=λi=>i=j∨listed.getD i false=true) (ops:=ops.toList) (λi' j' o' hG ho' he'=>?_) j [j] (λx hx => .inl (by simpa using hx)) i hmi
     ·rcases this with h|h
      all_goals omega
     ·obtain⟨e,he1,he2,he3⟩:=F7 he'
      rw[←he3]
      right
      rcases hG with rfl|hG
      ·rw[hoL]at ho';cases ho'
       exact hrd e he1 he2
      ·exact hcl j' o' (by simpa using ho') hG e he1 he2
    obtain⟨l2,as,z1,z2,z3,z4,z5,z6⟩:=virt hjlt (by assumption) hml hA pre.length (Nat.le_refl _)
    refine go as (λi hi=>?_) hm (allpre (λi hi=>z2 i hi) z4) ⟨z5.1,z5.2.1,λu hu=>z5.2.2 u λ⟨i,o',p1,p2⟩=>hu ⟨i,o',p2⟩⟩ (λi o' t d p1 p2 p3 p4=>z6 i o' t d (List.getElem?_eq_some_iff.1 p1).1 p1 p2 p3 p4)
    by_cases h:i∈ml
    ·exact .inl (hml i hi h)
    ·exact .inr ⟨hi,h⟩
   ·have hjk:j=k:=by
     have h1:k<=j:=by
      rcases Nat.lt_or_ge j k with h|h
      ·rcases k3 j h with h2|h2
       ·rw[hjf]at h2;cases h2
       ·omega
      ·exact h
     rcases Nat.lt_or_ge k j with h|h
     ·have:=prev (by omega)
      rw[k4 (j-1) (by omega)]at this;cases this
     ·omega
    subst hjk
    exact go as k3 k4 hr lk lt
end
end Go.H
namespace Go.H
set_option linter.unusedVariables false
set_option linter.unusedSimpArgs false
section
variable {P:Program} {h0:Hp} {w0:World} {Q:Exit->Act->World->Prop} {ops:Array Oper} {K:RS->Prop}
theorem p0h{be:Nat->Nat}{oe:Nat->Value}{H:Hp}{rs:RS}{a:Act}{w:World}{o:Oper}{i:Nat}{e:RS->Prop}(f:Sim P h0 w0 be oe H rs.st rs.h a w)(r:n06 ops be oe rs a i)(m:ops[i]?=some o)
  {ch:List (Nat×Bool)} {c:Bool} (j:j9 rs.bs o.guard=some ch) (d:cB rs.bs ch=some c) (k:evG P o ch c rs λav=>b0c o.dst i ch av rs e) :
  ∃ v b,e b/\n06 ops be oe b (a.put o.dst v) (i+1)/\Sim P h0 w0 be oe H b.st b.h (a.put o.dst v) w/\Region.wanted o (yielded ops a.tmps)=c /\
   (c=true->∀ g,CW H w g->o.quietAt P a (CW H w) g v)/\(c=false->v=undef):=by
 obtain⟨av,l,n⟩:=v0l f r d k
 have p:=u0l r j d
 cases c with
 |true =>
  grind[L03]
 |false =>
  obtain⟨b,q,_,s,t⟩:=L03 (v:=undef) f r m d (λh=>by cases h) (λ_=>rfl) l
  grind
theorem n04(f:∀ rs a w be oe H,K rs->Sim P h0 w0 be oe H rs.st rs.h a w->Q .normal a w):∀(l:List Oper) (i:Nat) (rs:RS) (a:Act) (w:World) (be:Nat->Nat) (oe:Nat->Value) (H:Hp),
  (∀ j,l[j]?=ops[i+j]?)->Sim P h0 w0 be oe H rs.st rs.h a w->n06 ops be oe rs a i->Z0a P l i rs K->wpList P ops Q l a w
 | [],i,rs,a,w,be,oe,H,_,d,_,b=>f rs a w be oe H b d
 |o::l,i,rs,a,w,be,oe,H,y,d,r,b=>by
  have z:ops[i]?=some o:=by simpa using (y 0).symm
  have s:∀ j,l[j]?=ops[i+1+j]?:=λj=>by have:=y (j+1);grind
  have R:∀ ch c,j9 rs.bs o.guard=some ch->cB rs.bs ch=some c->(evG P o ch c rs λav=>b0c o.dst i ch av rs λrs=>Z0a P l (i+1) rs K)->wpList P ops Q (o::l) a w:=by
   intro ch c I G b
   obtain⟨v,p,k,A,n,u,M,t⟩:=p0h d r z I G b
   unfold wpList
   rw[u]
   cases c with
   |false =>
    rw[if_neg (by simp),←t rfl]
    exact n04 f l (i+1) p _ w be oe H s n A k
   |true =>
    rw[if_pos rfl]
    refine .inl (Oper.wp_of_quiet (C:=CW H w) (K:=λq=>q=a.put o.dst v) (j2.refl d.mv.vis) (λq x m e=>?_) ⟨v,M rfl,rfl⟩)
    subst e
    exact n04 f l (i+1) p _ x be oe H s (n.still (hf:=H) (λ_ _ h=>h) m) A k
  simp only[Z0a]at b
  split at b
  ·rename_i J S
   have u:Region.wanted o (yielded ops a.tmps)=true:=by unfold Region.wanted;rw[J]
   unfold wpList
   rw[if_pos u]
   refine .inl (Oper.wp_mono (λq x t=>?_) (a9 (Q:=Q) d b))
   obtain⟨av,st',F,v,be',oe',D,L,rfl,O,g,E⟩:=t
   obtain⟨p,k,_,n,N⟩:=L03 (rs := { rs with st:=st',h:=F }) (ch:=[]) (c:=true) (v:=v) O (r.grow E) z rfl (λ_=>g) (λh=>by cases h) L
   exact n04 f l (i+1) p _ x be' oe' D s N n k
  grind
theorem B0e{be:Nat->Nat}{oe:Nat->Value}{H:Hp}{w:World}(f:∀ rs a w be oe H,K rs->Sim P h0 w0 be oe H rs.st rs.h a w->Q .normal a w):∀(l:List Oper) (i:Nat) (rs:RS) (a:Act),
  (∀ j,l[j]?=ops[i+j]?)->Sim P h0 w0 be oe H rs.st rs.h a w->n06 ops be oe rs a i->evQ P l i rs K->wpQuiet P ops (CW H w) (λk=>∀ d,CW H w d->Q .normal k d) l a
 | [],i,rs,a,_,e,_,b=>λd m=>f rs a d be oe H b (e.still (hf:=H) (λ_ _ h=>h) m)
 |o::l,i,rs,a,g,e,r,b=>by
  have s:ops[i]?=some o:=by simpa using (g 0).symm
  have q:∀ j,l[j]?=ops[i+1+j]?:=λj=>by have:=g (j+1);grind
  simp only[evQ]at b
  split at b
  ·rename_i ch p
   split at b
   ·rename_i c n
    obtain⟨v,C,y,z,A,u,t,D⟩:=p0h e r s p n b
    have x:=B0e f l (i+1) C _ q A z y
    unfold wpQuiet
    rw[u]
    cases c with
    |false=>grind
    |true=>rw[if_pos rfl];exact⟨v,t rfl,x⟩
   ·exact b.elim
  ·exact b.elim
theorem n06.init{be:Nat->Nat}{oe:Nat->Value}{st:St}{h:Hp}{a:Act}:n06 ops be oe ⟨st,h,[],[]⟩ a 0 :=
 ⟨(λx b=>nomatch b),(λx b=>nomatch b),(λd ch av c=>nomatch c)⟩
def U0f(P:Program)(h0:Hp)(w0:World)(Q:Ex->St->Hp->Prop):Exit->Act->World->Prop
 | .normal,a,w=>∃ st h be oe H,Q .normal st h/\Sim P h0 w0 be oe H st h a w
 | .exit i,a,w=>∃ st h be oe H,Q (.exit i) st h/\Sim P h0 w0 be oe H st h a w
 | .ret,a,w=>∃ st h be oe H,Q .ret st h/\Sim P h0 w0 be oe H st h a w
 |_,_,_=>False
variable {be:Nat->Nat} {oe:Nat->Value} {H:Hp} {st:St} {h:Hp} {a:Act} {w:World}
theorem V0f{Q:Ex->St->Hp->Prop}{id:Nat}{d:Bool}(b:Sim P h0 w0 be oe H st h a w)(f:ev P (.region id ops d) Q st h):(Code.region id ops d).wp P (U0f P h0 w0 Q) a w:=by
 cases d with
 |false =>
  simp only[ev]at f
  split at f
  ·exact wp_region_list ((h0h (h0:=h0) (w0:=w0) f.1 f.2 λa w st h be oe H l b=>⟨st,h,be,oe,H,l,b⟩).2 b)
  ·exact wp_region_list (n04 (K:=λrs=>Q .normal rs.st rs.h) (λrs a w be oe H l b=>⟨rs.st,rs.h,be,oe,H,l,b⟩) _ 0 ⟨st,h,[],[]⟩ a w be oe H (λj=>by simp) b n06.init f)
 |true =>
  rcases f with⟨⟨p,n⟩,f⟩|f|f|⟨⟨p,n⟩,f⟩|⟨m,⟨p,n⟩,f⟩
  ·refine wp_region_quiet (C:=CW H w) p n (j2.drawn b.mv.vis _ (by grind)) ?_
   exact B0e (K:=λrs=>Q .normal rs.st rs.h) (λrs a w be oe H l b=>⟨rs.st,rs.h,be,oe,H,l,b⟩) _ 0 ⟨st,h,[],[]⟩ a (λj=>by simp) b n06.init f
  ·exact f.elim
  ·split at f
   ·obtain⟨⟨p,n⟩,f⟩:=f
    exact wp_region_any p (y0l (b.still (hf:=H) (λ_ _ h=>h) (j2.drawn b.mv.vis _ (by grind))) n f λa w st h be oe H l b=>⟨st,h,be,oe,H,l,b⟩)
   ·rename_i o L
    obtain⟨⟨p,n⟩,f⟩:=f
    simp only[Bool.and_eq_true]at n
    obtain⟨A,I,E⟩:=A0l L
    have s:=b.still (hf:=H) (λ_ _ h=>h) (j2.drawn b.mv.vis (w.drawn+1) (by grind))
    obtain⟨Inv,t,u,x,q⟩:=d0h (ops:=(l00 ops.toList).toArray) (Q:=U0f P h0 w0 Q) (R:=λa w=>o.wp P a w (λa w=>U0f P h0 w0 Q .normal a w) (U0f P h0 w0 Q)) s (by simpa using n.1) (by simpa using f) λa w st h be oe H l b=>by
     refine Oper.wp_mono (λM O J=>?_) (a9 (Q:=U0f P h0 w0 Q) b l)
     obtain⟨av,st',D,v,be',oe',z,l,rfl,s,g,N⟩:=J
     obtain⟨y,t,u,x,q⟩:=L03 (ops := #[o]) (i:=0) (rs:=⟨st',D,[],[]⟩) (ch:=[]) (c:=true) (v:=v) s n06.init (by rfl) rfl (λ_=>g) (λh=>by cases h) l
     exact⟨y.st,y.h,be',oe',z,t,q⟩
    exact wp_region_any p (w0q (ops0:=(l00 ops.toList).toArray) (o:=o) (Inv:=Inv) (by simpa using A) (λk o l e G F=>by
     have:=E02 n.2 k o l e G F
     omega) I (λk l=>A04 E k (by simpa using l) (by simp at l;omega)) u x q)
  ·exact wp_region_any p ((h0h (h0:=h0) (w0:=w0) n f λa w st h be oe H l b=>⟨st,h,be,oe,H,l,b⟩).1 (b.still (hf:=H) (λ_ _ h=>h) (j2.drawn b.mv.vis _ (by grind))))
  ·exact wp_region_any p (C0l n f (λa w st h be oe H l b=>⟨st,h,be,oe,H,l,b⟩) (b.still (hf:=H) (λ_ _ h=>h) (j2.drawn b.mv.vis _ (by grind))))
end
end Go.H
namespace Go.H
set_option linter.unusedVariables false
set_option linter.unusedSimpArgs false
theorem V02(x:Nat):∀ l:List Nat,a08 x l=true↔x∈l
 | []=>by simp[a08]
 |y::r=>by
  simp only[a08]
  cases h:Nat.beq x y with
  |true=>simp_all
  |false=>simp[V02 x r,Nat.ne_of_beq_eq_false h]
theorem B05{x:Nat}{l:List Nat}(h:a08 x l=false):x ∉ l:=λa=>by grind[V02]
theorem C0e:∀(l:List Nat) (K:List Nat->Prop),Q09 l K=K l
 | [],K=>rfl
 |x::r,K=>by simp only[Q09,C0e r]
theorem c09:∀(n:Nat) {K:List Value->Prop},K08 n K->∀ vs:List Value,vs.length=n->K vs
 |0,K,h,vs,a=>by rw[List.length_eq_zero_iff.1 a];exact h
 |n+1,K,h,[],a=>by cases a
 |n+1,K,h,v::vs,a=>c09 n (h v) vs (by simpa using a)
theorem d09:∀(n:Nat) {K:List (List (List Value))->Prop},L08 n K->∀ os:List (List (List Value)),os.length=n->K os
 |0,K,h,vs,a=>by rw[List.length_eq_zero_iff.1 a];exact h
 |n+1,K,h,[],a=>by cases a
 |n+1,K,h,v::vs,a=>d09 n (h v) vs (by simpa using a)
theorem g08{c:Type}:∀(a b:List c) (K:List c->List c->Prop),i06 a.length (a++b) K=K a b
 | [],b,K=>rfl
 |x::a,b,K=>by simp only[List.length_cons,List.cons_append,i06,g08 a b]
theorem h0a(e:St):∀(l:List Nat) {K:List Value->Prop},s0o l e K->∃ vs,vs.length=l.length/\K vs /\
  ∀ acc t,(D2 (R09 l vs acc) t=D2 acc t/\t ∉ l)∨(∃ v,D2 (R09 l vs acc) t = .val v/\rdA e (D2 e.fr t) = .val v)
 | [],K,h=>⟨[],rfl,h,λacc t => .inl ⟨rfl,by simp⟩⟩
 |b::r,K,h=>by
  simp only[s0o]at h
  split at h
  ·rename_i v i
   obtain⟨vs,c,d,f⟩:=h0a e r h
   refine⟨v::vs,by simp[c],d,λacc t=>?_⟩
   rcases f ((b,.val v)::acc) t with⟨a,g⟩|a
   ·by_cases e':b=t
    ·simp_all[R09,D3,if_true]
    simp_all[R09,D3,if_neg,Ne.symm]
   ·exact .inr a
  ·exact h.elim
def P03(B:Nat->Nat->Prop):List p5->Prop
 | []=>True
 | .val _::r=>P03 B r
 | .own i k::r=>B i k/\P03 B r
def ShC(e:St):List p5->List p5->Prop
 | [],[]=>True
 | .val _::r,.val _::a=>ShC e r a
 | .own i _::r,.own j c::a=>i=j/\(∃ b,rdA e (.own j c) = .own j b)/\ShC e r a
 |_,_=>False
def EqC(e:St):List p5->List p5->Prop
 | [],[]=>True
 | .val v::r,.val d::a=>v=d/\EqC e r a
 | .own i _::r,.own j c::a=>i=j/\(∃ b,rdA e (.own j c) = .own j b)/\EqC e r a
 |_,_=>False
theorem EqC.sh{e:St}:∀ {cs cs':List p5},EqC e cs cs'->ShC e cs cs'
 | [],[],_=>trivial
 | .val _::r,.val _::a,h=>EqC.sh (cs:=r) (cs':=a) h.2
 | .own i _::r,.own j b::a,h=>⟨h.1,h.2.1,EqC.sh (cs:=r) (cs':=a) h.2.2⟩
 | [],_::_,h=>h.elim
 | .val _::_,[],h=>h.elim
 | .own _ _::_,[],h=>h.elim
 | .val _::_,.own _ _::_,h=>h.elim
 | .own _ _::_,.val _::_,h=>h.elim
theorem e09{e:St}{i k a b:Nat}(h:rdA e (.own i k) = .own a b):a=i/\b=k:=by
 grind[rdA]
theorem C05{g e:St}:∀(cs cs':List p5),P04 g e cs cs'=true->ShC e cs cs'
 | [],[],_=>trivial
 | .val _::r,.val _::c,h=>C05 r c h
 | .own i _::r,.own j k::c,h=>by
  simp only[P04]at h
  split at h
  ·rename_i a b f d
   obtain⟨rfl,_⟩:=e09 d
   exact⟨Nat.eq_of_beq_eq_true f,⟨_,d⟩,C05 r c h⟩
  ·cases h
 | [],_::_,h=>by cases h
 | .val _::_,[],h=>by cases h
 | .own _ _::_,[],h=>by cases h
 | .val _::_,.own _ _::_,h=>by cases h
 | .own _ _::_,.val _::_,h=>by cases h
theorem i0a(e:St):∀(cs cs':List p5),ShC e cs cs'->∀ {K:List Value->Prop},Q0g cs' e K->∃ vs,K vs/\∃ a,(∀(f:List Value) (c:List p5->List Value->Prop),I02 cs (vs++f) c=c a f)/\EqC e a cs' /\
  (∀ B,P03 B cs->P03 B a)
 | [],[],_,K,h=>⟨[],h,[],λ_ _=>rfl,trivial,λ_ h=>h⟩
 | .val _::r,.val v::n,b,K,h=>by
  obtain⟨vs,g,a,o,l,m⟩:=i0a e r n b (K:=λvs=>K (v::vs)) h
  exact⟨v::vs,g,.val v::a,λf c=>by grind[I02],⟨rfl,l⟩,λB d=>m B d⟩
 | .own i k::r,.own j p::n,b,K,h=>by
  obtain⟨vs,g,a,o,l,m⟩:=i0a e r n b.2.2 (K:=K) h
  exact⟨vs,g,.own i k::a,λf c=>by simp only[I02,o],⟨b.1,b.2.1,l⟩,λB d=>⟨d.1,m B d.2⟩⟩
 | [],_::_,h,_,_=>h.elim
 | .val _::_,[],h,_,_=>h.elim
 | .own _ _::_,[],h,_,_=>h.elim
 | .val _::_,.own _ _::_,h,_,_=>h.elim
 | .own _ _::_,.val _::_,h,_,_=>h.elim
theorem j0a(e:St):∀(cs:List p5) {K:List Value->Prop},Q0g cs e K->∃ vs,K vs/\∀(b:List Value) (a:List p5->List Value->Prop),I02 cs (vs++b) a=a cs b
 | [],K,h=>⟨[],h,λ_ _=>rfl⟩
 | .val v::r,K,h=>by
  obtain⟨vs,c,d⟩:=j0a e r (K:=λvs=>K (v::vs)) h
  grind[I02]
 | .own i k::r,K,h=>by
  obtain⟨vs,c,d⟩:=j0a e r (K:=K) h
  grind[I02]
theorem D0e{a:Type}(l:List a)(i:Nat)(x:a)(h:nth l i=some x):F9 l i x=l:=by
 grind[H03,List.getElem?_eq_some_iff,N08,List.set_getElem_self]
theorem k0k(e:St):∀(is:List Nat) {K:List Value->Prop},j0c is e K->∃ a,K a/\∀ b,M04 is a e.bx b=b e.bx
 | [],K,h=>⟨[],h,λ_=>rfl⟩
 |i::r,K,h=>by
  simp only[j0c]at h
  split at h
  ·rename_i cs ty j
   obtain⟨vs,c,d⟩:=j0a e cs h
   obtain⟨a,f,g⟩:=k0k e r c
   grind[M04,D0e]
  ·exact h.elim
theorem l0k(e:St):∀(is:List Nat) {K:List (List (List Value))->Prop},o0e is e K->∃ os,os.length=is.length/\K os/\∀ a,N04 is os e.ow a=a e.ow
 | [],K,h=>⟨[],rfl,h,λ_=>rfl⟩
 |i::r,K,h=>by
  simp only[o0e]at h
  split at h
  ·rename_i g ty sz by_ nn xs f
   obtain⟨j,b,c,d⟩:=l0k e r h
   grind[N04,D0e]
  ·exact h.elim
theorem m0k(e:St):∀(is:List Nat) (bx:List BSt),(∀ i∈is,∃ cs ty cs',nth bx i=some (.live cs ty)/\nth e.bx i=some (.live cs' ty)/\ShC e cs cs')->∀ {K:List Value->Prop},j0c is e K ->
  ∃ d,K d/\∃ b,(∀ f,M04 is d bx f=f b)/\b.length=bx.length/\(∀ i,i ∉ is->nth b i=nth bx i) /\
   (∀ i∈is,∃ c ty cs',nth b i=some (.live c ty)/\nth e.bx i=some (.live cs' ty)/\EqC e c cs') /\
   (∀ B,(∀ i cs ty,nth bx i=some (.live cs ty)->P03 B cs)->(∀ i cs ty,nth b i=some (.live cs ty)->P03 B cs))
 | [],bx,_,K,h=>⟨[],h,bx,λ_=>rfl,rfl,λ_ _=>rfl,by simp,λ_ h=>h⟩
 |i::r,bx,t,K,h=>by
  obtain⟨cs,ty,cs',q,g,s⟩:=t i mS
  simp only[j0c,g]at h
  obtain⟨vs,v,c,D,n,E⟩:=i0a e cs cs' s h
  have k:=P00 q
  have u:∀ j∈r,∃ l p m,nth (F9 bx i (.live c ty)) j=some (.live l p)/\nth e.bx j=some (.live m p)/\ShC e l m:=λj a=>by
   rw[J6 _ _ _ k]
   by_cases ej:j=i
   ·subst ej
    rw[if_pos rfl]
    exact⟨c,ty,cs',rfl,g,n.sh⟩
   grind
  obtain⟨d,w,b,F,x,o,y,z⟩:=m0k e r _ u v
  refine⟨vs++d,w,b,λf=>by grind[M04],by rw[x,d04],λj a=>?_,λj a=>?_,λB C=>z B λj A G a=>?_⟩
  ·simp only[List.mem_cons,not_or]at a
   rw[o j a.2,J6 _ _ _ k,if_neg a.1]
  ·by_cases hr:j∈r
   ·exact y j hr
   ·rcases List.mem_cons.1 a with rfl|a
    ·refine⟨c,ty,cs',?_,g,n⟩
     rw[o j hr,J6 _ _ _ k,if_pos rfl]
    ·exact absurd a hr
  grind[J6]
theorem n0k(g:St):∀(is:List Nat) (ow:List Own),(∀ i∈is,∃ f e sz by_ nn k c a xs,nth ow i=some ⟨f,.live e sz by_ nn k⟩/\nth g.ow i=some ⟨c,.live e sz by_ a xs⟩/\(nn=true->a=true)) ->
  ∀ {K:List (List (List Value))->Prop},o0e is g K->∃ os,os.length=is.length/\K os/\∃ d,(∀ l,N04 is os ow l=l d)/\(∀ i,i ∉ is->nth d i=nth ow i) /\
   (∀ i∈is,∃ f e sz by_ nn c a xs,nth d i=some ⟨f,.live e sz by_ nn xs⟩/\nth g.ow i=some ⟨c,.live e sz by_ a xs⟩/\(nn=true->a=true)) /\
   (∀ i,(nth d i).map (·.stamp)=(nth ow i).map (·.stamp))
 | [],ow,_,K,h=>⟨[],rfl,h,ow,λ_=>rfl,λ_ _=>rfl,by simp,λ_=>rfl⟩
 |i::r,ow,w,K,h=>by
  obtain⟨f,e,sz,by_,nn,k,c,a,xs,p,q,v⟩:=w i mS
  simp only[o0e,q]at h
  have m:=P00 p
  have x:∀ j∈r,∃ D o u n t k c a E,nth (F9 ow i ⟨f,.live e sz by_ nn xs⟩) j=some ⟨D,.live o u n t k⟩/\nth g.ow j=some ⟨c,.live o u n a E⟩/\(t=true->a=true):=λj b=>by
   rw[J6 _ _ _ m]
   grind
  obtain⟨os,y,z,d,A,s,C,F⟩:=n0k g r _ x h
  refine⟨xs::os,by simp[y],z,d,λl=>by simp only[N04,p,A],λj b=>?_,λj b=>?_,λj=>?_⟩
  ·simp only[List.mem_cons,not_or]at b
   rw[s j b.2,J6 _ _ _ m,if_neg b.1]
  ·by_cases hr:j∈r
   ·exact C j hr
   ·rcases List.mem_cons.1 b with rfl|b
    ·refine⟨f,e,sz,by_,nn,c,a,xs,?_,q,v⟩
     rw[s j hr,J6 _ _ _ m,if_pos rfl]
    ·exact absurd b hr
  grind[J6]
theorem t06{A:Ann}{m e:St}:∀(i:Nat) (bx c:List BSt),S09 A m e i bx c->∀ k b,nth bx k=some b ->
  (i+k∈A.boxes/\∃ cs ty cs',b = .live cs ty/\nth c k=some (.live cs' ty)/\ShC e cs cs')∨(i+k ∉ A.boxes/\nth c k=some b/\a0j A.owns b=true)
 |i,[],_,_,k,b,a=>by cases k<;>cases a
 |i,x::r,[],h,_,_,_=>by cases h
 |i,x::r,y::f,h,k,b,a=>by
  simp only[S09]at h
  split at h
  ·rename_i d
   split at h
   ·rename_i cs ty cs' n
    split at h
    ·rename_i g j
     have:=Nat.eq_of_beq_eq_true g
     subst this
     cases k with
     |zero=>cases a;exact .inl ⟨(V02 _ _).1 d,cs,ty,cs',rfl,rfl,C05 _ _ j⟩
     |succ k=>have:=t06 (i+1) r f h k b a;rwa [show i+1+k=i+(k+1) from by omega]at this
    ·exact h.elim
   ·exact h.elim
  ·rename_i d
   split at h
   ·rename_i l
    obtain⟨rfl,h⟩:=h
    cases k with
    |zero=>cases a;exact .inr ⟨B05 d,rfl,l⟩
    |succ k=>have:=t06 (i+1) r f h k b a;rwa [show i+1+k=i+(k+1) from by omega]at this
   ·exact h.elim
theorem u06{A:Ann}:∀(i:Nat) (ow f:List Own),T09 A i ow f->∀ k b,nth ow k=some b ->
  (i+k∈A.owns/\∃ g e sz by_ nn n j d xs,b=⟨g,.live e sz by_ nn n⟩/\nth f k=some ⟨j,.live e sz by_ d xs⟩/\(nn=true->d=true)/\(i+k∈A.kept->g=j))∨(i+k ∉ A.owns/\nth f k=some b)
 |i,[],_,_,k,b,a=>by cases k<;>cases a
 |i,x::r,[],h,_,_,_=>by cases h
 |i,x::r,y::m,h,k,b,a=>by
  simp only[T09]at h
  split at h
  ·rename_i c
   split at h
   ·rename_i g e sz by_ nn n j u v t d xs
    split at h
    ·rename_i o p q s l
     have:=Nat.eq_of_beq_eq_true o
     subst this
     have:=Nat.eq_of_beq_eq_true p
     subst this
     have:=Nat.eq_of_beq_eq_true q
     subst this
     cases k with
     |zero=>cases a;exact .inl ⟨(V02 _ _).1 c,_,_,_,_,_,_,_,_,_,rfl,rfl,(λh=>by subst h;exact s),λh=>by rw[show a08 i A.kept=true from(V02 _ _).2 h]at l;exact Nat.eq_of_beq_eq_true l⟩
     |succ k=>have:=u06 (i+1) r m h k b a;rwa [show i+1+k=i+(k+1) from by omega]at this
    ·exact h.elim
   ·exact h.elim
  ·rename_i c
   obtain⟨rfl,h⟩:=h
   cases k with
   |zero=>cases a;exact .inr ⟨B05 c,rfl⟩
   |succ k=>have:=u06 (i+1) r m h k b a;rwa [show i+1+k=i+(k+1) from by omega]at this
end Go.H
namespace Go.H
set_option linter.unusedVariables false
set_option linter.unusedSimpArgs false
def f09(A:Ann)(st:St):AV->Prop
 | .val _ | .hel _ _ _ _ | .dead=>True
 | .agg cs=>b0k cs=true
 | .box i _=>i<st.bx.length
 | .own i k=>(i ∉ A.owns∨i∈A.kept)/\stamp st i=some k
 | .oel _ _ _ _ _=>False
theorem o0k{st:St}{av:AV}{i off:Nat}(h:rdA st av = .box i off):i<st.bx.length:=by
 cases av with
 |box j o =>
  simp only[rdA]at h
  split at h
  all_goals simp_all[P00]
 |own j k =>
  grind[rdA]
 |oel j s idx sz k =>
  grind[rdA]
 |_=>cases h
theorem k0a{st:St}{av:AV}{i k:Nat}(h:rdA st av = .own i k):stamp st i=some k:=by
 grind[o05,stamp]
theorem h08(A:Ann)(ds:List Nat)(st:St):∀(l:List (Nat×AV)) {K:List (Nat×AV)->Prop},O04 A ds st l K->∃ a,K a/\∀ t,t ∉ ds ->
  D2 a t = .dead∨(D2 a t=rdA st (D2 l t)/\f09 A st (D2 a t))
 | [],K,h=>⟨[],h,λt _ => .inl rfl⟩
 |(j,av)::r,K,h=>by
  have put:∀ c,(c = .dead∨(c=rdA st av/\f09 A st c))->(O04 A ds st r λl=>K ((j,c)::l))->∃ a,K a/\∀ t,t ∉ ds ->
    D2 a t = .dead∨(D2 a t=rdA st (D2 ((j,av)::r) t)/\f09 A st (D2 a t)):=by
   intro c s h
   obtain⟨a,d,f⟩:=h08 A ds st r h
   refine⟨_,d,λt g=>?_⟩
   rw[D3,D3]
   grind
  simp only[O04]at h
  split at h
  ·rename_i n
   obtain⟨a,d,f⟩:=h08 A ds st r h
   refine⟨a,d,λt g=>?_⟩
   rw[D3,if_neg (λe=>g (by grind[V02]))]
   exact f t g
  ·split at h
   ·rename_i i k b
    split at h
    ·simp_all
    ·rename_i n
     refine put _ (.inr ⟨b.symm,?_,k0a b⟩) h
     grind[a08,B05,V02,absurd]
   ·simp_all
   ·rename_i cs b
    split at h
    ·rename_i p
     exact put _ (.inr ⟨b.symm,p⟩) h
    simp_all
   ·rename_i d f m
    refine put _ (.inr ⟨rfl,?_⟩) h
    cases b:rdA st av with
    |own i k=>grind
    |oel i q idx sz k=>grind
    |agg cs=>exact absurd b (m cs)
    |box i o=>exact o0k b
    |val v=>trivial
    |hel q idx sz k=>trivial
    |dead=>trivial
def q0h(st:St)(t:Nat)(av:AV):Prop :=
 av = .dead∨(∃ i k,av = .own i k/\stamp st i=some k/\rdA st (D2 st.fr t) = .own i k)∨(∃ i o,av = .box i o/\i<st.bx.length/\rdA st (D2 st.fr t) = .box i o)
theorem i08(A:Ann)(st:St):∀(l:List Nat) (acc:List (Nat×AV)) {K:List (Nat×AV)->Prop},headD A st l acc K->(∀ p∈acc,q0h st p.1 p.2) ->
  ∃ a,K a/\(∀ p∈a,p.1∈l∨p∈acc)/\(∀ p∈a,q0h st p.1 p.2)/\(∀ t∈l,t ∉ A.vars->∃ av,(t,av)∈a)/\(∀ p∈acc,p∈a)
 | [],acc,K,h,f=>⟨acc,h,λp c => .inr c,f,by simp,λ_ h=>h⟩
 |d::r,acc,K,h,f=>by
  have put:∀ e,q0h st d e->headD A st r ((d,e)::acc) K->∃ a,K a/\(∀ p∈a,p.1∈d::r∨p∈acc)/\(∀ p∈a,q0h st p.1 p.2)/\(∀ t∈d::r,t ∉ A.vars->∃ av,(t,av)∈a)/\(∀ p∈acc,p∈a):=by
   intro e s h
   obtain⟨a,g,j,m,q,n⟩:=i08 A st r _ h (λp c=>by
    grind)
   grind
  simp only[headD]at h
  split at h
  ·rename_i u
   obtain⟨a,g,j,m,q,n⟩:=i08 A st r _ h f
   refine⟨a,g,λp c=>(j p c).imp (mC _) id,m,λt v w=>?_,n⟩
   grind[absurd,V02]
  ·split at h
   ·rename_i i k b
    exact put _ (.inr (.inl ⟨i,k,rfl,k0a b,b⟩)) h
   ·rename_i i o b
    exact put _ (.inr (.inr ⟨i,o,rfl,o0k b,b⟩)) h
   ·exact put _ (.inl rfl) h
theorem B0c:∀(b a:List (Nat×AV)) (t:Nat),(∃ av,(t,av)∈b/\D2 (b++a) t=av)∨((∀ av,(t,av) ∉ b)/\D2 (b++a) t=D2 a t)
 | [],a,t => .inr ⟨by simp,rfl⟩
 |(f,av)::r,a,t=>by
  simp only[List.cons_append]
  rw[D3]
  by_cases e:f=t
  ·grind
  ·rw[if_neg e]
   rcases B0c r a t with⟨g,c,d⟩|⟨c,d⟩
   all_goals grind
theorem C0c{c e:St}:∀(b:List (Nat×AV)),c0b c e b=true->∀ t av,(t,av)∈b->(∀ i k,av = .own i k->∃ a,rdA e (D2 e.fr t) = .own i a)/\(∀ i o,av = .box i o->rdA e (D2 e.fr t) = .box i o)
 | [],_,t,av,h=>by cases h
 |(f,x)::r,g,t,av,h=>by
  have d:c0b c e r=true/\(∀ i k,x = .own i k->∃ a,rdA e (D2 e.fr f) = .own i a)/\(∀ i o,x = .box i o->rdA e (D2 e.fr f) = .box i o):=by
   simp only[c0b]at g
   grind[Nat.eq_of_beq_eq_true,absurd]
  rcases List.mem_cons.1 h with h|h
  ·cases h;exact d.2
  ·exact C0c r d.1 t av h
theorem j08{fr:List (Nat×AV)}:∀(a:List (Nat×AV)),p0e fr a=p0l a->∀ t,D2 a t = .dead∨D2 fr t=D2 a t
 | [],_,t => .inl rfl
 |(b,av)::r,h,t=>by
  rw[D3]
  simp only[p0e,p0l]at h
  cases hd:Z0i av with
  |true =>
   rw[hd]at h
   by_cases e:b=t
   ·rw[if_pos e]
    left
    cases av<;>first|rfl|cases hd
   ·rw[if_neg e]
    exact j08 r h t
  |false =>
   rw[hd]at h
   simp only[List.cons.injEq]at h
   by_cases e:b=t
   ·grind
   ·rw[if_neg e]
    exact j08 r h.2 t
theorem l0a{e l:St}{be:Nat->Nat}{oe:Nat->Value}:∀ {d cs':List p5} {vs:List Value},EqC e d cs'->P03 (λj k=>∃ c,stamp l j=some c/\k<=c) d->M1 e oe cs' vs->M1 l oe d vs
 | [],[],[],_,_,_=>trivial
 | .val v::r,.val q::o,x::vs,h,a,g=>⟨by rw[show x=q from g.1,h.1];rfl,l0a (be:=be) h.2 a g.2⟩
 | .own i k::r,.own j s::o,x::vs,h,a,g=>by
  obtain⟨n,⟨b,f⟩,h⟩:=h
  subst n
  obtain⟨⟨c,s1,s2⟩,a⟩:=a
  refine⟨⟨c,s1,s2,λ_=>?_⟩,l0a (be:=be) h a g.2⟩
  obtain⟨_,m⟩:=e09 f
  subst m
  obtain⟨t,p,u,w⟩:=g.1
  rw[k0a f]at p
  grind
 | [],_::_,_,h,_,_=>h.elim
 | .val _::_,[],_,h,_,_=>h.elim
 | .own _ _::_,[],_,h,_,_=>h.elim
 | .val _::_,.own _ _::_,_,h,_,_=>h.elim
 | .own _ _::_,.val _::_,_,h,_,_=>h.elim
 |_,_::_,[],_,_,g=>g.elim
 |_,[],_::_,_,_,g=>g.elim
theorem D05{os:List Nat}{e c:St}{oe:Nat->Value}(d:∀ j,j ∉ os->∀ a,stamp c j=some a->stamp e j=some a):∀ {cs:List p5} {vs:List Value},J08 os cs=true ->
  P03 (λj k=>∃ a,stamp c j=some a/\k<=a) cs->M1 e oe cs vs->M1 c oe cs vs
 | [],[],_,_,_=>trivial
 | .val v::r,x::vs,h,b,g=>⟨g.1,D05 d h b g.2⟩
 | .own i k::r,x::vs,h,b,g=>by
  simp only[J08]at h
  split at h
  ·cases h
  ·rename_i l
   obtain⟨⟨a,s1,s2⟩,b⟩:=b
   refine⟨⟨a,s1,s2,λf=>?_⟩,D05 d h b g.2⟩
   obtain⟨m,n,o,p⟩:=g.1
   grind[B05]
 | [],_::_,_,_,g=>g.elim
 |_::_,[],_,_,g=>g.elim
section
variable {P:Program} {h0:Hp} {w0:World} {be:Nat->Nat} {oe:Nat->Value} {H:Hp} {h:Hp} {a:Act} {w:World}
theorem d0n{A:Ann}{e l:St}(c:Sim P h0 w0 be oe H e h a w)(O:e.n=l.n)
  (J:∀ i b,nth l.bx i=some b->(∃ D ty cs',b = .live D ty/\nth e.bx i=some (.live cs' ty)/\EqC e D cs')∨(nth e.bx i=some b/\a0j A.owns b=true))
  (Q:∀ i o,nth l.ow i=some o->(∃ c t sz by_ nn C q xs,o=⟨c,.live t sz by_ nn xs⟩/\nth e.ow i=some ⟨C,.live t sz by_ q xs⟩/\(nn=true->q=true))/\i∈A.owns∨(nth e.ow i=some o/\i ∉ A.owns))
  (I:∀ i cs ty,nth l.bx i=some (.live cs ty)->P03 (λj k=>∃ c,stamp l j=some c/\k<=c) cs)
  (hf:∀ t,O1 l be oe (D2 l.fr t) (a.tmps.getD t undef)):Sim P h0 w0 be oe H l h a w:=by
 have R:∀ j,j ∉ A.owns->∀ c,stamp l j=some c->stamp e j=some c:=λj s m aa=>by
  grind[stamp,nth,absurd]
 have F:∀ i cs ty,nth l.bx i=some (.live cs ty)->∃ cs',nth e.bx i=some (.live cs' ty):=λi cs ty f=>by
  grind
 have E:∀ i m t sz by_ nn xs,nth l.ow i=some ⟨m,.live t sz by_ nn xs⟩->∃ C q,nth e.ow i=some ⟨C,.live t sz by_ q xs⟩/\(nn=true->q=true):=λi m t sz by_ nn xs f=>by
  grind
 refine⟨c.mv,c.sub,λi cs ty f=>?_,λi b f=>?_,λi m t sz by_ nn xs f=>?_,λi m v f=>?_,λi j cs ty cs' V f s=>?_,λi j m t sz by_ nn xs s1 U T M S X g f s=>?_,λi cs ty j m t sz by_ nn xs f s=>?_,c.dfr,by rw[c.siz,O],hf⟩
 ·rcases J i _ f with⟨D,W,cs',x,d,p⟩|⟨d,p⟩
  ·cases x
   obtain⟨y,vs,z,G⟩:=c.box i cs' ty d
   exact⟨y,vs,l0a (be:=be) p (I i _ _ f) z,G⟩
  ·obtain⟨y,vs,z,G⟩:=c.box i cs ty d
   exact⟨y,vs,D05 R p (I i _ _ f) z,G⟩
 ·rcases J i _ f with⟨D,W,cs',x,d,p⟩|⟨d,p⟩
  ·cases x
  ·exact c.pub i b d
 ·obtain⟨C,q,d,p⟩:=E i _ _ _ _ _ _ f
  obtain⟨y,z⟩:=c.own i _ _ _ _ _ _ d
  refine⟨y,z.imp (λ⟨K,L,Y⟩=>⟨K,L,?_⟩) id⟩
  grind
 ·rcases Q i _ f with⟨⟨s1,U,T,M,S,C,q,X,x,d,p⟩,_⟩|⟨d,_⟩
  ·cases x
  ·exact c.frz i m v d
 ·obtain⟨N,u⟩:=F i cs ty f
  obtain⟨Z,d⟩:=F j cs' V s
  exact c.bb i j _ _ _ _ u d
 ·obtain⟨_,_,u,_⟩:=E i _ _ _ _ _ _ f
  obtain⟨_,_,d,_⟩:=E j _ _ _ _ _ _ s
  exact c.oo i j _ _ _ _ _ _ _ _ _ _ _ _ g u d
 ·obtain⟨N,u⟩:=F i cs ty f
  obtain⟨_,_,d,_⟩:=E j _ _ _ _ _ _ s
  exact c.bo i _ _ j _ _ _ _ _ _ u d
end
end Go.H
namespace Go.H
set_option linter.unusedVariables false
set_option linter.unusedSimpArgs false
section
variable {P:Program} {h0:Hp} {w0:World} {be:Nat->Nat} {oe:Nat->Value} {H:Hp} {st:St} {h:Hp} {a:Act} {w:World}
theorem e0n(b:Sim P h0 w0 be oe H st h a w):∀ i cs ty,nth st.bx i=some (.live cs ty)->P03 (λj k=>∃ b,stamp st j=some b/\k<=b) cs:=by
 intro i cs ty l
 obtain⟨_,vs,g,_⟩:=b.box i cs ty l
 have:∀(cs:List p5) (vs:List Value),M1 st oe cs vs->P03 (λj k=>∃ b,stamp st j=some b/\k<=b) cs:=by
  intro cs
  induction cs with
  |nil=>intro vs _;trivial
  |cons c r d =>
   intro vs g
   cases vs with
   |nil=>exact g.elim
   |cons v vs =>
    cases c with
    |val x=>exact d vs g.2
    |own j k =>
     obtain⟨m,e,f,_⟩:=g.1
     exact⟨⟨m,e,f⟩,d vs g.2⟩
 exact this cs vs g
theorem r0h(p:Nat->Prop)(h:∃ n,p n):∃ n,p n/\∀ m,p m->n<=m:=by
 obtain⟨n,a⟩:=h
 induction n using Nat.strongRecOn with
 |_ n b =>
  grind
theorem p0k:∀(a b:List Value),t0o a b=true->a.length=b.length
 | [],[],_=>rfl
 |_::r,_::c,h=>by simp[p0k r c h]
 | [],_::_,h=>by cases h
 |_::_,[],h=>by cases h
theorem Q0p{A:Ann}{ds:List Nat}{st e m:St}{f l:List (Nat×AV)}{y:List Value}{av1:∀ t,(D2 (R09 A.vars y (f++l)) t=D2 (f++l) t/\t ∉ A.vars)∨(∃ v,D2 (R09 A.vars y (f++l)) t = .val v/\rdA e (D2 e.fr t) = .val v)}
  (K:Sim P h0 w0 be oe H e h a w) (Q:m.fr=R09 A.vars y (f++l)) (D:m.bx.length=st.bx.length) (E:∀ i,stamp m i=stamp st i)
  (ae:∀ i k,(i ∉ A.owns∨i∈A.kept)->stamp st i=some k->stamp e i=stamp m i)
  (ab:∀ p∈f,p.1∈ds) (L:∀ p∈f,q0h st p.1 p.2) (ac:∀ t∈ds,t ∉ A.vars->∃ av,(t,av)∈f)
  (s1:∀ t,t ∉ ds->f09 A st (D2 l t)) (T:∀ t av,(t,av)∈f->(∀ i k,av = .own i k->∃ G,rdA e (D2 e.fr t) = .own i G)/\(∀ i o,av = .box i o->rdA e (D2 e.fr t) = .box i o))
  (U:∀ t,D2 l t = .dead∨D2 e.fr t=D2 l t):∀ t,O1 m be oe (D2 m.fr t) (a.tmps.getD t undef):=by
 intro t
 rw[Q]
 have b:=K.fr t
 have n:=K.rdA b
 rcases av1 t with⟨q,ag⟩|⟨v,q,M⟩
 ·rw[q]
  rcases B0c f l t with⟨av,s,u⟩|⟨s,u⟩
  ·rw[u]
   obtain⟨X,Y⟩:=T t av s
   rcases L _ s with rfl|⟨i,k,rfl,d,_⟩|⟨i,o,rfl,N,_⟩
   ·trivial
   ·obtain⟨G,C⟩:=X i k rfl
    rw[C]at n
    refine⟨k,by rw[E,d],Nat.le_refl _,λ_=>?_⟩
    obtain⟨z,ak,aa,ai,al,R⟩:=o05 C
    exact n.own_cur R
   ·rw[Y i o rfl]at n
    exact⟨by rw[D];exact N,n.2⟩
  ·rw[u]
   have V:t ∉ ds:=λad=>by
    grind
   rcases U t with O|z
   ·rw[O];trivial
   have d:=s1 t V
   rw[z]at b
   cases hl:D2 l t with
   |val v=>rw[hl]at b;exact b
   |hel Z idx sz k=>rw[hl]at b;exact b
   |dead=>trivial
   |agg cs =>
    rw[hl]at b d
    obtain⟨vs,I,J⟩:=b
    refine⟨vs,I,?_⟩
    have:∀(cs:List p5) (vs:List Value),b0k cs=true->M1 e oe cs vs->M1 m oe cs vs:=by
     intro cs
     induction cs with
     |nil=>intro vs _ g;cases vs<;>exact g
     |cons c r W =>
      intro vs F g
      cases vs with
      |nil=>exact g.elim
      |cons v vs =>
       cases c with
       |val x=>exact⟨g.1,W vs F g.2⟩
       |own j k=>cases F
    exact this cs vs d J
   |box i o =>
    rw[hl]at b d
    exact⟨by rw[D];exact d,b.2⟩
   |own i k =>
    rw[hl]at b d
    obtain⟨af,S⟩:=d
    obtain⟨aj,I,J,ah⟩:=b
    refine⟨k,by rw[E,S],Nat.le_refl _,λ_=>?_⟩
    grind
   |oel i Z idx sz k=>rw[hl]at d;exact d.elim
 ·rw[q]
  rw[M]at n
  exact n
theorem j0b:∀(l:List (Nat×Nat×Nat×Nat)) (st:St) (oe:Nat->Value) {K:St->Prop},Sim P h0 w0 be oe H st h a w->O0g l st K->∃ st' oe',K st'/\Sim P h0 w0 be oe' H st' h a w
 | [],st,oe,K,d,c=>⟨st,oe,c,d⟩
 |(t,e,sz,by_)::r,⟨n,fr,bx,ow⟩,oe,K,d,c=>by
  simp only[O0g]at c
  split at c
  ·rename_i j p
   rw[B08]at c
   have f:=d.rdA (d.fr t)
   have k:a.tmps.getD t undef = .slice none 0 0:=by
    have:rdA ⟨n,fr,bx,ow⟩ (D2 fr t) = .val (.slice none 0 0):=j
    rw[show rdA ⟨n,fr,bx,ow⟩ (D2 (St.mk n fr bx ow).fr t) = .val (.slice none 0 0) from this]at f
    exact f
   have g:Q04 h H (.slice none 0 0) e sz false []:=⟨by simp,.inl ⟨rfl,rfl,rfl⟩⟩
   obtain⟨s1,m⟩:=d.newOwn (by_:=by_) (λb o i=>i) (j2.refl d.mv.vis) g (by simp[Value.ownBlock])
   refine j0b r _ _ (s1.refr (fr:=(t,.own ow.length 0)::fr) λu=>?_) c
   rw[D3]
   by_cases eu:t=u
   ·subst eu
    rw[if_pos rfl,k]
    exact⟨0,by simp[stamp,w01],Nat.le_refl _,λ_=>by simp⟩
   ·rw[if_neg eu]
    exact s1.fr u
  ·exact c.elim
theorem g09:∀(l:List (Nat×Nat×Nat×Nat×Nat)) (st:St) (oe:Nat->Value) {K:St->Prop},Sim P h0 w0 be oe H st h a w->i0c l st K->∃ st' oe',K st'/\Sim P h0 w0 be oe' H st' h a w
 | [],st,oe,K,g,f=>⟨st,oe,f,g⟩
 |(i,k,e,sz,by_)::r,⟨n,fr,bx,ow⟩,oe,K,g,f=>by
  simp only[i0c]at f
  split at f
  rotate_left
  ·exact f.elim
  rename_i cs ty C
  split at f
  rotate_left
  ·exact f.elim
  rename_i O
  rw[B08]at f
  have L:Q04 h H (.slice none 0 0) e sz false []:=⟨by simp,.inl ⟨rfl,rfl,rfl⟩⟩
  obtain⟨s1,X⟩:=g.newOwn (by_:=by_) (λb o M=>M) (j2.refl g.mv.vis) L (by simp[Value.ownBlock])
  have A:=P00 C
  refine g09 r _ (λj=>if j=ow.length then .slice none 0 0 else oe j) ?_ f
  have q:F6 ⟨n,fr,bx,ow ++ [⟨0,.live e sz by_ false []⟩]⟩ be (λj=>if j=ow.length then .slice none 0 0 else oe j) ⟨n,fr,F9 bx i (.live (F9 cs k (.own ow.length 0)) ty),ow ++ [⟨0,.live e sz by_ false []⟩]⟩ be (λj=>if j=ow.length then .slice none 0 0 else oe j) :=
   ⟨by simp[d04],λ_ _=>rfl,λi g h=>⟨g,h,Nat.le_refl _,λ_=>rfl⟩⟩
  have u:∀ j cs' m,nth (F9 bx i (.live (F9 cs k (.own ow.length 0)) ty)) j=some (.live cs' m)->∃ E,nth bx j=some (.live E m):=λj cs' m d=>by
   grind[J6]
  refine⟨s1.mv,s1.sub,λj cs' m d=>?_,λj b d=>?_,s1.own,s1.frz,λj x T aa U ab G I=>?_,s1.oo,λj cs' m x Y W Z S nn xs d N=>?_,s1.dfr,s1.siz,λt=>(s1.fr t).grow q⟩
  ·rw[J6 _ _ _ A]at d
   split at d
   ·rename_i F
    subst F
    cases d
    obtain⟨y,vs,p,z⟩:=s1.box j cs ty C
    refine⟨y,vs,?_,z⟩
    obtain⟨v,ac,R⟩:=p.nth O
    have Q:v = .slice none 0 0:=R
    have:=(p.grow q).upd (k:=k) (c := .own ow.length 0) (v:=v) (by rw[Q];exact⟨0,by simp[stamp,w01],Nat.le_refl _,λ_=>by simp⟩)
    rwa [show vs.set k v=vs from by
     grind[List.getElem?_eq_some_iff,List.set_getElem_self]]at this
   ·obtain⟨y,vs,p,z⟩:=s1.box j cs' m d
    exact⟨y,vs,p.grow q,z⟩
  ·rw[J6 _ _ _ A]at d
   split at d
   ·cases d
   ·exact s1.pub j b d
  ·obtain⟨D,s⟩:=u _ _ _ G
   obtain⟨V,J⟩:=u _ _ _ I
   exact s1.bb j x _ _ _ _ s J
  ·obtain⟨D,s⟩:=u _ _ _ d
   exact s1.bo j _ _ x _ _ _ _ _ _ s N
theorem k08:∀(l:List Nat) {st:St} {h:Hp} {K:St->Hp->Prop},Sim P h0 w0 be oe H st h a w->P0g l st h K->∃ st' e,K st' e/\Sim P h0 w0 be oe H st' e a w
 | [],st,h,K,b,c=>⟨st,h,c,b⟩
 |t::r,st,h,K,b,c=>by
  simp only[P0g]at c
  obtain⟨⟨n,fr,bx,ow⟩,e,d,s1,_⟩:=X01 b (b.rdA (b.fr t)) c
  dsimp only at d
  split at d
  ·refine k08 r (s1.refr (fr:=(t,.val (a.tmps.getD t undef))::fr) λu=>?_) d
   rw[D3]
   by_cases eu:t=u
   ·subst eu
    rw[if_pos rfl]
    rfl
   ·rw[if_neg eu]
    exact s1.fr u
  ·exact d.elim
set_option maxHeartbeats 1000000 in
theorem g0j{Z:Code}{R:List Nat}{Q:Ex->St->Hp->Prop}
  (D:∀(Q:Ex->St->Hp->Prop) (st:St) (h:Hp) (a:Act) (w:World) (be:Nat->Nat) (oe:Nat->Value) (H:Hp),Sim P h0 w0 be oe H st h a w->ev P Z Q st h->Z.wp P (U0f P h0 w0 Q) a w)
  (f:Sim P h0 w0 be oe H st h a w) (g:c0k (λQ=>ev P Z Q) R Q st h):(Code.loop Z).wp P (U0f P h0 w0 Q) a w:=by
 obtain⟨A,aP,μ,g⟩:=g
 obtain⟨st,oe,g,f⟩:=j0b _ _ _ f g
 obtain⟨st,oe,g,f⟩:=g09 _ _ _ f g
 obtain⟨st,h,g,f⟩:=k08 _ f g
 unfold Y0i at g
 obtain⟨E,bt,g,bu⟩:=h0a st _ g
 obtain⟨ad,g,aF⟩:=k0k st _ g
 obtain⟨ac,bg,⟨aa,g⟩,aG⟩:=l0k st _ g
 rw[C0e]at g
 obtain⟨F,g,aT,aD,aE,_⟩:=i08 A st _ _ g (by simp)
 obtain⟨W,a4,s1⟩:=h08 A R st _ g
 have aU:∀ p∈F,p.1∈R:=λp S=>(aT p S).resolve_right (by simp)
 have bG:∀ t,t ∉ R->f09 A st (D2 W t):=λt bp=>by
  rcases s1 t bp with h|⟨_,h⟩
  ·rw[h];trivial
  ·exact h
 have bi:=λ(vs:List Value) (af:vs.length=(E++ad).length) (os:List (List (List Value))) (aq:os.length=ac.length)=>d09 _ (c09 _ a4 vs af) os aq
 let z:List Value->List BSt->List Own->St:=λE bx ow=>⟨st.n,R09 A.vars E (F++W),bx,ow⟩
 let Inv:Nat->Act->World->Prop:=λm a w=>∃(vs:List Value) (os:List (List (List Value))) (ah aB:List Value) (bx:List BSt) (ow:List Own) (al:Hp) (be:Nat->Nat) (oe:Nat->Value) (H:Hp),
  vs.length=(E++ad).length/\os.length=ac.length/\vs=ah++aB/\ah.length=A.vars.length/\(∀ X,M04 A.boxes aB st.bx X=X bx)/\(∀ X,N04 A.owns os st.ow X=X ow) /\
   atI A aP μ m vs os al/\Sim P h0 w0 be oe H (z ah bx ow) al a w
 have aQ:=e0n f
 have a2:∀ m a w,Inv m a w->Z.wp P (Exit.then (λa w=>∃ U,Inv U a w/\U<m) (U0f P h0 w0 Q)) a w:=by
  rintro m a w ⟨vs,os,ah,aB,bx,ow,al,be,oe,H,af,aq,rfl,br,bj,bl,aa,a0⟩
  have T:=L0m (bi _ af os aq) aa
  rw[←br,g08,bj,bl]at T
  refine Code.wp_mono (λe aj aC S=>?_) (D _ _ _ _ _ _ _ _ a0 T)
  cases e with
  |normal =>
   obtain⟨e,l,aR,bE,aO,J,s2⟩:=S
   dsimp only at J
   obtain⟨e,l,J,s2⟩:=k08 _ s2 J
   unfold M0m at J
   split at J
   ·rename_i a3 bk
    obtain⟨bh,bo,bn,s⟩:=J
    have L:=Nat.eq_of_beq_eq_true a3
    have C:=t06 0 _ _ bo
    have ag:=u06 0 _ _ bn
    simp only[Nat.zero_add]at C ag
    unfold Y0i at s
    obtain⟨ae,aJ,s,bv⟩:=h0a e _ s
    have bc:∀(is:List Nat) {K:List Value->Prop},j0c is e K->(∀ i∈is,i∈A.boxes)->(∀ i∈is,(nth st.bx i).isSome=true) ->
      ∀ i∈is,∃ cs ty cs',nth st.bx i=some (.live cs ty)/\nth e.bx i=some (.live cs' ty)/\ShC e cs cs':=by
     intro is K _ bL ar i d
     cases hb:nth st.bx i with
     |none=>have:=ar i d;rw[hb]at this;cases this
     |some b =>
      grind
    have ar:∀ i∈A.boxes,(nth st.bx i).isSome=true:=by
     have ak:∀(is:List Nat) (vs:List Value) (bx:List BSt),(M04 is vs bx λ_=>True)->∀ i∈is,(nth bx i).isSome=true:=by
      intro is
      induction is with
      |nil=>intro vs bx _ i d;cases d
      |cons j r D =>
       intro vs bx u i d
       simp only[M04]at u
       split at u
       ·rename_i cs ty L
        rcases List.mem_cons.1 d with rfl|d
        ·rw[L];rfl
        ·have ba:∀(cs:List p5) (vs:List Value) (K:List p5->List Value->Prop),I02 cs vs K->∃ a b,K a b:=by
          intro cs
          induction cs with
          |nil=>intro vs K h;exact⟨_,_,h⟩
          |cons c r D =>
           intro vs K h
           cases c with
           |val v =>
            cases vs with
            |nil=>exact h.elim
            |cons bM vs=>obtain⟨a,b,h⟩:=D _ _ h;exact⟨_,_,h⟩
           |own i k=>obtain⟨a,b,h⟩:=D _ _ h;exact⟨_,_,h⟩
         obtain⟨a,b,u⟩:=ba _ _ _ u
         have:=D _ _ u i d
         rw[J6 _ _ _ (P00 L)]at this
         grind
       ·exact u.elim
     exact ak A.boxes ad st.bx (by rw[aF];trivial)
    have bm:∀ i∈A.owns,(nth st.ow i).isSome=true:=by
     have ak:∀(is:List Nat) (vs:List (List (List Value))) (ow:List Own),(N04 is vs ow λ_=>True)->∀ i∈is,(nth ow i).isSome=true:=by
      intro is
      induction is with
      |nil=>intro vs bx _ i d;cases d
      |cons j r D =>
       intro vs ow u i d
       cases vs with
       |nil=>exact u.elim
       |cons x vs =>
        simp only[N04]at u
        split at u
        ·rename_i L
         rcases List.mem_cons.1 d with rfl|d
         ·rw[L];rfl
         ·have:=D _ _ u i d
          rw[J6 _ _ _ (P00 L)]at this
          grind
        ·exact u.elim
     exact ak A.owns ac st.ow (by rw[aG];trivial)
    obtain⟨aN,s,O,aM,bH,bI,bJ,bK⟩:=m0k e A.boxes st.bx (bc _ s (λ_ h=>h) ar) s
    have bd:∀ i∈A.owns,∃ f G sz by_ nn ai V M xs,nth st.ow i=some ⟨f,.live G sz by_ nn ai⟩/\nth e.ow i=some ⟨V,.live G sz by_ M xs⟩/\(nn=true->M=true):=λi d=>by
     cases hb:nth st.ow i with
     |none=>have:=bm i d;rw[hb]at this;cases this
     |some b =>
      rcases ag i b hb with⟨_,f,G,sz,by_,nn,ai,V,M,xs,rfl,l,am,_⟩|⟨q,_⟩
      ·exact⟨f,G,sz,by_,nn,ai,V,M,xs,rfl,l,am⟩
      ·exact absurd d q
    obtain⟨bF,bA,s,N,aK,bB,bC,bD⟩:=n0k e A.owns st.ow bd s
    split at s
    rotate_left
    ·exact s.elim
    rename_i bf
    rw[←aJ,g08,aM,aK]at s
    obtain⟨ab,aY,ao⟩:=v0o s
    have au:∀ i,stamp (z ae O N) i=stamp st i:=λi=>by
     have:=bD i
     unfold stamp
     simp only[z]
     cases q:nth N i<;>cases l:nth st.ow i<;>rw[q,l]at this<;>simp at this<;>simp[this]
    refine⟨ab,⟨ae++aN,bF,ae,aN,O,N,l,aR,bE,aO,?_,?_,rfl,aJ,aM,aK,aY,?_⟩,ao⟩
    ·rw[←af];exact p0k _ _ bf
    ·rw[bA]
     have:ac.length=A.owns.length:=bg
     rw[this]
    ·refine d0n (A:=A) s2 L ?_ ?_ ?_ ?_
     ·intro i b d
      by_cases y:i∈A.boxes
      ·obtain⟨aS,ty,cs',ax,ay,az⟩:=bJ i y
       have:nth O i=some b:=d
       rw[ax]at this
       cases this
       exact .inl ⟨aS,ty,cs',rfl,ay,az⟩
      ·have:nth O i=some b:=d
       rw[bI i y]at this
       rcases C i b this with⟨q,_⟩|⟨_,l,am⟩
       ·exact absurd q y
       ·exact .inr ⟨l,am⟩
     ·intro i o d
      by_cases y:i∈A.owns
      ·obtain⟨aL,G,sz,by_,nn,V,M,xs,ax,ay,az⟩:=bC i y
       have:nth N i=some o:=d
       rw[ax]at this
       cases this
       exact .inl ⟨⟨aL,G,sz,by_,nn,V,M,xs,rfl,ay,az⟩,y⟩
      ·have:nth N i=some o:=d
       rw[bB i y]at this
       rcases ag i o this with⟨q,_⟩|⟨_,l⟩
       ·exact absurd q y
       ·exact .inr ⟨l,y⟩
     ·intro i cs ty d
      have:=bK _ aQ i cs ty d
      have bb:(λj k=>∃ f,stamp (z ae O N) j=some f/\k<=f)=(λj k=>∃ f,stamp st j=some f/\k<=f):=by
       funext j k;rw[au]
      rw[bb]
      exact this
     ·refine Q0p (A:=A) (ds:=R) (st:=st) (av1:=λt=>bv (F++W) t) s2 rfl bH au ?_ aU aD aE bG (C0c F bk) (j08 _ bh)
      intro i k d an
      show stamp e i=stamp (z ae O N) i
      rw[au i]
      cases hb:nth st.ow i with
      |none=>unfold stamp at an;rw[hb]at an;cases an
      |some b =>
       rcases ag i b hb with⟨q,aL,G,sz,by_,nn,ai,V,M,xs,rfl,l,_,aW⟩|⟨_,l⟩
       ·have:=aW (d.resolve_left (λh=>h q))
        simp[stamp,hb,l,this]
       ·unfold stamp
        rw[hb,l]
   ·exact J.elim
  |exit i=>exact S
  |ret=>exact S
  |_=>exact S
 have a1:Sim P h0 w0 be oe H (z E st.bx st.ow) h a w:=by
  refine f.refr (fr:=R09 A.vars E (F++W)) λt=>?_
  have aV:=f.fr t
  have I:=f.rdA aV
  rcases bu (F++W) t with⟨q,bs⟩|⟨v,q,l⟩
  ·rw[q]
   rcases B0c F W t with⟨av,aA,ab⟩|⟨aA,ab⟩
   ·rw[ab]
    rcases aD _ aA with rfl|⟨i,k,rfl,_,T⟩|⟨i,o,rfl,_,T⟩
    ·trivial
    ·rw[T]at I;exact I
    ·rw[T]at I;exact I
   ·rw[ab]
    have bq:t ∉ R:=λz=>by
     obtain⟨av,y⟩:=aE t z bs
     exact aA av y
    rcases s1 t bq with h|⟨h,_⟩
    ·rw[h];trivial
    ·rw[h];exact I
  ·rw[q]
   rw[l]at I
   exact I
 obtain⟨bz,aa⟩:=K0m (μ:=μ) aa
 have aX:Inv bz a w:=⟨E++ad,ac,E,ad,st.bx,st.ow,h,be,oe,H,rfl,rfl,rfl,bt,aF,aG,aa,a1⟩
 classical
 let Y:Act->World->Nat:=λa w=>if C:∃ m,Inv m a w then Classical.choose (r0h _ C)else 0
 refine wp_loop (λa w=>∃ m,Inv m a w) Y ⟨_,aX⟩ λa w C=>?_
 have aZ:Y a w=Classical.choose (r0h _ C):=by simp only[Y,dif_pos C]
 refine Code.wp_mono (λe aj aC aH=>?_) (a2 _ a w (Classical.choose_spec (r0h _ C)).1)
 cases e with
 |normal =>
  obtain⟨U,ap,ao⟩:=aH
  refine⟨⟨U,ap⟩,?_⟩
  have aw:∃ m,Inv m aj aC:=⟨U,ap⟩
  have:Y aj aC=Classical.choose (r0h _ aw):=by simp only[Y,dif_pos aw]
  rw[aZ,this]
  exact Nat.lt_of_le_of_lt ((Classical.choose_spec (r0h _ aw)).2 U ap) ao
 |_=>exact aH
end
end Go.H
namespace Go.H
set_option linter.unusedVariables false
set_option linter.unusedSimpArgs false
section
variable {P:Program} {h0:Hp} {w0:World} {be:Nat->Nat} {oe:Nat->Value} {H:Hp} {st:St} {h:Hp} {a:Act} {w:World}
theorem f0n(c:Code):∀(Q:Ex->St->Hp->Prop) (st:St) (h:Hp) (a:Act) (w:World) (be:Nat->Nat) (oe:Nat->Value) (H:Hp),Sim P h0 w0 be oe H st h a w->ev P c Q st h->c.wp P (U0f P h0 w0 Q) a w:=by
 induction c with
 |skip=>exact λQ st h a w be oe H f j=>wp_skip ⟨st,h,be,oe,H,j,f⟩
 |region id ops d=>grind[V0f]
 |seq x y o p =>
  intro Q st h a w be oe H f j
  refine wp_seq (Code.wp_mono (λe a w l=>?_) (o _ _ _ _ _ _ _ _ f j))
  cases e with
  |normal=>obtain⟨st,h,be,oe,H,k,f⟩:=l;exact p _ _ _ _ _ _ _ _ f k
  |exit i=>exact l
  |ret=>exact l
  |_=>exact l
 |cond c x y o p =>
  intro Q st h a w be oe H f j
  simp only[ev]at j
  split at j
  ·rename_i b m
   have g:=f.rdO c
   rw[m]at g
   exact wp_cond_split g (λe=>o _ _ _ _ _ _ _ _ f (j.1 e)) (λe=>p _ _ _ _ _ _ _ _ f (j.2 e))
  ·exact j.elim
 |block id c n =>
  intro Q st h a w be oe H f j
  refine wp_block (Code.wp_mono (λe a w l=>?_) (n _ _ _ _ _ _ _ _ f j))
  cases e with
  |normal=>exact l
  |exit i =>
   obtain⟨st,h,be,oe,H,k,f⟩:=l
   simp only[Exit.inBlock]
   dsimp only at k
   cases m:Nat.beq i id with
   |true =>
    rw[m]at k
    rw[if_pos (Nat.eq_of_beq_eq_true m)]
    exact⟨st,h,be,oe,H,k,f⟩
   |false =>
    rw[m]at k
    rw[if_neg (Nat.ne_of_beq_eq_false m)]
    exact⟨st,h,be,oe,H,k,f⟩
  |ret=>exact l
  |_=>exact l
 |loop c n=>exact λQ st h a w be oe H f j=>g0j n f j
 |exit i=>exact λQ st h a w be oe H f j=>wp_exit ⟨st,h,be,oe,H,j,f⟩
 |ret=>exact λQ st h a w be oe H f j=>wp_ret ⟨st,h,be,oe,H,j,f⟩
 |_=>exact λQ st h a w be oe H f j=>j.elim
def F0o(tmps:Array Value):ResultVar->Sem Value
 | .tmp t=>pure (tmps.getD t undef)
 | .cell a t=>do loadVar t (←asAddr (tmps.getD a undef))
theorem l08:∀(l:List ResultVar) (st:St) (h:Hp) {K:List Value->St->Hp->Prop},Sim P h0 w0 be oe H st h a w->b0j P l st h K ->
  ∃ vs st' q,K vs st' q/\Sim P h0 w0 be oe H st' q a w/\(l.mapM (F0o a.tmps)).run P w = .ok vs w
 | [],st,h,K,c,d=>⟨[],st,h,d,c,rfl⟩
 | .tmp t::r,st,h,K,c,d=>by
  obtain⟨n,f,m,s1,_⟩:=X01 c (c.rdA (c.fr t)) d
  obtain⟨vs,y,s,p,s2,u⟩:=l08 r n f s1 m
  grind[Sem.run_bind,F0o,Sem.run_pure,Result.andThen_ok]
 | .cell t ty::r,st,h,K,c,d=>by
  simp only[b0j]at d
  split at d
  ·rename_i i off u
   split at d
   ·rename_i cs L E
    have g:=c.rdA (c.fr t)
    rw[u]at g
    obtain⟨f,vs,s,A⟩:=c.box i cs L E
    obtain⟨av,v,G,I,J⟩:=R.load_row (H:=H) (b:=be i) (o:=0) (be:=be) d s (λj v C=>by simp[Hp.cell,A,C])
    obtain⟨n,f,m,s1,_⟩:=X01 c I G
    obtain⟨M,y,z,p,s2,F⟩:=l08 r n f s1 m
    refine⟨_,y,z,p,s2,?_⟩
    have D:(loadVar ty ⟨be i,off,none⟩).run P w = .ok v w:=by
     obtain⟨x,k,e⟩:=R.wpR_sound _ _ w c.mv.vis (J (λx _=>x=v) rfl)
     rw[Nat.zero_add]at k
     rw[k,e]
    have k:a.tmps.getD t undef=ptr (be i) off:=g.2
    simp only[List.mapM_cons,Sem.run_bind,F0o,k,ptr,asAddr,Sem.run_pure,Result.andThen_ok,D,F]
   ·exact d.elim
  ·exact d.elim
theorem E0e:∀(args:List Value) (i a:Nat),D2 (M08 i args) a = .dead∨D2 (M08 i args) a = .val (if i<=a then args.getD (a-i) undef else undef)
 | [],i,a => .inl rfl
 |v::r,i,a=>by
  simp only[M08]
  rw[D3]
  by_cases e:i=a
  ·subst e;right;simp
  ·rw[if_neg e]
   rcases E0e r (i+1) a with b|b
   all_goals grind
theorem j2.less{h a H:Hp}{w e:World}(m:j2 h w H e)(d:∀ b o,a b=some o->H b=some o):j2 h w a e:=by
 refine⟨m.os,m.tape,m.output,m.size,m.keep,λb o c=>m.vis b o (d b o c),λb c=>?_,m.fz,m.dn⟩
 cases hc:a b with
 |none=>exact absurd hc c
 |some o=>exact m.fresh b (by rw[d b o hc];simp)
theorem h0j{f:FuncId}{fn:Func}{args:List Value}{o:Value->Hp->Prop}(hf:P.funcs[f]?=some fn)(m:J0p P fn args h o):Tr P f args.toArray h o:=by
 refine⟨λw D=>?_⟩
 unfold J0p at m
 split at m
 ·rename_i c z
  split at m
  ·rename_i s
   have s:=Nat.le_of_ble_eq_true s
   have E:Sim P h w (λ_=>0) (λ_=>undef) h ⟨fn.ntmps,M08 0 args,[],[]⟩ h { tmps:=args.toArray++Array.replicate (fn.ntmps-args.toArray.size) undef,defers:=[] } w:=by
    refine⟨j2.refl D,λ_ _ h=>h,(λi cs ty d=>nomatch d),(λi b d=>nomatch d),(λi a e sz by_ nn xs d=>nomatch d),(λi a v d=>nomatch d),(λi j cs ty cs' M d=>nomatch d),
     (λi j a e sz by_ nn xs J G L F I N g d=>nomatch d),(λi cs ty j a e sz by_ nn xs d=>nomatch d),rfl,by simp;omega,λa=>?_⟩
    rcases E0e args 0 a with k|k
    ·grind[O1,D2,M08]
    show O1 _ _ _ (D2 (M08 0 args) a) _
    rw[k]
    simp only[Nat.zero_le,if_true,Nat.sub_zero]
    show _=_
    simp only[Array.getD_eq_getD_getElem?]
    grind
   refine calls_of_wp hf z (Code.wp_mono (λe n q p=>?_) (f0n c _ _ _ _ _ _ _ _ E m))
   have fin:∀ {st k be oe H},b0j P fn.results.toList st k (λvs _ h=>o (T0g vs) h)->Sim P h w be oe H st k n q->n.defers = []/\∃ v,(results fn n.tmps).run P q = .ok v q/\∃ t k,Ending.returned v = .returned t/\o t k/\j2 h w k q:=by
    intro st k be oe H l a
    obtain⟨vs,K,y,u,s2,A⟩:=l08 _ _ _ a l
    refine⟨a.dfr,T0g vs,?_,T0g vs,y,rfl,u,s2.mv.less s2.sub⟩
    have C:results fn n.tmps=(fn.results.mapM (F0o n.tmps) >>= λvs=>pure (if h:vs.size=1 then vs[0]else .tuple vs)):=by
     unfold results
     congr 1
    rw[C,Array.mapM_eq_mapM_toList]
    simp only[Sem.run_bind,Sem.run_map,A,Result.andThen_ok,Sem.run_pure]
    cases vs with
    |nil=>rfl
    |cons x r=>cases r<;>rfl
   cases e with
   |normal=>obtain⟨st,k,be,oe,H,l,a⟩:=p;exact fin l a
   |ret=>obtain⟨st,k,be,oe,H,l,a⟩:=p;exact fin l a
   |exit i=>obtain⟨st,k,be,oe,H,l,a⟩:=p;exact l.elim
   |_=>exact p.elim
  ·exact m.elim
 ·exact m.elim
end
end Go.H
namespace Go.H
open Go.RowKit Go.ChangeShapes Go.WideShapes Go.ChangeAt
set_option linter.unusedVariables false
theorem Tr.val{P:Program}{f:FuncId}{args:Array Value}{h:Hp}{x:Value}{a:Value->Hp->Prop}(t:Tr P f args h λv d=>v=x/\d=h)(e:a x h):Tr P f args h a :=
 t.mono λ_ _ ⟨b,c⟩=>by rw[b,c];exact e
theorem Tr.calls{P:Program}{f:FuncId}{args:Array Value}{c:World}{x:Value}(t:Tr P f args (λb=>c.heap[b]?) λv g=>v=x/\∀ b o,c.heap[b]?=some o->g b=some o):
  Calls P f args c λe d=>e = .returned x/\Below c.heap.size c d/\∀ a:Addr,a.block<c.heap.size->d.frozen? a=c.frozen? a:=by
 refine(t.run c (λb o h=>h)).mono ?_
 rintro e d ⟨v,g,rfl,⟨rfl,i⟩,m⟩
 refine⟨rfl,⟨m.os,m.tape,m.output,m.size,λk j=>?_⟩,m.fz⟩
 have:c.heap[k]?=some c.heap[k]:=by simp[j]
 rw[this]
 exact m.vis _ _ (i k _ this)
theorem w64{x:Int}(a : -9223372036854775808<=x)(b:x<=9223372036854775807):IntKind.i64.wrap x=x:=by
 simp[IntKind.wrap,IntKind.signed,IntKind.bits]
 omega
theorem D0l{n:Nat}(h:n<=maxLen):n<=9223372036854775807:=by
 grind[maxLen]
def J0(x:Int):Prop := -9223372036854775808<=x/\x<=9223372036854775807
theorem N0q{x:Int}(h:(Lit.int .i64 x).wf=true):J0 x:=by
 simpa [Lit.wf,IntKind.min,IntKind.max,IntKind.signed,IntKind.bits,J0] using h
section
variable {H:Type} {enc:TypeId×Value->H} {P:Program}
theorem S07(i:laidOutB P=true){c f:World}(g:Below c.heap.size c f){m:Nat->Bool}:∀ {e:List TypeId} {vs:List Value} {ds:List (DataW H)} {b:List MemPlace},
  (∀ t∈e,P.readableRec t=true/\t<P.types.size)->DataW.TrodAll enc P c 0 (λ_=>true) true e vs ds b->(∀ p∈b,p.block<c.heap.size)->(∀ p∈b,m p.block=true) ->
  DataW.TrodAll enc P f 0 m true e vs ds b
 | [],vs,ds,b,_,h,_,_=>by
  obtain⟨rfl,rfl,rfl⟩:=trodAll_nil h
  exact rfl
 |t::e,vs,ds,b,l,h,j,k=>by
  obtain⟨v,z,d,y,p,q,rfl,rfl,rfl,n,o⟩:=trodAll_cons h
  obtain⟨u,w⟩:=l t mS
  refine⟨p,q,WideElems.Trod_stays i u w n (λx a=>g.same (j x (List.mem_append_left _ a))) (λx a=>k x (List.mem_append_left _ a)),?_,rfl⟩
  exact S07 i g (λt s=>l t (mC _ s)) o (λx a=>j x (List.mem_append_right _ a)) (λx a=>k x (List.mem_append_right _ a))
theorem v0b{f:Func}{h:ChangeSpec}{n fresh y x:Bool}{i d:World}{args:Array Value}{v:Value}{ds k:List (DataW H)}{e pa pv:List MemPlace}
  (l:DataW.Whole enc P f.params.toList h.vars n i args.toList ds k e)
  (u:∀(b:Nat) (g:Nat->Bool) (z:Bool),DataW.TrodAll enc P d b g z f.resultTypes.toList (v.resultList f.resultTypes.size) (h.fn H (ds++k)).results [])
  (o:∀ g:Nat->Bool,(∀ p∈e,g p.block=true)->DataW.TrodAll enc P d 0 g true f.params.toList args.toList (h.fn H (ds++k)).args pa)
  (w:∀ g:Nat->Bool,(∀ p∈e,g p.block=true)->DataW.TrodVars enc P d g h.vars (h.fn H (ds++k)).vars pv)
  (q:e=pa++pv) (C:i.keptBut d (·∈e)) (A:∀ a:Addr,a.block<i.heap.size->d.frozen? a=i.frozen? a)
  (D:∀(j:Nat) (t:TypeId) (r:Value),f.resultTypes[j]?=some t->(v.resultList f.resultTypes.size)[j]?=some r->Value.okWide P d .any 0 t r) :
  h.post enc P f n fresh y x i args v d:=by
 have m:=λp c=>l.lt (p:=p) c
 refine⟨ds,k,e,[],pa,pv,l,u _ _ _,o _ (λp c=>by simpa using m p c),w _ (λp c=>by simpa using m p c),World.keptBut_mono (λp c=>⟨c,.inr (by rwa [q,List.mem_append]at c)⟩) C,λ_=>?_⟩
 obtain⟨_,_,_,_,_,E,F⟩:=l
 have s:([]++pa)++pv=e:=by simp[q]
 refine⟨D,_,_,([]++pa)++pv,⟨[]++pa,pv,trodAll_append (o _ (λ_ _=>rfl)) (u _ _ _),w _ (λ_ _=>rfl),rfl,?_,?_⟩,λp c _=>by rwa [s]at c⟩
 ·intro b off c
  rw[s]at c
  rw[A _ (m _ c)]
  exact E b off c
 grind
theorem g0n{f:Func}{c:ChangeSpec}{g fresh w o:Bool}{b d:World}{args:Array Value}{ds h:List (DataW H)}{s:List MemPlace}{n:TypeId}
  (D:laidOutB P=true) (F:∀ t∈f.params.toList,P.readableRec t=true/\t<P.types.size) (m:c.vars = []) (j:c.fn H (ds++h) = { results:=[.lit (.bool true)],args:=ds })
  (k:f.resultTypes = #[n]) (l:P.underlying n=some .bool) (e:DataW.Whole enc P f.params.toList c.vars g b args.toList ds h s)
  (u:Below b.heap.size b d) (x:∀ a:Addr,a.block<b.heap.size->d.frozen? a=b.frozen? a):c.post enc P f g fresh w o b args (.bool true) d:=by
 have E:=λp y=>e.lt (p:=p) y
 have v:=e
 obtain⟨p,q,C,i,rfl,_,_⟩:=e
 rw[m]at i
 obtain⟨rfl,rfl⟩:=trodVars_none i
 refine v0b (pa:=p) (pv:=[]) v (λ_ _ _=>?_) (λA z=>?_) (λA z=>?_) rfl (u.frame _) x (ok_one k rfl (okWide_bool_mk l _))
 ·rw[j,k]
  exact trodAll_mk1 (shut_bool l _)
 ·grind[S07,List.mem_append_left]
 ·rw[j,m]
  exact rfl
end
end Go.H
